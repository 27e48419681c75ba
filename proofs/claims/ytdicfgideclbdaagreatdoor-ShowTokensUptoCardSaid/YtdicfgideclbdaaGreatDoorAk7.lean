import Derived.Test.YtdicfgideclbdaaGreatDoorProg
import Derived.Test.YtdicfgideclbdaaGreatDoorAk6
set_option maxHeartbeats 64000000
set_option linter.all false
namespace Go.TL
open Go
variable {m m':M}{sz tid a d:Nat}{e t' ty:TypeId}{x y:Operand}{ie:TyI}{cs vs:List SV}{H' H0 H:Heap}{es:List T}{P:Program}{env:Env}{K:TK}{all:Array Oper}{rest:List Oper}{aft:Array Edge}{q:Bool}
structure zhJ (b:Nat) (m m':M):Prop where
 os:m'.w.os=m.w.os
 tape:m'.w.tape=m.w.tape
 output:m'.w.output=m.w.output
 size:m.w.heap.size≤m'.w.heap.size
 more:∀b o,m.A b o->m'.A b o
 fromA:∀b o,m'.A b o->m.A b o\/Own m b o\/m.w.heap.size≤b
 fromO:∀b o,Own m' b o->Own m b o\/m.w.heap.size≤b
 cell:∀b o,b<m.w.heap.size->¬Own m b o->m'.w.cell? ⟨b,o,none⟩=m.w.cell? ⟨b,o,none⟩
 frozen:∀b o,b<m.w.heap.size->¬Own m b o->(m.w.cell? ⟨b,o,none⟩).isSome=true->m'.w.frozen? ⟨b,o,none⟩=m.w.frozen? ⟨b,o,none⟩
 block:∀b,b<m.w.heap.size->(∀o,¬Own m b o)->m'.w.heap[b]?=m.w.heap[b]?
 shape:∀b s,m.w.shape? b=some s->m'.w.shape? b=some s
 loop:∀(b:Nat) (L:Loop),m.w.heap[b]?=some (Obj.loop L)->∃L':Loop,m'.w.heap[b]?=some (Obj.loop L')
 isSome:∀b o,b<m.w.heap.size->(m.w.cell? ⟨b,o,none⟩).isSome=true->(m'.w.cell? ⟨b,o,none⟩).isSome=true
 ids:∀(i:Nat) p,i<b->m.β[i]?=some p->∃p',m'.β[i]?=some p'/\zaZ m.H[i]? m'.H[i]? p p'
theorem Step.toB{b:Nat}(s:Step m m'):zhJ b m m':=
 ⟨s.os,s.tape,s.output,s.size,s.more,s.fromA,s.fromO,s.cell,s.frozen,s.block,s.shape,s.loop,s.isSome,fun i p _ hp=>s.ids i p hp⟩
theorem zhJ.full{b:Nat}(hb:m.β.length≤b)(s:zhJ b m m'):Step m m':=
 ⟨s.os,s.tape,s.output,s.size,s.more,s.fromA,s.fromO,s.cell,s.frozen,s.block,s.shape,s.loop,s.isSome,fun i p hp=>s.ids i p (by have:=(qaa.1 hp).1;omega) hp⟩
theorem zhJ.trans{d:Nat}{a b c:M}(h:zhJ d a b)(k:zhJ d b c):zhJ d a c where
 os:=k.os.trans h.os
 tape:=k.tape.trans h.tape
 output:=k.output.trans h.output
 size:=qax h.size k.size
 more:=fun x o hx=>k.more _ _ (h.more _ _ hx)
 fromA:=fun x o hx=>by
  exact zwbc
 fromO:=fun x o hx=>by
  exact zwdo
 cell:=fun x o hx hn=>by
  exact zwcc
 frozen:=fun x o hx hn hc=>by
  exact zwbm
 block:=fun x hx hn=>by
  exact zwca
 shape:=fun b s hs=>k.shape b s (h.shape b s hs)
 loop:=fun b L hL=>let ⟨L1,h1⟩:=h.loop b L hL;k.loop b L1 h1
 isSome:=fun x o hx hs=>k.isSome x o (qbc hx h.size) (h.isSome x o hx hs)
 ids:=fun i p hi hp=>by
  obtain⟨p1,hp1,h1⟩:=h.ids i p hi hp;obtain⟨p2,hp2,h2⟩:=k.ids i p1 hi hp1;exact zwfb
theorem zhJ.lies{b:Nat}{m0 mc:M}{r:Nat->Nat}(s:zhJ b m0 m)(l:Lies mc m r)(hb:b≤mc.H.length)(hr:∀i,i<b->r i=i):zhJ b m0 mc:=by
 refine⟨by rw[l.w];exact s.os,by rw[l.w];exact s.tape,by rw[l.w];exact s.output,by rw[l.w];exact s.size,by rw[l.A];exact s.more,by rw[l.A];exact s.fromA,fun b o h=>s.fromO b o (l.own h),by rw[l.w];exact s.cell,by rw[l.w];exact s.frozen,by rw[l.w];exact s.block,by rw[l.w];exact s.shape,by rw[l.w];exact s.loop,by rw[l.w];exact s.isSome,fun i p hi hp=>?_⟩;obtain⟨p',hp',h⟩:=s.ids i p hi hp;have h1:mc.β[i]?=some (mc.β[i]'(by rw[l.len];omega)):=qad _;have h2:=l.β i _ h1;rw[hr i hi,hp']at h2;have h3:mc.H[i]?=some (mc.H[i]' oA):=qad _;have h4:=l.H i _ h3;rw[hr i hi]at h4;refine⟨p',by rw[h1];exact h2.symm,?_⟩;rw[h3];rw[h4]at h;unfold zaZ at h⊢;have ht:=zc1 r (some (mc.H[i]' oA));rw[qaT]at ht;rw[ht]at h;exact h
def zAs(b:Nat)(φ:Fm)(m:M)(n:Nat)(K:TK)(e:Exit)(a:Act)(w:World):Prop:=
 ∃(m':M) (env:Env) (te:zev),m'.w=w/\zhJ b m m'/\HRel m'/\ERel m' n env a.tmps/\zdE φ m'.w a.defers/\zbe m' te e/\K te env m'.H
def zfq{ι:Type}(b:Nat)(I:ι->Prop)(μ:ι->Nat)(E:ι->Env)(G:ι->Heap)(x:ι)(K:TK):TK
 | .normal,env,H=>∃y l,I y/\μ y<μ x/\Hands H l (G y)/\b≤(G y).length/\(∀i,i<b->names l H.length i=i)/\(E y).under (G y).length=true/\∀i v,(E y).look i=some v->∃u,env.look i=some u/\Le u (v.ren (names l H.length))
 | e,env,H=>K e env H
theorem zwB:∀(k:Nat) {m:M},HRel m->∃m':M,Step m m'/\HRel m'/\m'.H=m.H++List.replicate k .dead/\m'.w=m.w
 | 0,m,hm=>⟨m,Step.refl m,hm,oC,rfl⟩
 | k+1,m,hm=>by
   obtain⟨s,hm1⟩:=zlS hm;obtain⟨m',s',h1,h2,h3⟩:=zwB k hm1;refine⟨m',s.trans s',h1,?_,h3⟩;rw[h2,qay,qbN];rfl
section rules
variable {n:Nat}
theorem TR.zkI{ι:Type}(I:ι->Prop)(μ:ι->Nat)(E:ι->Env)(G:ι->Heap)(x0:ι){c:Code}(hI:I x0)(h0:env.sub (E x0))(pad:Nat)(hH:H++List.replicate pad .dead=G x0)
  (step:∀x,I x->TR P n c (E x) (G x) (zfq H.length I μ E G x K)):TR P n (.loop c) env H K:=by
 have key:∀m x,μ x=m->I x->∀(φ:Fm) (m0:M) (a:Act),m0.H=G x->HRel m0->ERel m0 n (E x) a.tmps->zdE φ m0.w a.defers->Code.wpr P φ.r (.loop c) (zAs H.length φ m0 n K) a m0.w:=by
  intro m
  induction m using Nat.strongRecOn with
  | _ m ih=>
    intro x hm hx φ m0 a h1 h2 h3 h4;refine zp2 (fun e a w hq=>?_) (za5 (step x hx φ m0 a h1 h2 h3 h4) ?_)
    ·obtain⟨_,_,te,_,_,_,_,_,g6,_⟩:=hq;refine⟨fun l h=>?_,fun h=>?_⟩
     ·subst h;cases te <;> simp[zbe]at g6
     ·subst h;cases te <;> simp[zbe]at g6
    ·rintro e a' w ⟨m',env',te,rfl,s,hm',he,hd,hx',hk⟩;cases te with
     | normal=>
       obtain⟨y,l,hy,hlt,hh,hb,hr,hu,hE⟩:=hk;cases e <;> simp[zbe]at hx'
       have lies:=zhy hm' hh;have s1:=(s.toB (b:=H.length)).lies lies hb hr;have hm1:=lies.hrel hm'
       have:=ih (μ y) oA y rfl hy φ (cutM m' l (G y)) a' rfl hm1 ⟨he.1,fun i v hv=>?_⟩ hd
       ·refine za5 this ?_;rintro e2 a2 w2 ⟨m2,env2,te2,g1,g2,g3⟩;exact⟨m2,env2,te2,g1,s1.trans g2,g3⟩
       ·obtain⟨u,u1,u2⟩:=hE i v hv;obtain⟨z,z1,z2⟩:=he.2 i u u1;exact⟨z,z1,lies.zd1 (u2 _ _ z2) (Env.zgP hu i v hv)⟩
     | exit i=>cases e <;> simp[zbe]at hx';subst hx';exact⟨m',env',.exit _,rfl,s.toB,hm',he,hd,rfl,hk⟩
     | ret=>cases e <;> simp[zbe]at hx';exact⟨m',env',.ret,rfl,s.toB,hm',he,hd,trivial,hk⟩
     | panic v=>
       cases e with
       | panic ch=>exact⟨m',env',.panic v,rfl,s.toB,hm',he,hd,hx',hk⟩
       | _=>exact oI hx' (by simp[zbe])
 refine TR.sub (E x0) h0 ?_;intro φ m a h1 h2 h3 h4;obtain⟨mp,p1,p2,p3,p4⟩:=zwB pad h2
 have:=key _ x0 rfl hI φ mp a (by rw[p3,h1];exact hH) p2 (h3.step h2 p1) (h4.step h2 p1)
 rw[p4]at this;refine za5 this ?_;rintro e a' w ⟨m',env',te,g1,g2,g3⟩;exact⟨m',env',te,g1,(p1.toB.trans g2).full (by rw[h2.len,h1];exact qag _),g3⟩
end rules
theorem zdw(r:Nat->Nat)(sz n id:Nat):(rowV sz n id).ren r=rowV sz n (r id):=by
 unfold rowV;cases n <;> rfl
theorem zbV{n id k:Nat}(h:id<k):(rowV sz n id).under k=true:=by
 unfold rowV;cases n with
 | zero=>rfl
 | succ n=>show Nat.blt id k=true;simpa [qbn]using h
theorem zen(r:Nat->Nat)(n:Nat)(cs:List T):(rowB n (cs.map .t)).ren r=rowB n (cs.map .t):=by
 unfold rowB;cases n with
 | zero=>rfl
 | succ n=>show Blk.cells (rens r _)=_;rw[zsY];rfl
theorem zdX(k n:Nat)(cs:List T):(rowB n (cs.map .t)).under k=true:=by
 unfold rowB;cases n with
 | zero=>rfl
 | succ n=>exact zla _ _
def ErrX(c:Int)(v pv:SV)(H1:Heap)(N:Nat):Res->Heap->Prop:=fun r H'=>if c=0 then r= .ret v/\H'=H1 else r= .panic pv/\H'=List.replicate N .dead
def zer(H:Heap)(r:Nat->Nat):List Nat->Heap->Prop
 | [],[]=>True
 | i::l,b::bs=>H[i]?=some (b.ren r)/\zer H r l bs
 | _,_=>False
theorem zer.get{H:Heap}{r:Nat->Nat}:∀ {l:List Nat} {Hc:Heap},zer H r l Hc->l.length=Hc.length/\∀(j i:Nat) b,l[j]?=some i->Hc[j]?=some b->H[i]?=some (b.ren r)
 | [],[],_=>oC
 | i::l,b::bs,h=>by
   obtain⟨g1,g2⟩:=zer.get h.2;refine⟨by simp[g1],fun j i' b' hj hb=>?_⟩;cases j with
   | zero=>simp at hj hb;subst hj hb;exact h.1
   | succ j=>exact g2 j i' b' (by simpa using hj) (by simpa using hb)
 | [],_::_,h=>by exact h.elim
 | _::_,[],h=>by exact h.elim
theorem Hands.ofF{Hc:Heap}{l:List Nat}(hn:l.Nodup)(hf:zer H (names l H.length) l Hc)(hu:zaa Hc.length Hc=true):Hands H l Hc:=by
 obtain⟨g1,g2⟩:=hf.get;refine⟨hn,fun x hx=>?_,g1,g2,zcf hu⟩;obtain⟨j,hj⟩:=qbg hx;have hjl:=(qaa.1 hj).1
 have:=g2 j x _ hj (qad oA)
 exact(qaa.1 this).1
def EnvR(env:Env)(r:Nat->Nat):Env->Prop
 | []=>True
 | (i,v)::E=>(∃u,env.look i=some u/\Le u (v.ren r))/\EnvR env r E
theorem EnvR.get{env:Env}{r:Nat->Nat}:∀ {E:Env},EnvR env r E->∀i v,E.look i=some v->∃u,env.look i=some u/\Le u (v.ren r)
 | [],_,i,v,h=>by simp[Env.look]at h
 | (j,w)::E,h,i,v,hv=>by
   by_cases hi:j=i
   ·subst hi;rw[Env.zap]at hv;cases hv;exact h.1
   ·rw[Env.zah _ _ hi]at hv;exact EnvR.get h.2 i v hv
section rules
variable {n:Nat}{tab:Tab}
variable {pos:String}
section loopr
variable {ι:Type}{b:Nat}{I:ι->Prop}{μ:ι->Nat}{E:ι->Env}{G:ι->Heap}{x:ι}
theorem zfq.next(y:ι)(l:List Nat)(hI:I y)(hm:μ y<μ x)(hh:Hands H l (G y))(hb:b≤(G y).length)(hr:∀i,i<b->names l H.length i=i)(hu:(E y).under (G y).length=true)(hE:EnvR env (names l H.length) (E y)):zfq b I μ E G x K .normal env H:=⟨y,l,hI,hm,hh,hb,hr,hu,hE.get⟩
theorem zfq.exit{i:Nat}(h:K (.exit i) env H):zfq b I μ E G x K (.exit i) env H:=h
end loopr
theorem TO.lenR(hT:zas P tab){t:TypeId}{i:TyI}{id len:Nat}(hd:Nat.ble (d+1) n=true)(ht:tab.get t=some i)(hk:i.k= .slice e)(hx:env.val x=some (rowV sz len id))
  (k:TO q P n all rest ((d,.t (.v (.int .i64 len)))::env) H K):TO q P n all (⟨some d,.call { callee:=.builtin .len,args:=#[x],argTypes:=#[t] },ty,pos,aft,none⟩::rest) env H K:=
 TO.op hd (fun m ac h1 h2 h3=>⟨.int .i64 len,fun w' hw'=>by
  have h:=h3.val hx;cases len with
  | zero=>
    have:=h.v_eq
    simp[execOp,resolve,invoke,builtin,Builtin.len_,underlying,(hT t i ht).slice hk,this,goInt]
  | succ len=>
    rw[zc0 oA]at h;generalize hy:ac.eval x=y at h;cases h;simp[execOp,resolve,invoke,builtin,Builtin.len_,underlying,(hT t i ht).slice hk,hy,goInt],.t _ _ (.v _)⟩) k
theorem TO.zm6(hT:zas P tab){t:TypeId}{i i':TyI}{id len:Nat}{ys:List T}{vy:SV}(hd:Nat.ble (d+1) n=true)(ht:tab.get t=some i)(hk:i.k= .slice e)(ht':tab.get t'=some i')(hk':i'.k= .slice e)
  (he:tab.get e=some ie)(hs:ie.size=sz)(hpos:Nat.ble 1 sz=true)(hx:env.val x=some (rowV sz len id))(hH:H[id]?=some (rowB len cs))(hcs:cs.length=len*sz)(hy:env.val y=some vy)(hvy:vy.elems sz=some ys)(hn:0<ys.length)
  (hby:Nat.ble ie.bytes 4096=true)(hb1:len+ys.length≤10000000000)(hH':H.set id .dead++[.cells (cs++(ys.map T.cells).flatten.map .t)]=H')
  (k:TO false P n all rest ((d,.ms sz H.length 0 (len+ys.length))::env) H' K):TO false P n all (⟨some d,.call { callee:=.builtin .append,args:=#[x,y],argTypes:=#[t,t'] },ty,pos,aft,none⟩::rest) env H K:=
 TO.eff hd (fun m ac h1 h2 h3=>by
  have h4:=qaj hby;have h5:(len+ys.length)*ie.bytes≤10000000000*4096:=qbU hb1 h4;obtain⟨z,m',r1,s,hm',hHm,hr⟩:=zhN (P:=P) hT h2 (ty:=ty) ht hk ht' hk' he hs (qaj hpos) (h3.val hx) (by rw[h1];exact hH) hcs (Elems.tree ((h3.val hy).elems hvy) (qaj hpos)) hn oA oA oA;exact⟨z,m',by simp[execOp,resolve,invoke,builtin,r1],s,hm',by rw[hHm,h1];exact hH',by rw[<-h1];exact hr⟩) k
theorem TO.zt3(hT:zas P tab){t:TypeId}{i i':TyI}{id idy len n2:Nat}(hd:Nat.ble (d+1) n=true)(ht:tab.get t=some i)(hk:i.k= .slice e)(ht':tab.get t'=some i')(hk':i'.k= .slice e)
  (he:tab.get e=some ie)(hs:ie.size=sz)(hpos:Nat.ble 1 sz=true)(hx:env.val x=some (rowV sz len id))(hH:H[id]?=some (rowB len cs))(hcs:cs.length=len*sz)(hy:env.val y=some (.ms sz idy 0 n2))(hHy:H[idy]?=some (.cells vs))(hvl:vs.length=n2*sz)(hn:0<n2)
  (hby:Nat.ble ie.bytes 4096=true)(hb1:len+n2≤10000000000)(hH':H.set id .dead++[.cells (cs++vs)]=H')
  (k:TO false P n all rest ((d,.ms sz H.length 0 (len+n2))::env) H' K):TO false P n all (⟨some d,.call { callee:=.builtin .append,args:=#[x,y],argTypes:=#[t,t'] },ty,pos,aft,none⟩::rest) env H K:=
 TO.eff hd (fun m ac h1 h2 h3=>by
  have h4:=qaj hby;have h5:(len+n2)*ie.bytes≤10000000000*4096:=qbU hb1 h4;have hE:=Elems.ms (P:=P) h2 (h3.val hy) (by rw[h1];exact hHy) oA;rw[qbj,qaJ oA]at hE;obtain⟨z,m',r1,s,hm',hHm,hr⟩:=zhN (P:=P) hT h2 (ty:=ty) ht hk ht' hk' he hs (qaj hpos) (h3.val hx) (by rw[h1];exact hH) hcs hE hn oA oA oA;exact⟨z,m',by simp[execOp,resolve,invoke,builtin,r1],s,hm',by rw[hHm,h1];exact hH',by rw[<-h1];exact hr⟩) k
theorem TO.zt8(hT:zas P tab){t:TypeId}{i:TyI}{v:SV}(hd:Nat.ble (d+1) n=true)(ht:tab.get t=some i)(hk:i.k= .slice e)(he:tab.get e=some ie)(hs:ie.size=sz)
  (hx:env.val x=some v)(hv:v.solid=true)(hl:v.cells.length=sz)(hsm:Nat.ble sz 16777216=true)(hpos:Nat.ble 1 sz=true)(hH':H++[.cells v.cells]=H')
  (k:TO false P n all rest ((d,.ms sz H.length 0 1)::env) H' K):TO false P n all (⟨some d,.buildSlice t 1 #[(0,x)],ty,pos,aft,none⟩::rest) env H K:=
 TO.eff hd (fun m ac h1 h2 h3=>by
  subst h1;have hp':=qaj hpos;have hsm':=qaj hsm;obtain⟨g1,g0,g2⟩:=(h3.val hx).cells hv;obtain⟨z,hz1,hz2,_,_⟩:=(hT e ie he).zero
  have hzl:z.cells.size=sz:=by
   exact zwdp
  obtain⟨arr,a1,a2,_,a4⟩:=zht (sz:=sz) (fun i=>some (i*sz,sz)) (fun _=>rfl) [(0,ac.eval x)] 0 ((Array.range (1*sz)).map (fun j=>z.cells[j % z.cells.size]!)) (fun i p hpi=>by
   cases i with
   | zero=>simp at hpi;subst hpi;exact⟨rfl,by show(ac.eval x).cells.size=sz;omega⟩
   | succ i=>simp at hpi) oC
  have a2':arr.size=sz:=by rw[a2];simp
  have hget:∀j,j<sz->arr[j]?=(ac.eval x).cells[j]? :=fun j hj=>by
   have:=a4 0 _ rfl j hj
   simpa using this
  obtain⟨s,hm'⟩:=zcw h2 v.cells arr e oA (fun j y hy=>by
   have hj:=(qam.1 hy).1;rw[hget j oA]at hy;exact g0 j y hy) (fun j c y hc hy=>by
   have hj:=(qam.1 hy).1;rw[hget j oA]at hy;exact g2 j c y hc hy)
  refine⟨.slice (some ⟨m.w.heap.size,0,none⟩) 1 1,⟨m.A,m.β++[⟨m.w.heap.size,0,arr.size⟩],m.H++[.cells v.cells],m.w.alloc (.cells arr e)⟩,?_,s,hm',hH',?_⟩
  ·have hrun:(Instr.buildSlice t 1 #[(0,ac.eval x)]).run P m.w= .ok (.slice (some ⟨m.w.heap.size,0,none⟩) 1 1) (m.w.alloc (.cells arr e)):=by
    have hbig:¬1*sz > 2 ^ 24:=oA
    have h0:¬1*sz=0:=oA
    have hfl:(#[(0,ac.eval x)]:Array (Nat×Value)).toList=[(0,ac.eval x)]:=rfl;unfold Instr.buildSlice;simp only[Sem.run_bind,underlying,run_program,Result.andThen_ok,(hT t i ht).slice hk,Sem.run_pure,(hT e ie he).sizeOf,hs,oH hbig,oH h0,hz1];rw[a1];simp[newRow]
   have hmap:(#[(0,x)]:Array (Nat×Operand)).map (fun(i,x)=>(i,ac.eval x))= #[(0,ac.eval x)]:=oC
   simp only[execOp,Sem.run_bind,hmap,hrun];rfl
  ·refine .ms sz m.H.length 0 1 1 ⟨m.w.heap.size,0,arr.size⟩ (by simp[h2.len]) (by intro q;simp[tlOf]) (qag _) ?_;show 0+0+1*sz=arr.size;omega) k
theorem TO.zvz{b0 b1:Blk}{X X':Heap}{c:Int}{cargs:List SV}{v v' pv:SV}{f:Operand}{fid:FuncId}{caps:List SV}{args:Array Operand}{ts:Array TypeId}
  (hs:Sound P fid cargs [b0] (ErrX c v pv (b1::X) 1))(hd:Nat.ble (d+1) n=true)(hf:env.val f=some (.fn fid caps))(ha:env.vals args.toList=some vs)(hl:Les (vs++caps) (rens (names [0] H.length) cargs))(hu:unders 1 cargs=true)
  (hH:H=b0::H0)(hb:b0.under 1=true)(hb0:∀r,b0.ren r=b0)(hb1:∀r,b1.ren r=b1)(hv:v.ren (names [0] H.length)=v')(hpv:∀r,pv.ren r=pv)(hX:X.map (Blk.ren (names [0] H.length))=X')
  (k:c=0->TO false P n all rest ((d,v')::env) (b1::H0++X') K)(kp:c≠0->K (.panic pv) env (.dead::H0)):
  TO false P n all (⟨some d,.call { callee:=.value f,args:=args,argTypes:=ts },ty,pos,aft,none⟩::rest) env H K:=by
 refine TO.call [0] hs hd hf ha hl hu ?_ (fun u Hc' h=>?_) (fun u Hc' h=>?_)
 ·refine Hands.ofF oC ⟨by rw[hH,hb0];rfl,trivial⟩ ?_;simp[zaa,hb]
 ·unfold ErrX at h;split at h
  ·rename_i hc;obtain⟨h1,rfl⟩:=h;cases h1;rw[hv,qaf,hb1,hX,hH,show patch (b0::H0) [0] (b1::X')=b1::H0++X' by simp[patch]];exact k hc
  ·cases h.1
 ·unfold ErrX at h;split at h
  ·cases h.1
  ·rename_i hc;obtain⟨h1,rfl⟩:=h;cases h1;rw[hpv,hH,show patch (b0::H0) [0] (List.map (Blk.ren (names [0] (b0::H0).length)) (List.replicate 1 .dead))= .dead::H0 by simp[patch,Blk.ren]];exact kp hc
theorem LeB.row{id len:Nat}(hH:H[id]?=some (rowB len cs))(hcs:∀(j:Nat) c,((es.map T.cells).flatten)[j]?=some c->∃s,cs[j]?=some s/\LeB H s (.t c))(hlen:len=es.length)(hsz:∀e∈es,e.cells.length=sz):LeB H (rowV sz len id) (.t (.sl sz es)):=by
 cases len with
 | zero=>
   have:es=[]:=qaF hlen.symm
   subst this
   exact fun m x _ hm hx=>by
    have:=hx.v_eq
    subst this;exact .t _ _ (.nil sz)
 | succ len=>
   rw[zc0 oA];rw[zcb oA]at hH;exact LeB.msN hH (fun j c hc=>by rw[qaV];exact hcs j c hc) hlen hsz
end rules
section rules
variable {n:Nat}
theorem TO.forget{ops:List Oper}(id j:Nat)(hH:H[id]?=some (.cells cs))(hi:cs[j]?=some (.sl sz es tid))(hH':H.set id (.cells (cs.set j (.t (.sl sz es))))=H')
  (k:TO false P n all ops env H' K):TO false P n all ops env H K:=(Mv.cell id j (fun m x h=>by cases h with|sl _ _ _ _ p h hp ho=>exact .t _ _ h) hH hi hH').to k
end rules
section rules
variable {n:Nat}{c:Code}
theorem TR.forget(id j:Nat)(hH:H[id]?=some (.cells cs))(hi:cs[j]?=some (.sl sz es tid))(hH':H.set id (.cells (cs.set j (.t (.sl sz es))))=H')
  (k:TR P n c env H' K):TR P n c env H K:=(Mv.cell id j (fun m x h=>by cases h with|sl _ _ _ _ p h hp ho=>exact .t _ _ h) hH hi hH').tr k
end rules
theorem zjS(sz n id:Nat):(rowV sz n id).solid=true:=by
 unfold rowV;cases n <;> rfl
theorem zjR(sz n id:Nat):(rowV sz n id).cells=[rowV sz n id]:=by
 unfold rowV;cases n <;> rfl
def zb1(f:Nat->Blk):Heap:=[f 0,f 1,f 2,f 3,f 4,f 5,f 6,f 7,f 8,f 9,f 10,f 11,f 12,f 13,f 14,f 15]
theorem zjT(f:Nat->Blk)(h:a<16):(zb1 f)[a]?=some (f a):=by
 have:zb1 f=(List.range 16).map f:=rfl
 rw[this,qan,qcr h];rfl
theorem zjU(f:Nat->Blk)(h:a<16)(b:Blk):(zb1 f).set a b=zb1 fun k=>if k=a then b else f k:=by
 have h1:∀g:Nat->Blk,zb1 g=(List.range 16).map g:=fun _=>rfl
 rw[h1,h1];refine List.ext_getElem oC fun i h2 h3=>?_
 simp only[qcs,qac,List.length_range]at h2;rw[List.getElem_set];simp only[qcb,List.getElem_range];by_cases hi:a=i
 ·rw[oG hi,oG hi.symm]
 ·rw[oH hi,oH (fun e=>hi e.symm)]
section rules
variable {n:Nat}{tab:Tab}
variable {pos:String}
theorem TO.zqx(hT:zas P tab){t:TypeId}{i:TyI}{id len:Nat}{ik:IntKind}{j:Int}(hd:Nat.ble (d+1) n=true)(ht:tab.get t=some i)(hk:i.k= .slice e)
  (he:tab.get e=some ie)(hs:ie.size=sz)(hx:env.val x=some (rowV sz len id))(hy:env.val y=some (.t (.v (.int ik j))))(h0:0≤j)(hj:j<len)
  (k:TO q P n all rest ((d,.ref id (0+j.toNat*sz))::env) H K):TO q P n all (⟨some d,.indexAddr t x y,ty,pos,aft,none⟩::rest) env H K:=
 TO.zg6 hT hd ht hk he hs (by rw[hx,zc0 oA]) hy h0 hj k
theorem TO.zvB{ops:List Oper}(id j:Nat){v v':SV}(hl:Le v v')(hH:H[id]?=some (.cells cs))(hi:cs[j]?=some v)(hH':H.set id (.cells (cs.set j v'))=H')
  (k:TO false P n all ops env H' K):TO false P n all ops env H K:=(Mv.cell id j hl hH hi hH').to k
theorem TO.zku{ops:List Oper}(bid j0 sz id len:Nat){bs:List SV}{ts:List T}(hne:bid≠id)(hB:H[bid]?=some (.cells bs))(hj0:bs[j0]?=some (rowV sz len id))(hH:H[id]?=some (rowB len (ts.map .t)))(hts:ts=(es.map T.cells).flatten)(hlen:len=es.length)(hsz:∀e∈es,e.cells.length=sz)
  (hpos:Nat.ble 1 sz=true)(hH':(H.set id .dead).set bid (.cells (bs.set j0 (.t (.sl sz es))))=H')(k:TO false P n all ops env H' K):TO false P n all ops env H K:=by
 cases len with
 | zero=>
   have hes:es=[]:=qaF hlen.symm;subst hes;refine TO.zvB bid j0 (v:=.t (.v (.slice none 0 0))) (v':=.t (.sl sz [])) (Le.nil sz) hB hj0 ?_ k;rw[<-hH'];congr 1;have hid:=(qaa.1 hH).1
   have:H[id]= .dead:=by
    rw[qad hid]at hH;exact qci hH
   rw[<-this,qbv]
 | succ len=>
   rw[zc0 oA]at hj0;rw[zcb oA]at hH
   have hneb:Nat.beq bid id=false:=by
    cases h:Nat.beq bid id with
    | false=>rfl
    | true=>exact oI (qaY h) hne
   refine TO.zr8 bid j0 sz id (len+1) hneb hB hj0 hH ?_ (fun j c hc=>by rw[hts];exact hc) hlen hsz hpos hH' k;rw[qac,hts,(zbR es hsz).1];exact qag _
theorem TO.quo2{t:TypeId}(hd:Nat.ble (d+1) n=true)(hx:env.val x=some (.i a))(hy:env.val y=some (.t (.v (.int .i64 2))))(ha:a≤1000000000000):RV q P n all rest env H K d (.binOp .quo t x y t') (.i (a / 2:Nat)):=fun k=>
 TO.bquo (a:=(a:Int)) (b:=2) hd hx hy oA (by
  rw[show((a:Int).tdiv 2)=((a / 2:Nat):Int) from(Int.ofNat_tdiv a 2).symm,ze2 oA oA];exact k)
theorem TO.rem2{t:TypeId}(hd:Nat.ble (d+1) n=true)(hx:env.val x=some (.i a))(hy:env.val y=some (.t (.v (.int .i64 2)))):RV q P n all rest env H K d (.binOp .rem t x y t') (.i (a % 2:Nat)):=fun k=>
 TO.brem (a:=(a:Int)) (b:=2) hd hx hy oA (by rw[show((a:Int).tmod 2)=((a % 2:Nat):Int) from(Int.ofNat_tmod a 2).symm];exact k)
theorem TO.zlt(hT:zas P tab){t:TypeId}{i:TyI}{c0:Array Value}{cs:List T}(hd:Nat.ble (d+1) n=true)(ht:tab.get t=some i)(hk:i.k= .slice e)(he:tab.get e=some ie)(hs:ie.size=sz)
  (hv:∀(A:Foot) (w:World),TRel A w (.ag cs) (.agg c0))(hl:cs.length=sz)(hsm:Nat.ble sz 16777216=true)(hpos:Nat.ble 1 sz=true)
  (k:TO false P n all rest ((d,.t (.sl sz [.ag cs]))::env) H K):TO false P n all (⟨some d,.buildSlice t 1 #[(0,.const (.agg c0))],ty,pos,aft,none⟩::rest) env H K:=
 TO.eff hd (fun m ac h1 h2 h3=>by
  subst h1;have hp':=qaj hpos;have hsm':=qaj hsm;obtain⟨z,hz1,hz2,_,_⟩:=(hT e ie he).zero
  have hzl:z.cells.size=sz:=by
   exact zwdp
  have hr:=hv m.A m.w;obtain⟨y,hy⟩:∃y,y=Value.agg c0:=⟨_,rfl⟩;rw[<-hy]at hr;cases hr with
  | ag _ ca c1 c2 c3=>
  have hcc:=Value.agg.inj hy;subst hcc;have hq:ac.eval (.const (.agg ca))= .agg ca:=rfl
  obtain⟨arr,a1,a2,_,a4⟩:=zht (sz:=sz) (fun i=>some (i*sz,sz)) (fun _=>rfl) [(0,Value.agg ca)] 0 ((Array.range (1*sz)).map (fun j=>z.cells[j % z.cells.size]!)) (fun i p hpi=>by
   cases i with
   | zero=>simp at hpi;subst hpi;exact⟨rfl,by show ca.size=sz;omega⟩
   | succ i=>simp at hpi) oC
  have a2':arr.size=sz:=by rw[a2];simp
  have hget:∀j,j<sz->arr[j]?=ca[j]? :=fun j hj=>by
   have:=a4 0 _ rfl j hj
   show arr[j]?=(Value.agg ca).cells[j]?;simpa using this
  have hcell:∀o,(m.w.alloc (.cells arr e)).cell? ⟨m.w.heap.size,o,none⟩=arr[o]? :=fun o=>World.cell?_alloc_new ..
  obtain⟨s,hm'⟩:=grow h2 (A':=fun b o=>m.A b o\/(b=m.w.heap.size/\o<arr.size)) (βn:=[]) (Hn:=[]) (w':=m.w.alloc (.cells arr e)) rfl rfl rfl oC (fun b hb=>RowKit.Below.heap_alloc _ _ _ hb) (fun _ _ h=>.inl h) (fun b o h=>by
   rcases h with h|h
   ·exact .inl h
   ·exact .inr ⟨oA,oF⟩) rfl oC oC oC oC
  have s':Step m ⟨fun b o=>m.A b o\/(b=m.w.heap.size/\o<arr.size),m.β,m.H,m.w.alloc (.cells arr e)⟩:=by simpa using s
  refine⟨.slice (some ⟨m.w.heap.size,0,none⟩) 1 1,⟨fun b o=>m.A b o\/(b=m.w.heap.size/\o<arr.size),m.β,m.H,m.w.alloc (.cells arr e)⟩,?_,s',by simpa using hm',rfl,?_⟩
  ·have hrun:(Instr.buildSlice t 1 #[(0,ac.eval (.const (.agg ca)))]).run P m.w= .ok (.slice (some ⟨m.w.heap.size,0,none⟩) 1 1) (m.w.alloc (.cells arr e)):=by
    have hbig:¬1*sz > 2 ^ 24:=oA
    have h0:¬1*sz=0:=oA
    unfold Instr.buildSlice;simp only[Sem.run_bind,underlying,run_program,Result.andThen_ok,(hT t i ht).slice hk,Sem.run_pure,(hT e ie he).sizeOf,hs,oH hbig,oH h0,hz1];rw[hq,a1];simp[newRow]
   have hmap:(#[(0,.const (.agg ca))]:Array (Nat×Operand)).map (fun(i,x)=>(i,ac.eval x))= #[(0,ac.eval (.const (.agg ca)))]:=oC
   simp only[execOp,Sem.run_bind,hmap,hrun];rfl
  ·refine .t _ _ (.sl sz [.ag cs] m.w.heap.size 0 1 (fun q=>(arr[q]?).getD undef) (qag _) (fun i t ht=>?_) (fun i j hi hj=>?_) (fun i j hi hj=>?_) (fun i j hi hj=>?_) (fun i t j c ht hc=>?_))
   ·cases i with
    | zero=>simp at ht;subst ht;exact hl
    | succ i=>simp at ht
   ·have hi0:i=0:=by simp at hi;exact hi
    subst hi0;exact .inr ⟨rfl,oA⟩
   ·have hi0:i=0:=by simp at hi;exact hi
    subst hi0;show(m.w.alloc (.cells arr e)).cell? ⟨m.w.heap.size,0+(0*sz+j),none⟩=some ((arr[0*sz+j]?).getD undef);rw[hcell,show 0+(0*sz+j)=j by omega,show 0*sz+j=j by omega,qaq oA];rfl
   ·have hi0:i=0:=by simp at hi;exact hi
    subst hi0;show((arr[0*sz+j]?).getD undef).oneCell'=true;rw[show 0*sz+j=j by omega,hget j hj,qaq oA];exact c2 j _ (qaq oA)
   ·cases i with
    | succ i=>simp at ht
    | zero=>
      simp at ht;subst ht
      have hj:=(qaa.1 hc).1;have hj':j<sz:=by rw[<-hl];exact hj
      show TRel _ _ c ((arr[0*sz+j]?).getD undef);rw[show 0*sz+j=j by omega,hget j hj',qaq oA];exact s'.trel h2 (c3 j c _ hc (qaq oA))) k
theorem LeB.fn1(f:FuncId){c e:SV}(h:LeB H c e):LeB H (.fn f [c]) (.fn f [e]):=LeB.fn f rfl fun i x y hx hy=>by
 cases i with
 | zero=>simp at hx hy;subst hx hy;exact h
 | succ i=>simp at hx
end rules
abbrev OneF (P:Program)(n:Nat)(K:TK)(g:Prop)(all:Array Oper)(full:Env)(o:Oper)(v:SV)(X Y:Heap):Prop:=∀env,TO false P n all [o] (zaC full (slotsOf all o)++env) X (NKP K g (putE o.dst v (zaC full (slotsOf all o)++env)) Y)
def zm2(P:Program)(n:Nat)(K:TK)(a b c d:Nat)(g:Prop)(all:Array Oper)(full:Env)(H0 H1 H2 HC HD HF:Heap):Nat->List Oper->List SV->Prop
 | _,[],[]=>True
 | i,o::l,v::t=>
   (bif Nat.beq i a then OneF P n K g all full o v H0 H1
   else bif Nat.beq i b then OneF P n K True all full o v H1 H2
   else bif Nat.beq i c then OneF P n K True all full o v H2 HC/\OneF P n K True all full o v HD HF
   else bif Nat.beq i d then OneF P n K True all full o v H2 HD/\OneF P n K True all full o v HC HF
   else bif Nat.blt i b then OneF P n K True all full o v H0 H0/\OneF P n K True all full o v H1 H1
   else OneF P n K True all full o v H2 H2/\OneF P n K True all full o v HC HC/\OneF P n K True all full o v HD HD/\OneF P n K True all full o v HF HF)
   /\ zm2 P n K a b c d g all full H0 H1 H2 HC HD HF (i+1) l t
 | _,_,_=>False
theorem zm2.get{n:Nat}{K:TK}{a b c d:Nat}{g:Prop}{full:Env}{H0 H1 H2 HC HD HF:Heap}:∀ {l:List Oper} {t:List SV} {k:Nat},zm2 P n K a b c d g all full H0 H1 H2 HC HD HF k l t->l.length=t.length/\∀(i:Nat) o v,l[i]?=some o->t[i]?=some v->
  (bif Nat.beq (k+i) a then OneF P n K g all full o v H0 H1
  else bif Nat.beq (k+i) b then OneF P n K True all full o v H1 H2
  else bif Nat.beq (k+i) c then OneF P n K True all full o v H2 HC/\OneF P n K True all full o v HD HF
  else bif Nat.beq (k+i) d then OneF P n K True all full o v H2 HD/\OneF P n K True all full o v HC HF
  else bif Nat.blt (k+i) b then OneF P n K True all full o v H0 H0/\OneF P n K True all full o v H1 H1
  else OneF P n K True all full o v H2 H2/\OneF P n K True all full o v HC HC/\OneF P n K True all full o v HD HD/\OneF P n K True all full o v HF HF)
 | [],[],k,_=>oC
 | o::l,v::t,k,h=>by
   simp only[zm2]at h;obtain⟨h1,h2⟩:=h;obtain⟨g1,g2⟩:=zm2.get h2;refine⟨by simp[g1],fun i o' v' ho hv=>?_⟩;cases i with
   | zero=>
     simp at ho hv;subst ho hv;exact h1
   | succ i=>
     have:=g2 i o' v' (by simpa using ho) (by simpa using hv)
     rw[show k+1+i=k+(i+1) by omega]at this;exact this
 | [],_::_,_,h=>by exact h.elim
 | _::_,[],_,h=>by exact h.elim
def midF(ops:Array Oper)(a b:Nat):Bool:=(Nat.blt a b && Nat.blt b ops.size) && (List.range ops.size).all fun i=>Nat.beq i b || (bif Nat.blt i b then(cov ops 8 (zaR ops b)).contains i else(cov ops 8 (zaR ops i)).contains b)
theorem zyN{x y:Nat}(h:x<y):Nat.blt x y=true:=by rw[qbn];exact h
theorem zyM{x y:Nat}(h:¬x<y):Nat.blt x y=false:=by
 cases hh:Nat.blt x y with
 | false=>rfl
 | true=>rw[qbn]at hh;exact oI hh h
theorem TR.regionF(a b c d:Nat){g:Prop}{n:Nat}{env0 envF:Env}{H1 H2 HC HD HF:Heap}{id':Nat}{l:List Oper}(t:List SV)(hm:P.follows .mixedOrders=true)
  (hB:(mixB l.toArray [] && midF l.toArray a b && (Nat.blt b c && Nat.blt c d && Nat.blt d l.length))=true)
  (hp:zm2 P n K a b c d g l.toArray (zaM l.toArray t env0) H0 H1 H2 HC HD HF 0 l t)(hE:za7 (zaM l.toArray t env0)=some envF)(hK:g->K .normal envF HF):
  TR P n (.region id' l.toArray true) env0 H0 K:=by
 obtain⟨g1,g2⟩:=hp.get;simp only[qar,qbn,midF]at hB;obtain⟨⟨hB,⟨hab,hbl⟩,hL⟩,⟨hbc,hcd⟩,hdl⟩:=hB;simp only[List.size_toArray]at hbl hL
 have hE':∀i,i<l.length->i<b->i∈cov l.toArray 8 (zaR l.toArray b):=fun i hi hlt=>by
  have:=qaB.1 hL i (by simpa using hi)
  rw[zyN hlt,cond_true,show Nat.beq i b=false from by cases h:Nat.beq i b with|false=>rfl|true=>exact oI (qaY h) oA,qbV]at this;simpa using this
 have hLt:∀i,i<l.length->b<i->b∈cov l.toArray 8 (zaR l.toArray i):=fun i hi hlt=>by
  have:=qaB.1 hL i (by simpa using hi)
  rw[zyM (show ¬i<b by omega),cond_false,show Nat.beq i b=false from by cases h:Nat.beq i b with|false=>rfl|true=>exact oI (qaY h) oA,qbV]at this;simpa using this
 have nb:∀ {x y:Nat},x≠y->Nat.beq x y=false:=fun{x y} h=>by cases hh:Nat.beq x y with|false=>rfl|true=>exact oI (qaY hh) h
 let S:(Nat->Bool)->Heap:=fun f=>bif f b then(bif f c then(bif f d then HF else HC) else(bif f d then HD else H2)) else(bif f a then H1 else H0)
 have hSe:∀(f:Nat->Bool) (x y z w:Bool),f b=x->f c=y->f d=z->f a=w->S f=bif x then(bif y then(bif z then HF else HC) else(bif z then HD else H2)) else(bif w then H1 else H0):=fun f x y z w h1 h2 h3 h4=>by subst h1 h2 h3 h4;rfl
 refine TR.begG [] (env0:=env0) (σ:=Nat->Bool) (fun s=>s) S (fun _=>t) (G:=fun i=>bif Nat.beq i a then g else True) (fun _=>false) hm rfl hB (fun _=>g1.symm) (fun s i o hol hil hdi hcv hcl=>?_) (fun s hs hG=>?_) fun _=>rfl
 ·have htl:t[i]?=some (t[i]' oA):=qad oA;generalize t[i]' oA=v at htl;have hg:=g2 i o v hol htl;rw[qaV]at hg;refine⟨fun j=>s j || decide (i=j),v,fun j=>rfl,fun j _=>rfl,htl,?_⟩;have hi':∀j,j≠i->(s j || decide (i=j))=s j:=fun j hj=>by simp[Ne.symm hj]
  have hii:(s i || decide (i=i))=true:=oC
  have early:i≤b->s b=false->s c=false/\s d=false:=fun _ hb=>by
   refine⟨?_,?_⟩
   ·cases h:s c with
    | false=>rfl
    | true=>have:=hcl c h b (hLt c oA hbc);rw[hb]at this;cases this
   ·cases h:s d with
    | false=>rfl
    | true=>have:=hcl d h b (hLt d oA oA);rw[hb]at this;cases this
  by_cases hib:i<b
  ·have hsb:s b=false:=by
    cases h:s b with
    | false=>rfl
    | true=>have:=hcl b h i (hE' i hil hib);rw[hdi]at this;cases this
   obtain⟨hsc,hsd⟩:=early oA hsb;have f1:=hi' b oA;have f2:=hi' c oA;have f3:=hi' d oA;by_cases e1:i=a
   ·subst e1;rw[qbD,cond_true]at hg;rw[hSe s _ _ _ _ hsb hsc hsd hdi,hSe (fun j=>s j || decide (i=j)) _ _ _ _ (f1.trans hsb) (f2.trans hsc) (f3.trans hsd) hii];intro env
    have:=hg env
    simp only[cond_false,cond_true];rw[qbD,cond_true];exact this
   ·rw[nb e1,nb (show i≠b by omega),nb (show i≠c by omega),nb (show i≠d by omega),zyN hib]at hg;simp only[cond_false,cond_true]at hg;have f4:=hi' a (Ne.symm e1);rw[nb e1,cond_false];cases hsa:s a with
    | false=>
      rw[hSe s _ _ _ _ hsb hsc hsd hsa,hSe (fun j=>s j || decide (i=j)) _ _ _ _ (f1.trans hsb) (f2.trans hsc) (f3.trans hsd) (f4.trans hsa)];exact hg.1
    | true=>
      rw[hSe s _ _ _ _ hsb hsc hsd hsa,hSe (fun j=>s j || decide (i=j)) _ _ _ _ (f1.trans hsb) (f2.trans hsc) (f3.trans hsd) (f4.trans hsa)];exact hg.2
  have hia:i≠a:=oA
  rw[nb hia]at hg;rw[nb hia,cond_false];have f4:=hi' a (Ne.symm hia);by_cases e2:i=b
  ·subst e2;rw[qbD]at hg;simp only[cond_false,cond_true]at hg;obtain⟨hsc,hsd⟩:=early (qag _) hdi;have hsa:s a=true:=hcv a (hE' a oA hab);rw[hSe s _ _ _ _ hdi hsc hsd hsa,hSe (fun j=>s j || decide (i=j)) _ _ _ _ hii ((hi' c oA).trans hsc) ((hi' d oA).trans hsd) (f4.trans hsa)];exact hg
  have hsb:s b=true:=hcv b (hLt i hil oA);have f1:=hi' b (Ne.symm e2);rw[nb e2]at hg;by_cases e3:i=c
  ·subst e3;rw[qbD]at hg;simp only[cond_false,cond_true]at hg;have f3:=hi' d oA;cases hsd:s d with
   | false=>
     rw[hSe s _ _ _ _ hsb hdi hsd rfl,hSe (fun j=>s j || decide (i=j)) _ _ _ _ (f1.trans hsb) hii (f3.trans hsd) rfl];exact hg.1
   | true=>
     rw[hSe s _ _ _ _ hsb hdi hsd rfl,hSe (fun j=>s j || decide (i=j)) _ _ _ _ (f1.trans hsb) hii (f3.trans hsd) rfl];exact hg.2
  have f2:=hi' c (Ne.symm e3);rw[nb e3]at hg;by_cases e4:i=d
  ·subst e4;rw[qbD]at hg;simp only[cond_false,cond_true]at hg;cases hsc:s c with
   | false=>
     rw[hSe s _ _ _ _ hsb hsc hdi rfl,hSe (fun j=>s j || decide (i=j)) _ _ _ _ (f1.trans hsb) (f2.trans hsc) hii rfl];exact hg.1
   | true=>
     rw[hSe s _ _ _ _ hsb hsc hdi rfl,hSe (fun j=>s j || decide (i=j)) _ _ _ _ (f1.trans hsb) (f2.trans hsc) hii rfl];exact hg.2
  have f3:=hi' d (Ne.symm e4);rw[nb e4,zyM hib]at hg;simp only[cond_false]at hg;obtain⟨q1,q2,q3,q4⟩:=hg;cases hsc:s c <;> cases hsd:s d
  all_goals rw[hSe s _ _ _ _ hsb hsc hsd rfl,hSe (fun j=>s j || decide (i=j)) _ _ _ _ (f1.trans hsb) (f2.trans hsc) (f3.trans hsd) rfl]
  ·exact q1
  ·exact q3
  ·exact q2
  ·exact q4
 ·have hb:=hs b hbl;have hc:=hs c oA;have hd:=hs d hdl;rw[<-zby hE];rw[hSe s _ _ _ _ hb hc hd rfl]
  have:=hG a oA
  rw[qbD,cond_true]at this;exact hK this
end Go.TL
namespace Go.Proofs.YtdicfgideclbdaaGreatDoor
open Go Go.TL
namespace TT
def zs:T:=.v (str [])
def zl:T:=.v (.slice none 0 0)
def zi:T:=.v (.int .i64 0)
def zb:T:=.v (.bool false)
def zu:T:=.v (.int .u8 0)
def zp:T:=.v (.pointer none)
def zf:T:=.v .nilFunc
def z8:T:=.v (.int .u64 0)
def zm:T:=.v (.map none)
def tF:TyI:=⟨.scalar,1,8,[.v .nilFunc]⟩
def tI:TyI:=⟨.int .i64,1,8,[.v (.int .i64 0)]⟩
def tS:TyI:=⟨.str,1,16,[.v (str [])]⟩
def tU:TyI:=⟨.int .u8,1,1,[.v (.int .u8 0)]⟩
def tB:TyI:=⟨.bool,1,1,[.v (.bool false)]⟩
def tL(k:Nat):TyI:=⟨.slice k,1,24,[.v (.slice none 0 0)]⟩
def tP(k:Nat):TyI:=⟨.ptr k,1,8,[.v (.pointer none)]⟩
def off:Nat->List Nat->List (Nat×Nat)
 | _,[]=>[]
 | i,x::l=>(i,x)::off (i+1) l
def tR(l:List Nat)(n b:Nat)(z:List T):TyI:=⟨.struct (off 0 l),n,b,z⟩
def nd(l:Tab)(k:Nat)(i:TyI)(r:Tab):Tab:=.node l k i r
def n1(k:Nat)(i:TyI):Tab:=.node .leaf k i .leaf
def n2(l:Tab)(k:Nat)(i:TyI):Tab:=.node l k i .leaf
def a0:TyI:=(tR [2,3,4,6] 4 24 [zi,zi,zb,zu])
def a1:TyI:=⟨.int .u64,1,8,[.v (.int .u64 0)]⟩
def a2:TyI:=(tR [9,12] 2 24 [zs,z8])
def a3:TyI:=(tR [17] 1 8 [zp])
def a4:TyI:=⟨.iface,1,16,[.v .nilIface]⟩
def a5:TyI:=⟨.int .i32,1,4,[.v (.int .i32 0)]⟩
def a6:TyI:=(tR [22,23] 2 48 [zl,zl])
def a7:TyI:=(tR [9,3,41] 3 48 [zs,zi,zl])
def a8:TyI:=(tR [9,44,44,44,45,46,47,47] 8 184 [zs,zl,zl,zl,zl,zl,zl,zl])
def a9:TyI:=(tR [3,3,3,3,9,47] 6 72 [zi,zi,zi,zi,zs,zl])
def a10:TyI:=(tR [50,52] 7 96 [zl,zi,zi,zi,zi,zs,zl])
def a11:TyI:=(tR [9,3,3] 3 32 [zs,zi,zi])
def a12:TyI:=(tR [3,3] 2 16 [zi,zi])
def a13:TyI:=(tR [9,3] 2 24 [zs,zi])
def a14:TyI:=(tR [3,9,3] 3 32 [zi,zs,zi])
def a15:TyI:=(tR [72,73] 2 32 [zp,zl])
def a16:TyI:=(tR [22,89] 2 32 [zl,zm])
def a17:TyI:=⟨.struct [(0,91),(2,75)],4,64,[zl,zm,zp,zl]⟩
def a18:TyI:=(tR [9,50] 2 40 [zs,zl])
def a19:TyI:=⟨.struct [(0,62),(2,31)],3,24,[zi,zi,zi]⟩
def a20:TyI:=⟨.struct [(0,25),(2,62),(4,116)],5,72,[zl,zl,zi,zi,zm]⟩
def a21:TyI:=(tR [3,9] 2 24 [zi,zs])
def a22:TyI:=(tR [30,3,3,22] 4 64 [zl,zi,zi,zl])
def a23:TyI:=(tR [3,31] 2 16 [zi,zi])
def a24:TyI:=(tR [22,62] 3 40 [zl,zi,zi])
def a25:TyI:=(tR [158] 1 24 [zl])
def a26:TyI:=(tR [9,44,45,46,165,165] 6 136 [zs,zl,zl,zl,zl,zl])
def a27:TyI:=(tR [177,179,179,179,50] 5 56 [zp,zm,zm,zm,zl])
def a28:TyI:=⟨.struct [(0,52),(6,3),(7,4)],8,88,[zi,zi,zi,zi,zs,zl,zi,zb]⟩
def a29:TyI:=(tR [4,4,4,4,4] 5 5 [zb,zb,zb,zb,zb])
def a30:TyI:=(tR [243,243] 2 48 [zl,zl])
def a31:TyI:=(tR [17,17,17,9] 4 40 [zp,zp,zp,zs])
def a32:TyI:=(tR [303] 0 0 [])
def a33:TyI:=(tR [12,12,230,306,5,5,307,308,127,309,310] 11 48 [z8,z8,.v (.int .u32 0),zu,zu,zu,zu,zf,zp,.v (.int .i32 0),.v (.int .i32 0)])
def tab0:Tab:=(nd (nd (nd (nd (nd (nd (nd (n2 (n1 1 tF) 2 tI) 3 tI (n1 4 tB)) 5 tU (nd (n1 6 tU) 7 a0 (n1 8 a0))) 9 tS (nd (nd (n2 (n1 10 tS) 11 tS) 12 a1 (n1 13 a2)) 14 a2 (nd (n1 15 (tP 302)) 16 (tP 305) (n1 17 (tP 312))))) 18 a3 (nd (nd (nd (n2 (n1 19 a3) 20 a4) 21 a5 (n1 22 (tL 96))) 23 (tL 49) (nd (n1 24 a6) 25 a6 (n1 26 tF))) 27 tF (nd (nd (n2 (n1 29 tF) 30 (tL 69)) 31 tI (n1 33 tF)) 34 tF (nd (n1 36 tF) 38 tF (n1 39 tF))))) 40 tF (nd (nd (nd (nd (n2 (n1 41 (tL 60)) 42 a7) 43 a7 (n1 44 (tL 43))) 45 (tL 55) (nd (n1 46 (tL 160)) 47 (tL 52) (n1 48 a8))) 49 a8 (nd (nd (n2 (n1 50 (tL 9)) 51 a9) 52 a9 (n1 53 tF)) 54 a10 (nd (n1 55 a10) 56 tF (n1 57 tF)))) 58 tF (nd (nd (nd (n2 (n1 59 a11) 60 a11) 61 a12 (n1 62 a12)) 64 tF (nd (n1 65 (tP 67)) 66 a13 (n1 67 a13))) 68 a14 (nd (nd (n2 (n1 69 a14) 71 tF) 72 (tP 75) (n1 73 (tL 5))) 74 a15 (nd (n1 75 a15) 76 a4 (n1 77 a4)))))) 78 tF (nd (nd (nd (nd (nd (n2 (n1 80 tF) 81 tF) 82 (tP 129) (n1 84 tF)) 86 tF (nd (n1 87 tF) 88 (tP 94) (n1 89 ⟨.map 3 9,1,8,[.v (.map none)]⟩))) 90 a16 (nd (nd (n2 (n1 91 a16) 92 tF) 93 a17 (n1 94 a17)) 95 a18 (nd (n1 96 a18) 97 tF (n1 98 tF)))) 99 tF (nd (nd (nd (n2 (n1 100 tF) 101 tF) 102 tF (n1 103 tF)) 104 tF (nd (n1 105 tF) 106 tF (n1 107 tF))) 108 tF (nd (nd (n2 (n1 109 tF) 110 tF) 111 tF (n1 112 a19)) 113 a19 (nd (n1 115 (tP 118)) 116 ⟨.map 121 3,1,8,[.v (.map none)]⟩ (n1 117 a20))))) 118 a20 (nd (nd (nd (nd (n2 (n1 119 tF) 120 a21) 121 a21 (n1 122 tF)) 123 tF (nd (n1 124 tF) 125 tF (n1 126 tF))) 127 (tP 5) (nd (nd (n2 (n1 128 a22) 129 a22) 130 a23 (n1 131 a23)) 133 tF (nd (n1 134 tF) 135 tF (n1 136 tF)))) 137 tF (nd (nd (nd (n2 (n1 138 tF) 139 a19) 140 a19 (n1 142 (tP 144))) 143 a24 (nd (n1 144 a24) 145 tF (n1 146 tF))) 147 tF (nd (nd (n2 (n1 148 tF) 149 tF) 150 tF (n1 151 tF)) 152 tF (nd (n1 153 tF) 154 tF (n1 155 tF))))))) 156 tF (nd (nd (nd (nd (nd (nd (n2 (n1 157 tF) 158 (tL 167)) 159 a25 (n1 160 a25)) 161 tF (nd (n1 162 tF) 163 tF (n1 164 tF))) 165 (tL 212) (nd (nd (n2 (n1 166 a26) 167 a26) 168 tF (n1 169 tF)) 170 tF (nd (n1 171 tF) 172 tF (n1 173 tF)))) 174 tF (nd (nd (nd (n2 (n1 175 tF) 177 (tP 181)) 178 tF (n1 179 ⟨.map 9 4,1,8,[.v (.map none)]⟩)) 180 a27 (nd (n1 181 a27) 182 tF (n1 183 tF))) 184 tF (nd (nd (n2 (n1 185 tF) 186 tF) 188 tF (n1 189 tF)) 190 tF (nd (n1 191 tF) 192 (tP 47) (n1 193 tF))))) 195 tF (nd (nd (nd (nd (n2 (n1 196 tF) 197 tF) 198 tF (n1 199 tF)) 200 tF (nd (n1 201 tF) 202 a1 (n1 204 tF))) 205 tF (nd (nd (n2 (n1 206 tF) 207 tF) 208 tF (n1 209 tF)) 210 tF (nd (n1 211 a28) 212 a28 (n1 213 tF)))) 214 tF (nd (nd (nd (n2 (n1 215 tF) 216 tF) 218 tF (n1 219 tF)) 220 tF (nd (n1 221 tF) 222 tF (n1 223 tF))) 224 tF (nd (nd (n2 (n1 225 (tL 44)) 226 tF) 227 tF (n1 228 tF)) 229 tF (nd (n1 230 ⟨.int .u32,1,4,[.v (.int .u32 0)]⟩) 232 tF (n1 233 a1)))))) 235 tF (nd (nd (nd (nd (nd (n2 (n1 236 tF) 237 tF) 238 tF (n1 239 tF)) 240 a29 (nd (n1 241 a29) 242 tF (n1 243 (tL 4)))) 244 a30 (nd (nd (n2 (n1 245 a30) 247 tF) 248 tF (n1 249 tF)) 250 tF (nd (n1 251 tF) 252 tF (n1 253 tF)))) 254 tF (nd (nd (nd (n2 (n1 255 tF) 256 tF) 257 tF (n1 258 tF)) 259 tF (nd (n1 260 tF) 261 tF (n1 262 (tL 263)))) 263 (tL 267) (nd (nd (n2 (n1 265 tF) 266 a13) 267 a13 (n1 268 tF)) 270 tF (nd (n1 271 tF) 273 tF (n1 274 tF))))) 275 tF (nd (nd (nd (nd (n2 (n1 276 tF) 278 tF) 279 ⟨.map 9 3,1,8,[.v (.map none)]⟩ (n1 280 tF)) 281 tF (nd (n1 283 tF) 284 tF (n1 285 tF))) 286 ⟨.array 24 5,24,24,List.replicate 24 (.v (.int .u8 0))⟩ (nd (nd (n2 (n1 287 tF) 288 tF) 290 tF (n1 291 tF)) 292 tF (nd (n1 293 tF) 294 ⟨.array 20 233,20,160,List.replicate 20 (.v (.int .u64 0))⟩ (n1 295 ⟨.array 65 5,65,65,List.replicate 65 (.v (.int .u8 0))⟩)))) 296 tF (nd (nd (nd (n2 (n1 297 tF) 298 tF) 299 ⟨.array 32 5,32,32,List.replicate 32 (.v (.int .u8 0))⟩ (n1 300 ⟨.array 64 5,64,64,List.replicate 64 (.v (.int .u8 0))⟩)) 301 a31 (nd (n1 302 a31) 303 ⟨.array 0 16,0,0,[]⟩ (n1 304 a32))) 305 a32 (nd (nd (n1 306 tU) 307 tU (n1 308 tF)) 309 a5 (nd (n1 310 a5) 311 a33 (n1 312 a33))))))))
set_option maxRecDepth 100000 in
def tabS:(t:Tab) ×' (tab0=t):=⟨_,by dsimp only[Nat.reduceAdd,List.reduceReplicate,tab0,tF,tI,tS,tU,tB,tL,tP,tR,off,nd,n1,n2,zs,zl,zi,zb,zu,zp,zf,z8,zm,a0,a1,a2,a3,a4,a5,a6,a7,a8,a9,a10,a11,a12,a13,a14,a15,a16,a17,a18,a19,a20,a21,a22,a23,a24,a25,a26,a27,a28,a29,a30,a31,a32,a33]⟩
end TT
def tab:Tab:=TT.tabS.1
theorem zaf:zas Tryz.prog tab:=zjh oD
theorem so{f:FuncId}{fn:Func}{c:Code}{args:List SV}{H:Heap}{R:Res->Heap->Prop}(hf:Tryz.prog.funcs[f]?=some fn)(h:TR Tryz.prog fn.ntmps c (zfj 0 args) H (RetK tab fn.results.toList H.length R))
  (hn:(fn.name == "runtime.NumGoroutine")=false:=by kernel_rfl)(hb:fn.body=some c:=by exact rfl)(ha:Nat.ble args.length fn.ntmps=true:=by exact rfl):Sound Tryz.prog f args H R:=Sound.of zaf hf hn hb ha h
end Go.Proofs.YtdicfgideclbdaaGreatDoor
