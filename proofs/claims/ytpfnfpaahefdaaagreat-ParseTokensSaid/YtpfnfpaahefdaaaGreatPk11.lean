import Derived.Test.YtpfnfpaahefdaaaGreatPk10
set_option linter.all false
namespace Go.TL
open Go
section rules
variable {P:Program}{all:Array Oper}
def allH(Q:Heap->Prop):List Heap->Prop
 | []=>True
 | H::l=>Q H/\allH Q l
theorem zka{Q:Heap->Prop}:∀ {l:List Heap},allH Q l->∀H∈l,Q H
 | [],_,H,h=>by cases h
 | x::l,h,H,hm=>by
   rcases qa8.1 hm with rfl|hm
   ·exact h.1
   ·exact zka h.2 H hm
def atG(c:Nat)(g:Prop)(i:Nat):Prop:=bif Nat.beq i c then g else True
def zhw(P:Program)(n:Nat)(K:TK)(c:Nat)(g:Prop)(all:Array Oper)(full:Env)(G:List Heap):Nat->List Oper->List (SV×Nat×Nat)->List Heap->Prop
 | _,[],[],_=>True
 | i,o::l,(v,lo,hi)::t,hs=>bif Nat.blt hi lo then(match hs with
    | H1::H2::hs=>(∀env,TO false P n all [o] (zaS full (slotsOf all o)++env) H1 (NKP K (atG c g i) (putE o.dst v (zaS full (slotsOf all o)++env)) H2))/\zhw P n K c g all full G (i+1) l t (H2::hs)
    | _=>False)
   else allH (fun H=>∀env,TO false P n all [o] (zaS full (slotsOf all o)++env) H (NKP K (atG c g i) (putE o.dst v (zaS full (slotsOf all o)++env)) H)) ((G.drop lo).take (hi+1-lo))/\zhw P n K c g all full G (i+1) l t hs
 | _,_,_,_=>False
abbrev efX (x:SV×Nat×Nat):Bool:=Nat.blt x.2.2 x.2.1
def effX(t:List (SV×Nat×Nat))(i:Nat):Nat:=((t.take i).filter efX).length
theorem zhw.get{n:Nat}{K:TK}{c:Nat}{g:Prop}{full:Env}{G:List Heap}:∀ {l:List Oper} {t:List (SV×Nat×Nat)} {hs:List Heap} {k:Nat},zhw P n K c g all full G k l t hs->l.length=t.length/\∀(i:Nat) o x,l[i]?=some o->t[i]?=some x->
   (efX x=false->allH (fun H=>∀env,TO false P n all [o] (zaS full (slotsOf all o)++env) H (NKP K (atG c g (k+i)) (putE o.dst x.1 (zaS full (slotsOf all o)++env)) H)) ((G.drop x.2.1).take (x.2.2+1-x.2.1)))/\
   (efX x=true->∃H1 H2,hs[effX t i]?=some H1/\hs[effX t i+1]?=some H2/\∀env,TO false P n all [o] (zaS full (slotsOf all o)++env) H1 (NKP K (atG c g (k+i)) (putE o.dst x.1 (zaS full (slotsOf all o)++env)) H2))
 | [],[],hs,k,_=>by simp
 | o::l,(v,lo,hi)::t,hs,k,h=>by
   simp only[zhw]at h
   cases hb:Nat.blt hi lo with
   | false=>
     rw[hb]at h
     obtain⟨h1,h2⟩:=h
     obtain⟨g1,g2⟩:=zhw.get h2
     refine⟨by simp[g1],fun i o' x' ho hv=>?_⟩
     cases i with
     | zero=>simp at ho hv;subst hv;subst ho;exact⟨fun _=>h1,fun e=>by rw[show efX (v,lo,hi)=Nat.blt hi lo from rfl,hb]at e;cases e⟩
     | succ i=>
       have:=g2 i o' x' (by simpa using ho) (by simpa using hv)
       have e:effX ((v,lo,hi)::t) (i+1)=effX t i:=by simp[effX,efX,hb]
       rw[e,show k+(i+1)=k+1+i by omega]
       exact this
   | true=>
     rw[hb]at h
     match hs,h with
     | H1::H2::hs,h=>
       obtain⟨h1,h2⟩:=h
       obtain⟨g1,g2⟩:=zhw.get h2
       refine⟨by simp[g1],fun i o' x' ho hv=>?_⟩
       cases i with
       | zero=>simp at ho hv;subst hv;subst ho;exact⟨fun e=>by(rw[show efX (v,lo,hi)=Nat.blt hi lo from rfl,hb]at e;cases e),fun _=>⟨H1,H2,rfl,rfl,h1⟩⟩
       | succ i=>
         have:=g2 i o' x' (by simpa using ho) (by simpa using hv)
         have e:effX ((v,lo,hi)::t) (i+1)=effX t i+1:=by simp[effX,efX,hb]
         rw[e,show k+(i+1)=k+1+i by omega]
         simpa using this
     | [],h=>exact h.elim
     | [_],h=>exact h.elim
 | [],_::_,_,_,h=>by exact h.elim
 | _::_,[],_,_,h=>by exact h.elim
def zo9(ops:Array Oper)(t:List (Nat×Nat))(m:Nat):Bool:=
 (List.range t.length).all fun i=>match t[i]? with
   | some x=>Nat.blt x.2 x.1 || (List.range m).all fun c=>!okC ops (t.map fun x=>Nat.blt x.2 x.1) i c || (Nat.ble x.1 c && Nat.ble c x.2)
   | none=>true
theorem TR.zdz(c:Nat){g:Prop}{n:Nat}{env0 envF:Env}{H0 HF:Heap}{K:TK}{id':Nat}{l:List Oper}(t:List (SV×Nat×Nat))(hs:List Heap)(hm:P.follows .mixedOrders=true)
  (hB:(mixB l.toArray ((t.map (·.2)).map fun x=>Nat.blt x.2 x.1) && zo9 l.toArray (t.map (·.2)) hs.length)=true)(h0:hs[0]?=some H0)
  (hp:zhw P n K c g l.toArray (zbc l.toArray (t.map (·.1)) env0) hs 0 l t hs)(hc:Nat.blt c l.length=true)(hF:hs[(t.filter efX).length]?=some HF)(hE:zbF (zbc l.toArray (t.map (·.1)) env0)=some envF)(hK:g->K .normal envF HF):
  TR P n (.region id' l.toArray true) env0 H0 K:=by
 obtain⟨g1,g2⟩:=hp.get
 rw[qat]at hB
 obtain⟨hB,hR⟩:=hB
 have hfl:(t.map (·.2)).map (fun x=>Nat.blt x.2 x.1)=t.map efX:=by rw[qbQ];rfl
 rw[hfl]at hB
 intro φ m a h1 h2 h3 h4
 have hef:∀i,((t.map efX).take i |>.filter id).length=effX t i:=by
  intro i
  unfold effX
  rw[<-qca,qcd,qad]
  rfl
 have hall:((t.map efX).filter id).length=(t.filter efX).length:=by
  rw[qcd,qad];rfl
 have s0:Step m ⟨m.A,m.β,m.H,{ m.w with drawn:=m.w.drawn+1 }⟩/\HRel ⟨m.A,m.β,m.H,{ m.w with drawn:=m.w.drawn+1 }⟩:=zcN h2 ⟨rfl,rfl,rfl,qae _,fun _ _=>rfl⟩
 refine zbz (wpIn_region_any hm ?_)
 refine zhy [] (G:=fun i=>atG c g (0+i)) (vs:=t.map (·.1)) (fl:=t.map efX) (hs:=hs) (m0:=m) (fun t ht=>by cases ht) hB (by simp[g1]) (by simp[g1]) ?_ ?_ (by rw[hall];exact hF) (fun hG=>by
   rw[zbf hE]at hK
   have:=hG c (by have:=qag hc;simp;omega)
   unfold atG at this
   rw[qaM,show Nat.beq c c=true from qbg c]at this
   exact hK this) l.toArray.size (Array.replicate l.toArray.size false)
  ⟨m.A,m.β,m.H,{ m.w with drawn:=m.w.drawn+1 }⟩ a (by simp) ?_ ?_ ?_ s0.1 s0.2 ?_ (h4.step h2 s0.1)
 ·intro i o v ho hv hb k H hk hok env
  obtain⟨x,hx,rfl⟩:∃x,t[i]?=some x/\x.1=v:=by simpa using hv
  have hb':efX x=false:=by
   exact zwfe
  have h5:=(g2 i o x (by simpa using ho) hx).1 hb'
  have hil:=(qaa.1 hx).1
  have hr:=qaw.1 hR i (by simpa using hil)
  rw[qar,hx]at hr
  simp only[qaX]at hr
  rw[show Nat.blt x.2.2 x.2.1=false from hb',qbz]at hr
  have hkl:=(qaa.1 hk).1
  have hr:=qaw.1 hr k (by simpa using hkl)
  rw[hfl,hok,qbW,qbz,qat]at hr
  have r1:=qag hr.1
  have r2:=qag hr.2
  refine zka h5 H ?_ env
  refine qaB (i:=k-x.2.1) ?_
  rw[qaN,if_pos (by omega),qaW,show x.2.1+(k-x.2.1)=k by omega]
  exact hk
 ·intro i o v ho hv hb
  obtain⟨x,hx,rfl⟩:∃x,t[i]?=some x/\x.1=v:=by simpa using hv
  have hb':efX x=true:=by
   exact zwfe
  have:=(g2 i o x (by simpa using ho) hx).2 hb'
  rw[hef]
  exact this
 ·exact zwfh
 ·exact zwcm
 ·exact zwbz
 ·exact zwg
end rules
def zbY(z:List T)(n:Nat):List SV:=(List.replicate n z).flatten.map .t
theorem znb{α:Type}(z:List α)(hz:0<z.length):∀(n j:Nat),j<n*z.length->(List.replicate n z).flatten[j]?=z[j % z.length]?
 | 0,j,h=>by simp at h
 | n+1,j,h=>by
   rw[qbH,qbb]
   by_cases hj:j<z.length
   ·rw[qao hj,Nat.mod_eq_of_lt hj]
   ·rw[qaq (by omega),znb z hz n (j-z.length) (by rw[qb4]at h;omega),<-Nat.mod_eq_sub_mod (by omega)]
theorem zav(z:List T)(n:Nat):(zbY z n).length=n*z.length:=by simp[zbY]
theorem zlu{m:M}(hm:HRel m){ts:List T}{z:Array Value}{e:TypeId}{arr:Array Value}{c N:Nat}(hz:zdx ts z.toList=true)(hpos:0<ts.length)(hN:c≤N)(hsz:arr.size=N*ts.length)(harr:∀j,j<N*ts.length->arr[j]?=z[j % ts.length]?):
  Step m ⟨m.A,m.β++[⟨m.w.heap.size,0,arr.size⟩],m.H++[.cells (zbY ts c)],m.w.alloc (.cells arr e)⟩/\HRel ⟨m.A,m.β++[⟨m.w.heap.size,0,arr.size⟩],m.H++[.cells (zbY ts c)],m.w.alloc (.cells arr e)⟩:=by
 obtain⟨g1,g0,g2⟩:=zb3 (A:=m.A) (w:=m.w) _ _ hz
 have hcN:c*ts.length≤N*ts.length:=qaL _ hN
 refine zcI hm _ arr e (by rw[zav,hsz];exact hcN) (fun j y hy=>?_) (fun j s y hs hy=>?_)
 ·have hj:=(qaj.1 hy).1
  rw[harr j (by omega)]at hy
  exact g0 _ y (by simpa using hy)
 ·have hj:=(qaj.1 hy).1
  rw[harr j (by omega)]at hy
  have hjs:=(qaa.1 hs).1
  rw[zav]at hjs
  unfold zbY at hs
  rw[qar,znb ts hpos c j hjs]at hs
  cases hq:ts[j % ts.length]? with
  | none=>rw[hq]at hs;cases hs
  | some u=>rw[hq]at hs;cases hs;exact .t _ _ (g2 _ u y hq (by simpa using hy))
theorem zeW(z:Array Value)(n j:Nat)(hz:0<z.size)(hj:j<n*z.size):(Builtin.zeroCells z n)[j]?=z[j % z.size]? :=by
 have h2:j % z.size<z.size:=Nat.mod_lt _ hz
 unfold Builtin.zeroCells
 rw[qb1,qak (by simpa using hj)]
 simp[h2]
theorem zgZ(z:Array Value)(n:Nat):(Builtin.zeroCells z n).size=n*z.size:=by simp[Builtin.zeroCells]
section rules
variable {P:Program}{n:Nat}{env:Env}{H:Heap}{K:TK}{all:Array Oper}{rest:List Oper}{tab:Tab}
variable {d:Nat}{ty:TypeId}{pos:String}{aft:Array Edge}
theorem zoc{m:M}(hm:HRel m):Step m ⟨m.A,m.β,m.H,m.w.drew⟩/\HRel ⟨m.A,m.β,m.H,m.w.drew⟩:=
 zcN hm ⟨rfl,rfl,rfl,qae _,fun _ _=>rfl⟩
theorem zcH{sz:Nat}:∀(es:List T),(∀e∈es,e.cells.length=sz)->((es.map T.cells).flatten.length=es.length*sz/\∀(i j:Nat) e c,es[i]?=some e->e.cells[j]?=some c->((es.map T.cells).flatten)[i*sz+j]?=some c)
 | [],_=>by simp
 | e::es,h=>by
   obtain⟨h1,h2⟩:=zcH es (fun x hx=>h x (qaA _ hx))
   have he:=h e qaC
   refine⟨by rw[qah,qbb,qal,h1,he,qac,qb4];omega,fun i j x c hx hc=>?_⟩
   rw[qah,qbb]
   cases i with
   | zero=>
     simp at hx;subst hx
     have:=(qaa.1 hc).1
     rw[qcm,qaM,qao this];exact hc
   | succ i=>
     rw[qaq (by rw[he,qb4];omega),he,show(i+1)*sz+j-sz=i*sz+j from by rw[qb4];omega]
     exact h2 i j x c (by simpa using hx) hc
end rules
theorem zh6(k:Nat):∀(ts:List T),unders k (ts.map .t)=true
 | []=>rfl
 | t::ts=>by simp[unders,SV.under,zh6 k ts]
theorem zpa(r:Nat->Nat):∀(ts:List T),rens r (ts.map .t)=ts.map .t
 | []=>rfl
 | t::ts=>by simp[rens,SV.ren,zpa r ts]
section rules
variable {P:Program}{n:Nat}{env:Env}{H:Heap}{K:TK}{all:Array Oper}{rest:List Oper}{tab:Tab}
variable {d:Nat}{ty:TypeId}{pos:String}{aft:Array Edge}
theorem zg9(H:Heap):Hands H [] []:=zen (N:=0) (qaV _) rfl rfl
end rules
end Go.TL
namespace Go.Proofs.YtpfnfpaahefdaaaGreat
open Go Go.TL
attribute [local irreducible] TR TO Then zab RetK Sound zac Kf GG za2
def flat:Ex->List Ex
 | .mk k o t v n l=>.mk k o t v n l::(l.attach.map fun x=>flat x.1).flatten
decreasing_by
 have:=qbe x.2
 simp;omega
def flats(l:List Ex):List Ex:=(l.map flat).flatten
theorem zel(e:Ex):flat e=e::flats e.args:=by
 cases e
 rw[flat];simp[flats,Ex.args]
inductive Out where
 | go
 | jump (c:Code) (H:Heap)
 | panic (v:SV) (H:Heap)
def zbx(f:List Ex->Ex->Out):List Ex->List Ex->Out
 | _,[]=>.go
 | pre,x::l=>match f pre x with
   | .go=>zbx f (pre++[x]) l
   | o=>o
theorem zc5(f:List Ex->Ex->Out):∀(a b pre:List Ex),zbx f pre (a++b)=match zbx f pre a with
  | .go=>zbx f (pre++a) b
  | o=>o
 | [],b,pre=>by simp[zbx]
 | x::a,b,pre=>by
   simp only[qbc,zbx]
   cases f pre x with
   | go=>simp only[];rw[zc5 f a b (pre++[x])];simp
   | jump c H=>rfl
   | panic v H=>rfl
structure zhu where
 L0:Nat
 Hb:List Ex->Heap
 lp:LoopState->Option Code->Blk
 f:List Ex->Ex->Out
def zhu.ok(S:zhu):Prop:=
 (∀pre,(S.Hb pre).length=S.L0/\zad (S.L0+1) (S.Hb pre)=true)/\(∀st pe,(S.lp st pe).under (S.L0+1)=true)/\
 ∀pre x,match S.f pre x with
  | .go=>True
  | .jump c H=>H.length=S.L0/\zad (S.L0+1) H=true
  | .panic v H=>v.under (S.L0+1)=true/\H.length=S.L0/\zad (S.L0+1) H=true
def zdf(S:zhu)(pre xs:List Ex)(r:Res)(H:Heap):Prop:=
 match zbx S.f pre xs with
 | .go=>r= .ret (.b true)/\H=S.Hb (pre++xs)++[S.lp .ready none]
 | .jump c H0=>r= .ret (.b false)/\H=H0++[S.lp .done (some c)]
 | .panic v H0=>r= .panic v/\H=H0++[S.lp .busy none]
theorem zdP(a b:List Ex):flats (a++b)=flats a++flats b:=by simp[flats]
theorem zf9(l:List Ex){j:Nat}(h:j<l.length):flats l=flats (l.take j)++(flat l[j]++flats (l.drop (j+1))):=by
 have:l=l.take j++([l[j]]++l.drop (j+1)):=by
  rw[List.singleton_append,<-qaF h,qbf]
 conv=>lhs;rw[this]
 rw[zdP,zdP]
 simp[flats]
theorem zg8(l:List Ex){j:Nat}(h:j<l.length):flats (l.take (j+1))=flats (l.take j)++flat l[j]:=by
 rw[qaJ h,zdP];simp[flats]
theorem zn5(e:Ex):0<(flat e).length:=by rw[zel];simp
theorem zit:∀l:List Ex,l.length≤(flats l).length
 | []=>qaV _
 | x::l=>by
   have h1:=zit l
   have:=zn5 x
   simp only[flats,qah,qbb,qal,qac]at h1⊢
   omega
theorem zkv(e:Ex):(flat e).length=wEx e:=by
 generalize hn:wEx e=n
 induction n using Nat.strongRecOn generalizing e with
 | ind n ih=>
   have h:∀l:List Ex,(∀x∈l,wEx x<n)->(flats l).length=(l.map wEx).sum:=by
    intro l
    induction l with
    | nil=>intro _;rfl
    | cons x l ihl=>
      intro hx
      have h1:=ihl fun y hy=>hx y (qaA _ hy)
      have h2:=ih (wEx x) (hx x qaC) x rfl
      simp only[flats,qah,qbb,qal,qax]at h1⊢
      omega
   rw[zel,qac,h e.args (fun x hx=>by have:=zdX hx;omega)]
   rw[zdY]at hn
   omega
theorem zax{k:Nat}:∀ {a b:Heap},zad k a=true->zad k b=true->zad k (a++b)=true
 | [],b,_,h=>h
 | x::a,b,h1,h2=>by
   simp only[zad,qat]at h1
   simp[zad,h1.1,zax h1.2 h2]
theorem zdm{S:zhu}(h:S.ok):∀(xs pre:List Ex),match zbx S.f pre xs with
  | .go=>True
  | .jump c H=>H.length=S.L0/\zad (S.L0+1) H=true
  | .panic v H=>v.under (S.L0+1)=true/\H.length=S.L0/\zad (S.L0+1) H=true
 | [],pre=>by simp[zbx]
 | x::xs,pre=>by
   have h2:=h.2.2 pre x
   simp only[zbx]
   cases hq:S.f pre x with
   | go=>exact zdm h xs (pre++[x])
   | jump c H=>rw[hq]at h2;exact h2
   | panic v H=>rw[hq]at h2;exact h2
theorem zfi{S:zhu}(h:S.ok)(pre xs:List Ex):Within (S.L0+1) (zdf S pre xs):=by
 have ho:=zdm h xs pre
 have one:∀st pe,zad (S.L0+1) [S.lp st pe]=true:=fun st pe=>by simp[zad,h.2.1]
 constructor
 ·intro v H' hr
  unfold zdf at hr
  split at hr
  ·obtain⟨h1,rfl⟩:=hr
   cases h1
   exact⟨rfl,by simp[(h.1 _).1],zax (h.1 _).2 (one _ _)⟩
  ·rename_i c H0 hq
   rw[hq]at ho
   obtain⟨h1,rfl⟩:=hr
   cases h1
   exact⟨rfl,by simp[ho.1],zax ho.2 (one _ _)⟩
  ·obtain⟨h1,_⟩:=hr;cases h1
 ·intro v H' hr
  unfold zdf at hr
  split at hr
  ·obtain⟨h1,_⟩:=hr;cases h1
  ·obtain⟨h1,_⟩:=hr;cases h1
  ·rename_i u H0 hq
   rw[hq]at ho
   obtain⟨h1,rfl⟩:=hr
   cases h1
   exact⟨ho.1,by simp[ho.2.1],zax ho.2.2 (one _ _)⟩
set_option maxHeartbeats 1000000 in
theorem zll (S:zhu) (hS:S.ok) (whole:List Ex) (hW:whole.length≤1000000000) (hY:∀pre x post,whole=pre++x::post->zfO Tryz.prog S.L0 (.t (exT x)) (S.Hb pre++[S.lp .ready none]) (zdf S pre [x])):
  ∀(m:Nat) (e:Ex),wEx e≤m->∀(pre post:List Ex),whole=pre++(flat e++post)->Sound Tryz.prog 86 [.t (exT e),.yl S.L0] (S.Hb pre++[S.lp .ready none]) (zdf S pre (flat e)):=by
 intro m
 induction m with
 | zero=>intro e he;have:=ze9 e;omega
 | succ m ih0=>
   intro e he pre post hw
   have ih:∀x∈e.args,∀(pre post:List Ex),whole=pre++(flat x++post)->Sound Tryz.prog 86 [.t (exT x),.yl S.L0] (S.Hb pre++[S.lp .ready none]) (zdf S pre (flat x)):=
    fun x hx=>ih0 x (by have:=zdX hx;omega)
   clear ih0
   have hN:(S.Hb pre++[S.lp .ready none]).length=S.L0+1:=by simp[(hS.1 _).1]
   have hbu:∀pre,zad (S.L0+1) (S.Hb pre++[S.lp .ready none])=true:=fun pre=>zax (hS.1 _).2 (by simp[zad,hS.2.1])
   have hy:=hY pre e (flats e.args++post) (by rw[hw,zel];simp)
   have hflat:=zel e
   rw[zao]at hy⊢
   have hll:e.args.length≤1000000000:=by
    have h1:=zit e.args
    have h2:=congrArg List.length hw
    simp[hflat]at h2
    omega
   generalize hl:e.args=l at ih hflat hll
   have hC:exC e=[T.n e.kind,T.n e.op,T.n e.t,T.n e.v,.s e.name,.sl 6 (l.map exT)]:=by rw[<-hl];rfl
   rw[hC]at hy⊢
   have hml:(l.map exT).length=l.length:=qad _
   generalize hG:S.Hb pre++[S.lp .ready none]=G at hy hN⊢
   have hGu:zad (S.L0+1) G=true:=by rw[<-hG];exact hbu pre
   refine so Tryz.func86 ?_
   repeat' (first|refine wu ?_|exact wkc|intro hc|refine wk2 ?_ ?_|fail)
   have hGt:G.take (S.L0+1)=G:=qaH (by omega)
   have hGd:G.drop (S.L0+1)=[]:=qaZ (by omega)
   refine TO.zrg (S.L0+1) (arg:=.t (.ag [T.n e.kind,T.n e.op,T.n e.t,T.n e.v,.s e.name,.sl 6 (l.map exT)])) hy (zfi hS pre [_]) rfl rfl rfl rfl (qbF _) (by omega) hGt hGu ?_ ?_
   ·intro u H' hr
    simp only[zdf,zbx]at hr
    rw[hGd,qaU]
    cases hf:S.f pre e with
    | panic v0 H0=>rw[hf]at hr;cases hr.1
    | jump c H0=>
      rw[hf]at hr
      obtain⟨h1,rfl⟩:=hr
      cases h1
      have ho:=hS.2.2 pre e
      rw[hf]at ho
      repeat' (first|refine wu ?_|exact wkc|intro hc|refine wk2 ?_ ?_|fail)
      refine RetK.at (v:=.b false) (S.L0+1) rfl (Le.of_eq rfl) (by omega) (by simp[ho.1]) rfl (zax ho.2 (by simp[zad,hS.2.1])) ?_
      simp[zdf,hflat,zbx,hf]
    | go=>
      rw[hf]at hr
      obtain⟨h1,rfl⟩:=hr
      cases h1
      repeat' (first|refine wu ?_|exact wkc|intro hc|refine wk2 ?_ ?_|fail)
      refine TR.zbv l.length (fun j=>zbx S.f (pre++[e]) (flats (l.take j))= .go) (fun j=>[(14,.i j),(13,.i l.length),(12,.t (.sl 6 (l.map exT))),(1,.yl S.L0),(4,.b false)])
       (fun j=>S.Hb (pre++[e]++flats (l.take j))++[S.lp .ready none]) (by simp[flats,zbx]) (fun j hlt hsc=>?_) (fun hsc=>?_) ⟨rfl,by rw[<-hml];rfl,rfl,rfl,rfl,trivial⟩ (by simp[flats])
      ·have hGj:(S.Hb (pre++[e]++flats (l.take j))++[S.lp .ready none]).length=S.L0+1:=by simp[(hS.1 _).1]
       have hGjd:(S.Hb (pre++[e]++flats (l.take j))++[S.lp .ready none]).drop (S.L0+1)=[]:=qaZ (by omega)
       have hx:=zg0 hlt
       have hw':whole=(pre++[e]++flats (l.take j))++(flat l[j]++(flats (l.drop (j+1))++post)):=by
        rw[hw,hflat,zf9 l hlt];simp
       have hs:=ih l[j] (qaz hlt) _ _ hw'
       rw[zao]at hs
       repeat' (first|refine wu ?_|exact wkc|intro hc|refine wk2 ?_ ?_|fail)
       refine TO.zpo (S.L0+1) hs (zfi hS _ _) rfl rfl rfl ⟨Le.of_eq rfl,Le.refl _,trivial⟩ (by simp[unders,SV.under,qa3]) (by omega) (qaH (by omega)) (hbu _) ?_ ?_
       ·intro u H2 hr2
        have hout:=zdm hS (flat l[j]) (pre++[e]++flats (l.take j))
        simp only[zdf]at hr2
        rw[hGjd,qaU]
        cases ho:zbx S.f (pre++[e]++flats (l.take j)) (flat l[j]) with
        | panic v0 H0=>rw[ho]at hr2;cases hr2.1
        | jump c H0=>
          rw[ho]at hr2 hout
          obtain⟨h1,rfl⟩:=hr2
          cases h1
          repeat' (first|refine wu ?_|exact wkc|intro hc|refine wk2 ?_ ?_|fail)
          refine RetK.at (v:=.b false) (S.L0+1) rfl (Le.of_eq rfl) (by omega) (by simp[hout.1]) rfl (zax hout.2 (by simp[zad,hS.2.1])) ?_
          have:zbx S.f pre (flat e)= .jump c H0:=by
           exact zwdp
          simp[zdf,this]
        | go=>
          rw[ho]at hr2
          obtain⟨h1,rfl⟩:=hr2
          cases h1
          repeat' (first|refine wu ?_|exact wkc|intro hc|refine wk2 ?_ ?_|fail)
          refine zac.zb0 hlt ?_ ⟨rfl,rfl,rfl,rfl,rfl,trivial⟩ (by rw[zg8 l hlt];simp)
          rw[zg8 l hlt,zc5,hsc]
          exact ho
       ·intro u H2 hr2
        have hout:=zdm hS (flat l[j]) (pre++[e]++flats (l.take j))
        simp only[zdf]at hr2
        rw[hGjd,qaU]
        cases ho:zbx S.f (pre++[e]++flats (l.take j)) (flat l[j]) with
        | panic v0 H0=>
          rw[ho]at hr2 hout
          obtain⟨h1,rfl⟩:=hr2
          cases h1
          repeat' (first|refine wu ?_|exact wkc|intro hc|refine wk2 ?_ ?_|fail)
          refine zac.panic ?_
          repeat' (first|refine wu ?_|exact wkc|intro hc|refine wk2 ?_ ?_|fail)
          refine RetK.atP (S.L0+1) ?_ ?_ hout.1 ?_ ?_
          ·omega
          ·simp[hout.2.1]
          ·exact zax hout.2.2 (by simp[zad,hS.2.1])
          have:zbx S.f pre (flat e)= .panic u H0:=by
           exact zwdp
          simp[zdf,this]
        | jump c H0=>rw[ho]at hr2;cases hr2.1
        | go=>rw[ho]at hr2;cases hr2.1
      ·have hGj:(S.Hb (pre++[e]++flats (l.take l.length))++[S.lp .ready none]).length=S.L0+1:=by simp[(hS.1 _).1]
       repeat' (first|refine wu ?_|exact wkc|intro hc|refine wk2 ?_ ?_|fail)
       refine RetK.at (v:=.b true) (S.L0+1) rfl (Le.of_eq rfl) (by omega) hGj rfl (hbu _) ?_
       have:zbx S.f pre (flat e)= .go:=by
        rw[hflat,zbx,hf]
        simp only[]
        rw[qbd]at hsc
        exact hsc
       simp only[zdf,this]
       exact⟨trivial,by rw[hflat];simp⟩
   ·intro u H' hr
    simp only[zdf,zbx]at hr
    rw[hGd,qaU]
    cases hf:S.f pre e with
    | panic v0 H0=>
      have ho:=hS.2.2 pre e
      rw[hf]at hr ho
      obtain⟨h1,rfl⟩:=hr
      cases h1
      repeat' (first|refine wu ?_|exact wkc|intro hc|refine wk2 ?_ ?_|fail)
      refine RetK.atP (S.L0+1) ?_ ?_ ho.1 ?_ ?_
      ·omega
      ·simp[ho.2.1]
      ·exact zax ho.2.2 (by simp[zad,hS.2.1])
      simp[zdf,hflat,zbx,hf]
    | jump c H0=>rw[hf]at hr;cases hr.1
    | go=>rw[hf]at hr;cases hr.1
def lpB(fn n:Nat)(env:Env)(ps:Array Tmp)(assign body:Code)(st:LoopState)(pe:Option Code):Blk:=.loop fn st pe n env ps assign body
theorem zd0(e:Ex):Pure Tryz.prog 64 [.t (exT e)] (.fn 85 [.cp (exC e) 0]):=by
 rw[zao]
 refine so Tryz.func64 ?_
 repeat' (first|refine wu ?_|exact wkc|intro hc|refine wk2 ?_ ?_|fail)
 exact wkr
def zh9(S:zhu)(xs:List Ex)(r:Res)(H:Heap):Prop:=
 match zbx S.f [] xs with
 | .go=>r= .ret (.tup [])/\H=S.Hb xs++[S.lp .ready none]
 | .jump c H0=>r= .ret (.tup [])/\H=H0++[S.lp .done (some c)]
 | .panic v H0=>r= .panic v/\H=H0++[S.lp .busy none]
theorem zjt(S:zhu)(hS:S.ok)(e:Ex)(hW:wEx e≤1000000000)(hY:∀pre x post,flat e=pre++x::post->zfO Tryz.prog S.L0 (.t (exT x)) (S.Hb pre++[S.lp .ready none]) (zdf S pre [x])):
  Sound Tryz.prog 85 [.yl S.L0,.cp (exC e) 0] (S.Hb []++[S.lp .ready none]) (zh9 S (flat e)):=by
 have hs:=zll S hS (flat e) (by rw[zkv];exact hW) hY (wEx e) e (qae _) [] [] (by simp)
 rw[zao]at hs
 have hout:=zdm hS (flat e) []
 have hHb:=hS.1
 have hlp:=hS.2.1
 unfold exC at*
 refine so Tryz.func85 ?_
 repeat' (first|refine wu ?_|exact wkc|intro hc|refine wk2 ?_ ?_|fail)
 refine TO.zrk hs rfl rfl rfl ⟨Le.refl _,Le.refl _,trivial⟩ ?_ ?_
 ·intro u H2 hr
  simp only[zdf]at hr
  cases ho:zbx S.f [] (flat e) with
  | panic v0 H0=>rw[ho]at hr;cases hr.1
  | jump c H0=>
    rw[ho]at hr hout
    obtain⟨h1,rfl⟩:=hr
    cases h1
    repeat' (first|refine wu ?_|exact wkc|intro hc|refine wk2 ?_ ?_|fail)
    refine RetK.atN (v:=.tup []) (S.L0+1) rfl (Le.of_eq rfl) (by simp[(hHb _).1]) (by simp[hout.1]) rfl (zax hout.2 (by simp[zad,hlp])) ?_
    simp only[zh9,ho]
    (first|exact⟨trivial,rfl⟩|exact⟨trivial,trivial⟩)
  | go=>
    rw[ho]at hr
    obtain⟨h1,rfl⟩:=hr
    cases h1
    repeat' (first|refine wu ?_|exact wkc|intro hc|refine wk2 ?_ ?_|fail)
    refine RetK.atN (v:=.tup []) (S.L0+1) rfl (Le.of_eq rfl) (by simp[(hHb _).1]) (by simp[(hHb _).1]) rfl (zax (hHb _).2 (by simp[zad,hlp])) ?_
    simp only[zh9,ho]
    (first|exact⟨trivial,rfl⟩|exact⟨trivial,trivial⟩)
 ·intro u H2 hr
  simp only[zdf]at hr
  cases ho:zbx S.f [] (flat e) with
  | panic v0 H0=>
    rw[ho]at hr hout
    obtain⟨h1,rfl⟩:=hr
    cases h1
    repeat' (first|refine wu ?_|exact wkc|intro hc|refine wk2 ?_ ?_|fail)
    refine RetK.atP (S.L0+1) ?_ ?_ hout.1 ?_ ?_
    ·simp[(hHb _).1]
    ·simp[hout.2.1]
    ·exact zax hout.2.2 (by simp[zad,hlp])
    simp only[zh9,ho]
    (first|exact⟨trivial,rfl⟩|exact⟨trivial,trivial⟩)
  | jump c H0=>rw[ho]at hr;cases hr.1
  | go=>rw[ho]at hr;cases hr.1
def zp8(L0:Nat)(lb:Blk)(Hb:List Ex->Heap)(f:List Ex->Ex->Out)(pre:List Ex)(x:Ex):TK
 | .normal,_,H=>f pre x= .go/\H.take L0=Hb (pre++[x])/\H[L0]?=some lb
 | .ret,_,H=>∃H0,f pre x= .jump .ret H0/\H.take L0=H0/\H[L0]?=some lb
 | .exit i,_,H=>∃H0,f pre x= .jump (.exit i) H0/\H.take L0=H0/\H[L0]?=some lb
 | .panic v,_,H=>∃H0,f pre x= .panic v H0/\H.take L0=H0/\H[L0]?=some lb
def AsgK(P:Program)(n L0:Nat)(lr lb:Blk)(body:Code)(Hb:List Ex->Heap)(f:List Ex->Ex->Out)(pre:List Ex)(x:Ex):TK
 | .normal,env,H=>H[L0]?=some lr/\TR P n body env (H.set L0 lb) (zp8 L0 lb Hb f pre x)
 | _,_,_=>False
theorem zdF{α:Type}{H:List α}{L:Nat}{a b:α}(h:H[L]?=some a):(H.set L b).take (L+1)=H.take L++[b]:=by
 have hl:=(qaa.1 h).1
 rw[qaJ (by simpa using hl),List.take_set,List.set_eq_of_length_le (by simp;omega)]
 simp
theorem TR.zeO{n:Nat}{g:Operand}{p:Tmp}{assign body:Code}{env:Env}{H:Heap}{K:TK}(e:Ex)(Hb:List Ex->Heap)(f:List Ex->Ex->Out)(hg:env.val g=some (.fn 85 [.cp (exC e) 0]))(hW:wEx e≤1000000000)
  (h0:Hb []=H)(hp:Nat.ble (p+1) n=true)(henv:(env.all fun x=>x.2.under (H.length+1))=true)(hHb:∀pre,(Hb pre).length=H.length/\zad (H.length+1) (Hb pre)=true)
  (hf:∀pre x,match f pre x with
    | .go=>True
    | .jump c H1=>H1.length=H.length/\zad (H.length+1) H1=true
    | .panic v H1=>v.under (H.length+1)=true/\H1.length=H.length/\zad (H.length+1) H1=true)
  (round:∀fn pre x post,flat e=pre++x::post->TR Tryz.prog n assign ((p,.t (.ag (exC x)))::env) (Hb pre++[lpB fn n env #[p] assign body .ready none]) (AsgK Tryz.prog n H.length (lpB fn n env #[p] assign body .ready none) (lpB fn n env #[p] assign body .busy none) body Hb f pre x))
  (fin:∀fn,match zbx f [] (flat e) with
    | .go=>K .normal env (Hb (flat e)++[.dead])
    | .jump .ret H1=>K .ret env (H1++[.dead])
    | .jump (.exit i) H1=>K (.exit i) env (H1++[.dead])
    | .jump _ _=>False
    | .panic v H1=>K (.panic v) env (H1++[lpB fn n env #[p] assign body .busy none])):TR Tryz.prog n (.rangeFunc g #[p] assign body) env H K:=by
 refine TR.rangeFunc hg fun fn hfn=>?_
 have fin:=fin fn
 have hS:zhu.ok ⟨H.length,Hb,lpB fn n env #[p] assign body,f⟩:=by
  refine⟨hHb,fun st pe=>?_,fun pre x=>hf pre x⟩
  exact henv
 have hpl:∀pre:List Ex,(Hb pre).length=H.length:=fun pre=>(hHb pre).1
 have:=zjt ⟨H.length,Hb,lpB fn n env #[p] assign body,f⟩ hS e hW ?_
 ·simp only[h0]at this
  refine Sound.mono this fun r H' hr=>?_
  simp only[zh9]at hr
  cases ho:zbx f [] (flat e) with
  | go=>
    rw[ho]at hr fin
    obtain⟨rfl,rfl⟩:=hr
    simp only[zl6]
    refine⟨fn,.ready,none,n,env,#[p],assign,body,?_,by simp,?_⟩
    ·rw[<-hpl (flat e)];simp[lpB]
    ·have:(Hb (flat e)++[lpB fn n env #[p] assign body LoopState.ready none]).set H.length .dead=Hb (flat e)++[.dead]:=by rw[<-hpl (flat e)];simp
     rw[this];exact fin
  | jump c H1=>
    have hl:=zdm hS (flat e) []
    rw[ho]at hr fin
    simp only[ho]at hl
    obtain⟨rfl,rfl⟩:=hr
    simp only[zl6]
    refine⟨fn,.done,some c,n,env,#[p],assign,body,?_,by simp,?_⟩
    ·rw[<-hl.1];simp[lpB]
    ·have:(H1++[lpB fn n env #[p] assign body LoopState.done (some c)]).set H.length .dead=H1++[.dead]:=by rw[<-hl.1];simp
     simp only[this]
     cases c <;> first|exact fin|exact fin.elim
  | panic v H1=>
    rw[ho]at hr fin
    obtain⟨rfl,rfl⟩:=hr
    exact fin
 ·intro pre x post hw
  have hid:(Hb pre++[lpB fn n env #[p] assign body .ready none])[H.length]?=some (.loop fn .ready none n env #[p] assign body):=by rw[<-hpl pre];simp[lpB]
  refine zfO.of hfn hid hp ?_
  have h1:=round fn pre x post hw
  rw[zao]
  refine TR.mono h1 fun te env2 H2 h2=>?_
  cases te with
  | normal=>
    obtain⟨h3,h4⟩:=h2
    refine⟨fn,none,n,env,#[p],assign,body,h3,?_⟩
    refine TR.mono h4 fun te env3 H3 h5=>?_
    have hN:(Hb pre++[lpB fn n env #[p] assign body .ready none]).length=H.length+1:=by simp[hpl]
    have hun:∀st pe,zad (H.length+1) [lpB fn n env #[p] assign body st pe]=true:=fun st pe=>by simp only[zad,qba];exact henv
    cases te with
    | normal=>
      obtain⟨g1,g2,g3⟩:=h5
      refine⟨fn,.busy,none,n,env,#[p],assign,body,g3,?_,?_,?_⟩
      ·rw[hN];exact(qaa.1 g3).1
      ·rw[hN,zdF g3,g2];exact zax (hHb _).2 (hun _ _)
      ·exact zwdo
    | ret=>
      obtain⟨H0,g1,g2,g3⟩:=h5
      have g4:=hf pre x
      rw[g1]at g4
      refine⟨fn,.busy,none,n,env,#[p],assign,body,g3,?_,?_,?_⟩
      ·rw[hN];exact(qaa.1 g3).1
      ·exact zwfp
      ·exact zwdo
    | exit i=>
      obtain⟨H0,g1,g2,g3⟩:=h5
      have g4:=hf pre x
      rw[g1]at g4
      refine⟨fn,.busy,none,n,env,#[p],assign,body,g3,?_,?_,?_⟩
      ·rw[hN];exact(qaa.1 g3).1
      ·exact zwfp
      ·exact zwdo
    | panic v=>
      obtain⟨H0,g1,g2,g3⟩:=h5
      have g4:=hf pre x
      rw[g1]at g4
      have e3:H3.take (H.length+1)=H0++[lpB fn n env #[p] assign body .busy none]:=by
       have hl:=(qaa.1 g3)
       rw[qaJ hl.1,g2,hl.2]
      refine⟨?_,?_,?_,?_⟩
      ·rw[hN];exact g4.1
      ·rw[hN];exact(qaa.1 g3).1
      ·rw[hN,e3];exact zax g4.2.2 (hun _ _)
      ·rw[hN,e3]
       simp only[zdf,zbx,g1]
       (first|exact⟨trivial,rfl⟩|exact⟨trivial,trivial⟩)
  | ret=>exact h2.elim
  | exit i=>exact h2.elim
  | panic v=>exact h2.elim
end Go.Proofs.YtpfnfpaahefdaaaGreat
