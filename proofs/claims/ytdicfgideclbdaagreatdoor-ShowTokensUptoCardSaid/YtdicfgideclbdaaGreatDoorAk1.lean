import Derived.Test.YtdicfgideclbdaaGreatDoorAk0
set_option maxHeartbeats 64000000
set_option linter.all false
namespace Go.TL
open Go
variable {w':World}{o j sz cap d:Nat}{m:M}{p p':Place}{k:Blk}{A' A:Foot}{H' H:Heap}{cs vs:List SV}{c:Code}{ys es:List T}{y:Value}{fs:List (Nat×TypeId)}{fz:List (Nat×Nat)}{ps:List (Nat×SV)}{ad:Option Addr}{ie:TyI}{v':SV}{P:Program}{env:Env}{K:TK}{all:Array Oper}{rest:List Oper}{ty:TypeId}{aft:Array Edge}
theorem zaW{w:World}{b:Nat}(h:w'.heap[b]?=w.heap[b]?):w'.cell? ⟨b,o,none⟩=w.cell? ⟨b,o,none⟩:=by simp[World.cell?,h]
theorem za8{w:World}{b:Nat}(h:w'.heap[b]?=w.heap[b]?):w'.frozen? ⟨b,o,none⟩=w.frozen? ⟨b,o,none⟩:=by simp[World.frozen?,h]
theorem zgm.zeT(h:zgm m p k)(hk:k.obj=true):p.lo=0/\p.hi=1/\∀o,m.w.cell? ⟨p.b,o,none⟩=none:=by
 cases k <;> simp[Blk.obj]at hk
 ·obtain⟨h1,h2,a,c,h3,_⟩:=h;exact⟨h1,h2,fun o=>by simp[World.cell?,h3]⟩
 ·obtain⟨h1,h2,L,h3,_⟩:=h;exact⟨h1,h2,fun o=>by simp[World.cell?,h3]⟩
theorem zgm.step{m m':M}(hm:HRel m)(s:Step m m'){p:Place}{k:Blk}(h:zgm m p k)(hk:∀o,p.lo≤o->o<p.hi->m'.w.cell? ⟨p.b,o,none⟩=m.w.cell? ⟨p.b,o,none⟩/\((m.w.cell? ⟨p.b,o,none⟩).isSome=true->m'.w.frozen? ⟨p.b,o,none⟩=m.w.frozen? ⟨p.b,o,none⟩))
  (hmap:k.obj=true->m'.w.heap[p.b]?=m.w.heap[p.b]?):zgm m' p k:=by
 cases k with
 | cells cs=>
   obtain⟨h1,h2,h3⟩:=h;refine⟨h1,fun o ho ho'=>?_,fun j c hc=>?_⟩
   ·exact zwdl
   ·obtain⟨y,hy1,hy0,hy2⟩:=h3 j c hc;have hj:=(qaa.1 hc).1;exact⟨y,by rw[(hk (p.lo+j) oA oA).1];exact hy1,hy0,s.srel hm hy2⟩
 | tail n=>
   intro o ho ho'
   have:=h o ho ho'
   unfold Free at this⊢;rw[(hk o ho ho').1,(hk o ho ho').2 this.1];exact this
 | row e cs=>
   obtain⟨h1,h2,h3⟩:=h;refine⟨⟨h1.1,h1.2.1,fun h=>s.shape _ _ (h1.2.2 h)⟩,fun o ho ho'=>?_,fun j c hc=>?_⟩
   ·exact zwdl
   ·obtain⟨y,hy1,hy0,hy2⟩:=h3 j c hc;have hj:=(qaa.1 hc).1;exact⟨y,by rw[(hk (p.lo+j) oA oA).1];exact hy1,hy0,s.trel hm hy2⟩
 | map kt vt es=>
   obtain⟨h1,h2,a,clock,h3,h4,h5⟩:=h;refine⟨h1,h2,a,clock,?_,h4,fun i k t e he ha=>?_⟩
   ·rw[hmap rfl];exact h3
   ·obtain⟨g1,g2,g3⟩:=h5 i k t e he ha;exact⟨g1,s.trel hm g2,g3⟩
 | loop fn st pe n env ps aas bo=>
   obtain⟨h1,h2,L,h3,h4,h5⟩:=h;exact⟨h1,h2,L,by rw[hmap rfl];exact h3,h4,h5.step hm s⟩
 | dead=>trivial
theorem zeh{h h':Option Blk}(e:h'=h):zaZ h h' p p:=e ▸ zaZ.refl h p
theorem grow(hm:HRel m){βn:List Place}{Hn:Heap}(hos:w'.os=m.w.os)(htp:w'.tape=m.w.tape)(hou:w'.output=m.w.output)(hsz:m.w.heap.size≤w'.heap.size)
  (hkeep:∀b,b<m.w.heap.size->w'.heap[b]?=m.w.heap[b]?)(hA:∀b o,m.A b o->A' b o)(hA':∀b o,A' b o->m.A b o\/(m.w.heap.size≤b/\b<w'.heap.size))(hlen:βn.length=Hn.length)
  (hnew:∀(i:Nat) p k,βn[i]?=some p->Hn[i]?=some k->k.live=true->(m.w.heap.size≤p.b/\p.b<w'.heap.size)\/p.hi≤p.lo)
  (hap:∀(i j:Nat) p q,i≠j->βn[i]?=some p->βn[j]?=some q->p.apart q)
  (hst:∀b o,A' b o->¬m.A b o->∀(i:Nat) p k,βn[i]?=some p->Hn[i]?=some k->k.live=true->¬(p.b=b/\p.lo≤o/\o<p.hi))
  (hblk:Step m ⟨A',m.β++βn,m.H++Hn,w'⟩->∀(i:Nat) p k,βn[i]?=some p->Hn[i]?=some k->zgm ⟨A',m.β++βn,m.H++Hn,w'⟩ p k):
  Step m ⟨A',m.β++βn,m.H++Hn,w'⟩/\HRel ⟨A',m.β++βn,m.H++Hn,w'⟩:=by
 have split:∀(i:Nat) p k,(m.β++βn)[i]?=some p->(m.H++Hn)[i]?=some k->(m.β[i]?=some p/\m.H[i]?=some k)\/(m.β.length≤i/\βn[i-m.β.length]?=some p/\Hn[i-m.β.length]?=some k):=by
  intro i p k h1 h2;by_cases hi:i<m.β.length
  ·rw[qat hi]at h1;rw[qat (by rw[<-hm.len];exact hi)]at h2;exact .inl ⟨h1,h2⟩
  ·rw[qas oA]at h1;rw[qas (by rw[<-hm.len];omega),<-hm.len]at h2;exact .inr ⟨oA,h1,h2⟩
 have s:Step m ⟨A',m.β++βn,m.H++Hn,w'⟩:=by
  refine⟨hos,htp,hou,hsz,hA,fun b o h=>?_,fun b o h=>?_,fun b o hb _=>zaW (hkeep b hb),fun b o hb _ _=>za8 (hkeep b hb),fun b hb _=>hkeep b hb,fun b sh hs=>(by rw[zbC (hkeep b (zhC hs))];exact hs),fun b L hL=>⟨L,by show w'.heap[b]?=_;rw[hkeep b (qam.1 hL).1];exact hL⟩,fun b o hb h=>?_,fun i p hp=>?_⟩
  ·rcases hA' b o h with h|h
   ·exact .inl h
   ·exact .inr (.inr h.1)
  ·obtain⟨i,p,k,h1,h2,h3,h4,h5,h6⟩:=h;rcases split i p k h1 h2 with ⟨g1,g2⟩|⟨g0,g1,g2⟩
   ·exact .inl ⟨i,p,k,g1,g2,h3,h4,h5,h6⟩
   ·rcases hnew _ p k g1 g2 h3 with g|g
    ·exact .inr (by rw[<-h4];exact g.1)
    ·omega
  ·rw[zaW (hkeep b hb)];exact h
  ·have hi:=(qaa.1 hp).1;refine⟨p,by rw[qat hi];exact hp,zeh ?_⟩;show(m.H++Hn)[i]?=m.H[i]?;rw[qat (by rw[<-hm.len];exact hi)]
 refine⟨s,by simp[hm.len,hlen],fun i p k h1 h2=>?_,fun i j p q k l hij h1 h2 h3 h4 hk hl=>?_,fun b o h=>?_,fun b o h=>?_,fun i p k h1 h2 hk hlt=>?_,s.glob hm⟩
 ·rcases split i p k h1 h2 with ⟨g1,g2⟩|⟨g0,g1,g2⟩
  ·cases hlv:k.live with
   | true=>exact(hm.blk i p k g1 g2).step hm s (fun o h1 h2=>⟨zaW (hkeep _ (hm.inO i p k g1 g2 hlv oA)),fun _=>za8 (hkeep _ (hm.inO i p k g1 g2 hlv oA))⟩) (fun e=>hkeep _ (hm.inO i p k g1 g2 hlv (by obtain⟨e1,e2,_⟩:=(hm.blk i p _ g1 g2).zeT e;omega)))
   | false=>cases k <;> simp[Blk.live]at hlv;trivial
  ·exact hblk s _ p k g1 g2
 ·rcases split i p k h1 h2 with ⟨g1,g2⟩|⟨g0,g1,g2⟩ <;> rcases split j q l h3 h4 with ⟨g3,g4⟩|⟨g0',g3,g4⟩
  ·exact hm.apart i j p q k l hij g1 g2 g3 g4 hk hl
  ·intro e;rcases hnew _ q l g3 g4 hl with g|g
   ·by_cases hlt:p.lo<p.hi
    ·have:=hm.inO i p k g1 g2 hk hlt;omega
    ·omega
   ·omega
  ·intro e;rcases hnew _ p k g1 g2 hk with g|g
   ·by_cases hlt:q.lo<q.hi
    ·have:=hm.inO j q l g3 g4 hl hlt;omega
    ·omega
   ·omega
  ·exact hap _ _ p q oA g1 g3
 ·rintro⟨i,p,k,h1,h2,h3,h4,h5,h6⟩;rcases split i p k h1 h2 with ⟨g1,g2⟩|⟨g0,g1,g2⟩
  ·rcases hA' b o h with h|h
   ·exact hm.still b o h ⟨i,p,k,g1,g2,h3,h4,h5,h6⟩
   ·have:=hm.inO i p k g1 g2 h3 oA;omega
  ·by_cases ha:m.A b o
   ·rcases hnew _ p k g1 g2 h3 with g|g
    ·have:=hm.inA b o ha;omega
    ·omega
   ·exact hst b o h ha _ p k g1 g2 h3 ⟨h4,h5,h6⟩
 ·rcases hA' b o h with h|h
  ·exact qbc (hm.inA b o h) hsz
  ·exact h.2
 ·rcases split i p k h1 h2 with ⟨g1,g2⟩|⟨g0,g1,g2⟩
  ·exact qbc (hm.inO i p k g1 g2 hk hlt) hsz
  ·rcases hnew _ p k g1 g2 hk with g|g
   ·exact g.2
   ·omega
theorem zcw(hm:HRel m)(cs:List SV)(ys:Array Value)(t:TypeId)(hl:cs.length≤ys.size)(h1:∀(i:Nat) y,ys[i]?=some y->y.oneCell'=true)(h:∀(i:Nat) c y,cs[i]?=some c->ys[i]?=some y->SRel m c y):
  let m':M:=⟨m.A,m.β++[⟨m.w.heap.size,0,ys.size⟩],m.H++[.cells cs],m.w.alloc (.cells ys t)⟩
  Step m m'/\HRel m':=by
 intro m';have hcell:∀o,(m.w.alloc (.cells ys t)).cell? ⟨m.w.heap.size,o,none⟩=ys[o]? :=fun o=>World.cell?_alloc_new ..
 refine grow hm (A':=m.A) (βn:=[⟨m.w.heap.size,0,ys.size⟩]) (Hn:=[.cells cs]) rfl rfl rfl oC (fun b hb=>RowKit.Below.heap_alloc _ _ _ hb) (fun _ _ h=>h) (fun _ _ h=>.inl h) rfl ?_ ?_ ?_ ?_
 ·intro i p k h1 h2 h3;cases i with
  | zero=>simp at h1;subst h1;left;simp
  | succ i=>simp at h1
 ·exact zwfa
 ·intro b o h1 h2;exact oI h1 h2
 ·intro s i p k h1 h2;cases i with
  | zero=>
    simp at h1 h2;subst h1;subst h2
    refine⟨by simpa using hl,fun o _ ho=>?_,fun j c hc=>?_⟩
    ·refine⟨by simp[hcell]at ho⊢;omega,?_⟩;exact World.frozen?_alloc_new ..
    ·have hj:=(qaa.1 hc).1;have hy:ys[j]?=some (ys[j]' oA):=qaq oA;exact⟨_,by simp[hcell,hy],h1 _ _ hy,s.srel hm (h j c _ hc hy)⟩
  | succ i=>simp at h1
section rules
variable {n:Nat}{tab:Tab}
variable {pos:String}
theorem TO.eff{op:Op}{v:SV}(hd:Nat.ble (d+1) n=true)
  (h:∀(m:M) (a:Act),m.H=H->HRel m->ERel m n env a.tmps->∃x m',(execOp a.eval ⟨some d,op,ty,pos,aft,none⟩).run P m.w= .ok (.value x) m'.w/\Step m m'/\HRel m'/\m'.H=H'/\SRel m' v x)
  (k:TO false P n all rest ((d,v)::env) H' K):TO false P n all (⟨some d,op,ty,pos,aft,none⟩::rest) env H K:=by
 intro φ m a h1 h2 h3 h4;obtain⟨x,m',hx,s,hm',hH',hr⟩:=h m a h1 h2 h3;refine wpListIn_plain rfl fun K' hK=>?_
 unfold Oper.wpIn;refine⟨fun _ _=>trivial,?_⟩;rw[za9 hx (by intro d e;cases e)];simp only[Oper.uponIn];exact hK _ _ (TO.zfF s (k φ m' _ hH' hm' ((h3.step h2 s).put d (qaj hd) hr) (by simpa [Act.put]using h4.step h2 s)))
theorem TO.eff0{op:Op}
  (h:∀(m:M) (a:Act),m.H=H->HRel m->ERel m n env a.tmps->∃m',(execOp a.eval ⟨none,op,ty,pos,aft,none⟩).run P m.w= .ok .skip m'.w/\Step m m'/\HRel m'/\m'.H=H')
  (k:TO false P n all rest env H' K):TO false P n all (⟨none,op,ty,pos,aft,none⟩::rest) env H K:=by
 intro φ m a h1 h2 h3 h4;obtain⟨m',hx,s,hm',hH'⟩:=h m a h1 h2 h3;refine wpListIn_plain rfl fun K' hK=>?_
 unfold Oper.wpIn;refine⟨fun _ _=>trivial,?_⟩;rw[za9 hx (by intro d e;cases e)];simp only[Oper.uponIn];exact hK _ _ (TO.zfF s (k φ m' _ hH' hm' (by simpa [Act.put]using h3.step h2 s) (by simpa [Act.put]using h4.step h2 s)))
def SV.solid:SV->Bool
 | .any| .tup _=>false
 | .t (.v x)=>x.oneCell'
 | _=>true
theorem SRel.cells{m:M}{v:SV}{x:Value}(h:SRel m v x)(hv:v.solid=true):(v.cells.length=x.cells.size)/\(∀(i:Nat) y,x.cells[i]?=some y->y.oneCell'=true)/\∀(i:Nat) c y,v.cells[i]?=some c->x.cells[i]?=some y->SRel m c y:=by
 have one:∀(v:SV) (x:Value),SRel m v x->∀(i:Nat) c y,[v][i]?=some c->#[x][i]?=some y->SRel m c y:=by
  exact zwct
 have oc:∀(x:Value),x.oneCell'=true->∀(i:Nat) y,#[x][i]?=some y->y.oneCell'=true:=by
  exact zwdv
 cases h with
 | t t x h=>
   cases h with
   | ag cs arr hs h1 hr=>
     refine⟨by simp[SV.cells,Value.cells,hs],h1,fun i c y hc hy=>?_⟩;simp only[SV.cells,qan]at hc;cases hq:cs[i]? with
     | none=>rw[hq]at hc;cases hc
     | some u=>rw[hq]at hc;cases hc;exact .t _ _ (hr _ _ _ hq hy)
   | v x=>cases x <;> first|(simp[SV.solid,Value.oneCell']at hv;done)|exact⟨rfl,oc _ rfl,one _ _ (.t _ _ (.v _))⟩
   | nil sz=>exact⟨rfl,oc _ rfl,one _ _ (.t _ _ (.nil sz))⟩
   | empty sz a=>exact⟨rfl,oc _ rfl,one _ _ (.t _ _ (.empty sz a))⟩
   | sl sz es b off cap f h1 h2 h3 h4 h5 h6=>exact⟨rfl,oc _ rfl,one _ _ (.t _ _ (.sl sz es b off cap f h1 h2 h3 h4 h5 h6))⟩
 | ag cs arr hs h1 hr=>exact⟨hs.symm,h1,hr⟩
 | tup vs=>simp[SV.solid]at hv
 | any=>simp[SV.solid]at hv
 | sl sz es id x p h hp ho=>
   have hx:=TRel.zca h;obtain⟨ad,cap,rfl⟩:=hx;exact⟨rfl,oc _ rfl,one _ _ (.sl sz es id _ p h hp ho)⟩
 | ms sz id off len cap p hp hn hc hh=>exact⟨rfl,oc _ rfl,one _ _ (.ms sz id off len cap p hp hn hc hh)⟩
 | cp cs off b o f h1 hA hw h=>exact⟨rfl,oc _ rfl,one _ _ (.cp cs off b o f h1 hA hw h)⟩
 | ref id off p hp hn=>exact⟨rfl,oc _ rfl,one _ _ (.ref id off p hp hn)⟩
 | tref e n id off p hp hn h0 hs=>exact⟨rfl,oc _ rfl,one _ _ (.tref e n id off p hp hn h0 hs)⟩
 | rw id len x p hp hx ho=>obtain⟨ad,n,c,rfl⟩:=hx;exact⟨rfl,oc _ rfl,one _ _ (.rw id len _ p hp ⟨ad,n,c,rfl⟩ ho)⟩
 | mp id p hp hn=>exact⟨rfl,oc _ rfl,one _ _ (.mp id p hp hn)⟩
 | yl id p hp hn=>exact⟨rfl,oc _ rfl,one _ _ (.yl id p hp hn)⟩
 | fn f cs arr hs h=>exact⟨rfl,oc _ rfl,one _ _ (.fn f cs arr hs h)⟩
 | bnd f cs arr hs h=>exact⟨rfl,oc _ rfl,one _ _ (.bnd f cs arr hs h)⟩
 | ifc ty s x h=>exact⟨rfl,oc _ rfl,one _ _ (.ifc ty s x h)⟩
theorem TO.box{t:TypeId}{x:Operand}{v:SV}{cs:List SV}(hd:Nat.ble (d+1) n=true)(hx:env.val x=some v)(hv:v.solid=true)(hc:v.cells=cs):RW false P n all rest env H K d (.box t x) (.ref H.length 0) (H++[.cells cs]):=
 TO.eff hd (fun m ac h1 h2 h3=>by
  obtain⟨g1,g0,g2⟩:=(h3.val hx).cells hv;rw[hc]at g1 g2;obtain⟨s,hm'⟩:=zcw h2 cs (ac.eval x).cells t oA g0 g2;refine⟨.pointer (some ⟨m.w.heap.size,0,none⟩),_,?_,s,hm',by rw[h1],?_⟩
  ·simp[execOp,Instr.box,newVar,newRow]
  ·rw[<-h1]
   exact SRel.ref (m:=⟨m.A,m.β++[⟨m.w.heap.size,0,(ac.eval x).cells.size⟩],m.H++[.cells cs],m.w.alloc (.cells (ac.eval x).cells t)⟩) m.H.length 0 ⟨m.w.heap.size,0,(ac.eval x).cells.size⟩
    (by simp[h2.len]) (by intro q;simp[tlOf]))
theorem zbY{A:Foot}{w:World}:∀(ts:List T) (vs:List Value),zee ts vs=true->ts.length=vs.length/\(∀(i:Nat) y,vs[i]?=some y->y.oneCell'=true)/\∀(i:Nat) c y,ts[i]?=some c->vs[i]?=some y->TRel A w c y
 | [],[],_=>oC
 | [],v::vs,h=>by simp[zee]at h
 | t::ts,[],h=>by simp[zee]at h
 | t::ts,v::vs,h=>by
   simp only[zee,qar]at h;obtain⟨g1,g0,g2⟩:=zbY ts vs h.2;have h0:=h.1;refine⟨by simp[g1],fun i y hy=>?_,fun i c y hc hy=>?_⟩
   ·cases i with
    | zero=>
      simp at hy;subst hy
      unfold T.fits at h0;split at h0 <;> first|(cases h0;done)|rfl
    | succ i=>exact g0 i y (by simpa using hy)
   cases i with
   | zero=>
     simp at hc hy;subst hc;subst hy
     unfold T.fits at h0
     split at h0 <;> first
      | (cases h0;done)
      | (simp at h0;obtain⟨rfl,rfl⟩:=h0;exact .v _)
      | (simp at h0;subst h0;exact .v _)
      | exact .nil _
      | exact .v _
      | (simp at h0;rename_i a b;cases a;cases b;simp at h0;subst h0;exact .v _)
   | succ i=>exact g2 i c y (by simpa using hc) (by simpa using hy)
theorem Fit.zero{t:TypeId}{i:TyI}(h:Fit P t i):∃z,(∀w,(zeroValue t).run P w= .ok z w)/\zee i.zero z.cells.toList=true/\(i.k.agg=true->∃cs,z= .agg cs)/\(i.k.agg=false->z.oneCell'=true):=by
 obtain⟨dd,ti,z,h1,h2,h3,h4,h5,h6,h7,h8,h9⟩:=h.ex;exact⟨z,fun w=>by simp[zeroValue,typeInfo,h2,h6],h7,h8,h9⟩
theorem TO.alloc(hT:zas P tab){t:TypeId}{i:TyI}{cs:List SV}(hd:Nat.ble (d+1) n=true)(ht:tab.get t=some i)(hc:i.zero.map SV.t=cs):RW false P n all rest env H K d (.alloc t) (.ref H.length 0) (H++[.cells cs]):=
 TO.eff hd (fun m ac h1 h2 h3=>by
  obtain⟨z,hz1,hz2,_,_⟩:=(hT t i ht).zero;obtain⟨g1,g0,g2⟩:=zbY (A:=m.A) (w:=m.w) _ _ hz2
  obtain⟨s,hm'⟩:=zcw h2 cs z.cells t (by rw[<-hc];simp[g1]) (fun j y hy=>g0 j y (by simpa using hy)) (fun j c y hj hy=>by
   rw[<-hc,qan]at hj;cases hq:i.zero[j]? with
   | none=>rw[hq]at hj;cases hj
   | some u=>rw[hq]at hj;cases hj;exact .t _ _ (g2 j u y hq (by simpa using hy)))
  refine⟨.pointer (some ⟨m.w.heap.size,0,none⟩),_,?_,s,hm',by rw[h1],?_⟩
  ·simp[execOp,Instr.alloc,hz1,newVar,newRow]
  ·rw[<-h1]
   exact SRel.ref (m:=⟨m.A,m.β++[⟨m.w.heap.size,0,z.cells.size⟩],m.H++[.cells cs],m.w.alloc (.cells z.cells t)⟩) m.H.length 0 ⟨m.w.heap.size,0,z.cells.size⟩
    (by simp[h2.len]) (by intro q;simp[tlOf]))
theorem zeS(hm:HRel m){id:Nat}{k0 k1:Blk}(hp:m.β[id]?=some p)(hH:m.H[id]?=some k0)(hlive:k0.live=true)(hos:w'.os=m.w.os)(htp:w'.tape=m.w.tape)(hou:w'.output=m.w.output)
  (hsz:m.w.heap.size≤w'.heap.size)(hcell:∀b o,b<m.w.heap.size->¬(b=p.b/\p.lo≤o/\o<p.hi)->w'.cell? ⟨b,o,none⟩=m.w.cell? ⟨b,o,none⟩)(hfr:∀b o,b<m.w.heap.size->¬(b=p.b/\p.lo≤o/\o<p.hi)->(m.w.cell? ⟨b,o,none⟩).isSome=true->w'.frozen? ⟨b,o,none⟩=m.w.frozen? ⟨b,o,none⟩)
  (hblk:∀b,b<m.w.heap.size->(b≠p.b\/p.hi≤p.lo)->w'.heap[b]?=m.w.heap[b]?)(hsm:∀b o,b<m.w.heap.size->(m.w.cell? ⟨b,o,none⟩).isSome=true->(w'.cell? ⟨b,o,none⟩).isSome=true)(hshp:∀b s,m.w.shape? b=some s->w'.shape? b=some s)
  (hA:∀b o,m.A b o->A' b o)(hA':∀b o,A' b o->m.A b o\/(b=p.b/\p.lo≤o/\o<p.hi)\/(m.w.heap.size≤b/\b<w'.heap.size))
  (hp':k1.live=true->(p'.b=p.b/\p.lo≤p'.lo/\p'.hi≤p.hi)\/(m.w.heap.size≤p'.b/\p'.b<w'.heap.size)\/p'.hi≤p'.lo)(hdis:k1.live=true->∀b o,A' b o->¬m.A b o->¬(b=p'.b/\p'.lo≤o/\o<p'.hi))
  (hthere:∀o,p.lo≤o->o<p.hi->(m.w.cell? ⟨p.b,o,none⟩).isSome=true)(hid':zaZ (some k0) (some k1) p p')
  (hnew:Step m ⟨A',m.β.set id p',m.H.set id k1,w'⟩->zgm ⟨A',m.β.set id p',m.H.set id k1,w'⟩ p' k1):
  Step m ⟨A',m.β.set id p',m.H.set id k1,w'⟩/\HRel ⟨A',m.β.set id p',m.H.set id k1,w'⟩:=by
 have hid:=(qaa.1 hH).1;have hidβ:=(qaa.1 hp).1
 have pick:∀(i:Nat) q k,(m.β.set id p')[i]?=some q->(m.H.set id k1)[i]?=some k->(i=id/\q=p'/\k=k1)\/(i≠id/\m.β[i]?=some q/\m.H[i]?=some k):=by
  intro i q k h1 h2;by_cases hi:i=id
  ·subst hi;rw[qaC hidβ]at h1;rw[qaC hid]at h2;cases h1;cases h2;exact .inl ⟨rfl,rfl,rfl⟩
  ·rw[qaW oA]at h1 h2;exact .inr ⟨hi,h1,h2⟩
 have ownp:∀o,p.lo≤o->o<p.hi->Own m p.b o:=fun o h1 h2=>⟨id,p,_,hp,hH,hlive,rfl,h1,h2⟩
 have hpin:p.lo<p.hi->p.b<m.w.heap.size:=fun h=>hm.inO id p _ hp hH hlive h
 have s:Step m ⟨A',m.β.set id p',m.H.set id k1,w'⟩:=by
  refine⟨hos,htp,hou,hsz,hA,fun b o h=>?_,fun b o h=>?_,fun b o hb hno=>hcell b o hb fun h=>hno (by rw[h.1];exact ownp o h.2.1 h.2.2),fun b o hb hno hc=>hfr b o hb (fun h=>hno (by rw[h.1];exact ownp o h.2.1 h.2.2)) hc,fun b hb hno=>hblk b hb ?_,hshp,fun b L hL=>⟨L,(hblk b (qam.1 hL).1 ?_).trans hL⟩,fun b o hb h=>hsm b o hb h,fun i q hq=>?_⟩
  ·rcases hA' b o h with h|h|h
   ·exact .inl h
   ·exact .inr (.inl (by rw[h.1];exact ownp o h.2.1 h.2.2))
   ·exact .inr (.inr h.1)
  ·obtain⟨i,q,k,h1,h2,h3,h4,h5,h6⟩:=h;rcases pick i q k h1 h2 with ⟨rfl,rfl,rfl⟩|⟨_,g1,g2⟩
   ·rcases hp' h3 with g|g|g
    ·exact .inl (by rw[<-h4,g.1];exact ownp o oA oA)
    ·exact .inr (by rw[<-h4];exact g.1)
    ·omega
   ·exact .inl ⟨i,q,k,g1,g2,h3,h4,h5,h6⟩
  ·by_cases hb':b=p.b
   ·by_cases hl:p.hi≤p.lo
    ·exact .inr hl
    ·exact oI (ownp p.lo (qag _) oA) (by rw[<-hb'];exact hno p.lo)
   ·exact .inl hb'
  ·by_cases hb':b=p.b
   ·by_cases hl:p.lo<p.hi
    ·exfalso
     have:=hthere p.lo (qag _) hl
     rw[<-hb']at this;simp[World.cell?,hL]at this
    ·exact .inr oA
   ·exact .inl hb'
  ·by_cases hi:i=id
   ·subst hi
    have:q=p:=by rw[hp]at hq;cases hq;rfl
    subst this;refine⟨p',by show(m.β.set i p')[i]?=_;rw[qaC hidβ],?_⟩;show zaZ m.H[i]? (m.H.set i k1)[i]? q p';rw[qaC hid,hH];exact hid'
   ·refine⟨q,by show(m.β.set id p')[i]?=_;rw[qaW oA];exact hq,zeh ?_⟩;show(m.H.set id k1)[i]?=m.H[i]?;rw[qaW oA]
 refine⟨s,by simpa using hm.len,fun i q k h1 h2=>?_,fun i j q r k l hij h1 h2 h3 h4 hk hl=>?_,fun b o h=>?_,fun b o h=>?_,fun i q k h1 h2 hk hq=>?_,s.glob hm⟩
 ·rcases pick i q k h1 h2 with ⟨rfl,rfl,rfl⟩|⟨hi,g1,g2⟩
  ·exact hnew s
  ·cases hlv:k.live with
   | false=>cases k <;> simp[Blk.live]at hlv;trivial
   | true=>
     have hb:=hm.blk i q k g1 g2;have hap:=hm.apart i id q p k _ hi g1 g2 hp hH hlv hlive;refine hb.step hm s (fun o ho ho'=>?_) (fun e=>?_)
     ·have hqs:=hm.inO i q k g1 g2 hlv oA;have hne:¬(q.b=p.b/\p.lo≤o/\o<p.hi):=fun h=>by have:=hap h.1;omega
      exact⟨hcell _ _ hqs hne,fun hc=>hfr _ _ hqs hne hc⟩
     ·obtain⟨e1,e2,e3⟩:=hb.zeT e;have hqs:=hm.inO i q _ g1 g2 hlv oA;refine hblk _ hqs ?_;by_cases hqb:q.b=p.b
      ·by_cases hl:p.lo<p.hi
       ·have:=hthere p.lo (qag _) hl
        rw[<-hqb,e3]at this;cases this
       ·exact .inr oA
      ·exact .inl hqb
 ·have inP:∀(i:Nat) r l,k1.live=true->i≠id->m.β[i]?=some r->m.H[i]?=some l->l.live=true->p'.apart r:=by
   intro i r l hl1 hi h1 h2 hl e;by_cases hlt:r.lo<r.hi
   ·have hrs:=hm.inO i r l h1 h2 hl hlt;rcases hp' hl1 with g|g|g
    ·have:=hm.apart i id r p l _ hi h1 h2 hp hH hl hlive (by rw[<-e,g.1])
     omega
    ·omega
    ·omega
   ·omega
  rcases pick i q k h1 h2 with ⟨rfl,rfl,rfl⟩|⟨hi,g1,g2⟩ <;> rcases pick j r l h3 h4 with ⟨rfl,rfl,rfl⟩|⟨hj,g3,g4⟩
  ·exact oI rfl hij
  ·exact inP j r l hk hj g3 g4 hl
  ·intro e;have:=inP i q k hl hi g1 g2 hk e.symm;omega
  ·exact hm.apart i j q r k l hij g1 g2 g3 g4 hk hl
 ·rintro⟨i,q,k,h1,h2,h3,h4,h5,h6⟩;rcases pick i q k h1 h2 with ⟨rfl,rfl,rfl⟩|⟨hi,g1,g2⟩
  ·by_cases ha:m.A b o
   ·rcases hp' h3 with g|g|g
    ·exact hm.still b o ha (by rw[<-h4,g.1];exact ownp o oA oA)
    ·have:=hm.inA b o ha;omega
    ·omega
   ·exact hdis h3 b o h ha ⟨h4.symm,h5,h6⟩
  ·rcases hA' b o h with h|h|h
   ·exact hm.still b o h ⟨i,q,k,g1,g2,h3,h4,h5,h6⟩
   ·have:=hm.apart i id q p k _ hi g1 g2 hp hH h3 hlive (by rw[h4,h.1])
    omega
   ·have:=hm.inO i q k g1 g2 h3 oA;omega
 ·rcases hA' b o h with h|h|h
  ·exact qbc (hm.inA b o h) hsz
  ·rw[h.1];exact qbc (hpin oA) hsz
  ·exact h.2
 ·rcases pick i q k h1 h2 with ⟨rfl,rfl,rfl⟩|⟨hi,g1,g2⟩
  ·rcases hp' hk with g|g|g
   ·rw[g.1];exact qbc (hpin oA) hsz
   ·exact g.2
   ·omega
  ·exact qbc (hm.inO i q k g1 g2 hk hq) hsz
theorem upd(hm:HRel m){id:Nat}{cs':List SV}(hp:m.β[id]?=some p)(hH:m.H[id]?=some (.cells cs))(hos:w'.os=m.w.os)(htp:w'.tape=m.w.tape)(hou:w'.output=m.w.output)
  (hsz:w'.heap.size=m.w.heap.size)(hoth:∀b,b≠p.b->w'.heap[b]?=m.w.heap[b]?)(hcell:∀o,¬(p.lo≤o/\o<p.hi)->w'.cell? ⟨p.b,o,none⟩=m.w.cell? ⟨p.b,o,none⟩)
  (hfr:∀o,w'.frozen? ⟨p.b,o,none⟩=m.w.frozen? ⟨p.b,o,none⟩)(hsm:∀o,(w'.cell? ⟨p.b,o,none⟩).isSome=(m.w.cell? ⟨p.b,o,none⟩).isSome)(hshp:∀s,m.w.shape? p.b=some s->w'.shape? p.b=some s)(hl:p.lo+cs'.length≤p.hi)(hlt:p.lo<p.hi)
  (hnew:∀(j:Nat) c,cs'[j]?=some c->∃y,w'.cell? ⟨p.b,p.lo+j,none⟩=some y/\y.oneCell'=true/\SRel m c y):
  Step m ⟨m.A,m.β,m.H.set id (.cells cs'),w'⟩/\HRel ⟨m.A,m.β,m.H.set id (.cells cs'),w'⟩:=by
 have e:m.β.set id p=m.β:=List.ext_getElem? fun i=>by
  by_cases hi:i=id
  ·subst hi;rw[qaC (qaa.1 hp).1,hp]
  ·rw[qaW oA]
 have h0:=(hm.blk id p _ hp hH).2.1
 have h:=zeS hm (k1:=.cells cs') (p':=p) (A':=m.A) (w':=w') hp hH rfl hos htp hou oA
  (fun b o _ hn=>by
    by_cases hb:b=p.b
    ·subst hb;exact hcell o fun h=>hn ⟨rfl,h⟩
    ·exact zaW (hoth b hb))
  (fun b o _ _ _=>by
    by_cases hb:b=p.b
    ·subst hb;exact hfr o
    ·exact za8 (hoth b hb))
  (fun b _ h=>hoth b (h.resolve_right oA))
  (fun b o _ h=>by
    by_cases hb:b=p.b
    ·subst hb;rw[hsm];exact h
    ·rw[zaW (hoth b hb)];exact h)
  (fun b s h=>by
    by_cases hb:b=p.b
    ·subst hb;exact hshp s h
    ·rw[zbC (hoth b hb)];exact h)
  (fun _ _ h=>h) (fun _ _ h=>.inl h) (fun _=>.inl ⟨rfl,qag _,qag _⟩) (fun _ _ _ h1 h2=>oI h1 h2) (fun o h1 h2=>(h0 o h1 h2).1) ⟨rfl,fun n'=>by simp[tlOf]⟩
  (fun s=>⟨hl,fun o h1 h2=>⟨(hsm o).trans (h0 o h1 h2).1,(hfr o).trans (h0 o h1 h2).2⟩,fun j c hc=>by
    obtain⟨y,hy1,hy0,hy2⟩:=hnew j c hc;exact⟨y,hy1,hy0,s.srel hm hy2⟩⟩)
 rw[e]at h;exact h
end rules
theorem zx8(hm:HRel m){β:List Place}(π:Nat->Nat)(hl:β.length=H.length)(hβ:∀(i:Nat) q,m.β[i]?=some q->β[i]?=some q/\zaZ m.H[i]? H[i]? q q)
  (hp:∀(i:Nat) q c,β[i]?=some q->H[i]?=some c->c.live=true->∃c0,m.β[π i]?=some q/\m.H[π i]?=some c0/\c0.live=true/\(c0=c\/(zgm m q c0->zgm ⟨m.A,β,H,m.w⟩ q c)))
  (hj:∀(i j:Nat) c l,H[i]?=some c->H[j]?=some l->c.live=true->l.live=true->i≠j->π i≠π j):Step m ⟨m.A,β,H,m.w⟩/\HRel ⟨m.A,β,H,m.w⟩:=by
 have own:∀b o,Own ⟨m.A,β,H,m.w⟩ b o->Own m b o:=by
  rintro b o ⟨i,q,c,h1,h2,h3,h4⟩;obtain⟨c0,g1,g2,g3,_⟩:=hp i q c h1 h2 h3;exact⟨π i,q,c0,g1,g2,g3,h4⟩
 have s:Step m ⟨m.A,β,H,m.w⟩:=⟨rfl,rfl,rfl,qag _,fun _ _ h=>h,fun _ _ h=>.inl h,fun b o h=>.inl (own b o h),fun _ _ _ _=>rfl,fun _ _ _ _ _=>rfl,fun _ _ _=>rfl,fun _ _ h=>h,fun _ L h=>⟨L,h⟩,fun _ _ _ h=>h,fun i q hq=>⟨q,(hβ i q hq).1,(hβ i q hq).2⟩⟩;refine⟨s,hl,fun i q c h1 h2=>?_,fun i j q r c l hij h1 h2 h3 h4 hc hl=>?_,fun b o h hn=>hm.still b o h (own b o hn),hm.inA,fun i q c h1 h2 hc hq=>?_,s.glob hm⟩
 ·cases hlv:c.live with
  | false=>cases c <;> simp[Blk.live]at hlv;trivial
  | true=>
    obtain⟨c0,g1,g2,g3,g4⟩:=hp i q c h1 h2 hlv;rcases g4 with rfl|g4
    ·exact(hm.blk _ q _ g1 g2).step hm s (fun o _ _=>⟨rfl,fun _=>rfl⟩) (fun _=>rfl)
    ·exact g4 (hm.blk _ q c0 g1 g2)
 ·obtain⟨c0,g1,g2,g3,_⟩:=hp i q c h1 h2 hc;obtain⟨l0,k1,k2,k3,_⟩:=hp j r l h3 h4 hl;exact hm.apart _ _ q r c0 l0 (hj i j c l h2 h4 hc hl hij) g1 g2 k1 k2 g3 k3
 ·obtain⟨c0,g1,g2,g3,_⟩:=hp i q c h1 h2 hc;exact hm.inO _ q c0 g1 g2 g3 hq
theorem zso(hm:HRel m)(id:Nat)(ht:tlOf m.H[id]?=none):Step m ⟨m.A,m.β,m.H.set id .dead,m.w⟩/\HRel ⟨m.A,m.β,m.H.set id .dead,m.w⟩:=by
 refine zx8 hm (fun i=>i) (by simp[hm.len]) (fun i q hq=>⟨hq,?_⟩) (fun i q c h1 h hl=>?_) fun i j c l _ _ _ _ h=>h
 ·by_cases hi:i=id
  ·subst hi;unfold zaZ;rw[ht];refine⟨rfl,fun n'=>?_⟩;by_cases hl:i<m.H.length
   ·rw[qaC hl];simp[tlOf]
   ·rw[qa8 (by simpa using hl)];simp[tlOf]
  ·rw[qaW oA];exact zaZ.refl _ _
 ·by_cases hi:i=id
  ·subst hi
   have:=(qaa.1 h).1
   rw[qaC (by simpa using this)]at h;cases h;cases hl
  ·rw[qaW oA]at h;exact⟨c,h1,h,hl,.inl rfl⟩
theorem zxm(hm:HRel m){id:Nat}(hH:m.H[id]?=some k)(hk:k.obj=true):Step m ⟨m.A,m.β,m.H.set id .dead,m.w⟩/\HRel ⟨m.A,m.β,m.H.set id .dead,m.w⟩:=zso hm id (by rw[hH];cases k <;> simp[Blk.obj]at hk <;> rfl)
theorem zwD(hm:HRel m){R:Nat}{c0 c1:Blk}(hp:m.β[R]?=some p)(hH:m.H[R]?=some c0)(hl:c0.live=true)(hB:c0=c1\/(zgm m p c0->zgm ⟨m.A,m.β++[p],m.H.set R .dead++[c1],m.w⟩ p c1)):
  Step m ⟨m.A,m.β++[p],m.H.set R .dead++[c1],m.w⟩/\HRel ⟨m.A,m.β++[p],m.H.set R .dead++[c1],m.w⟩:=by
 have hR:=(qaa.1 hH).1;have hlen:=hm.len
 have pick:∀(i:Nat) q c,(m.β++[p])[i]?=some q->(m.H.set R .dead++[c1])[i]?=some c->c.live=true->(i=m.H.length/\q=p/\c=c1)\/(i≠R/\i<m.H.length/\m.β[i]?=some q/\m.H[i]?=some c):=by
  intro i q c h1 h2 hl;by_cases hi:i<m.H.length
  ·rw[qat (by rw[hlen];exact hi)]at h1;rw[qat (by simpa using hi)]at h2;by_cases hir:i=R
   ·subst hir;rw[qaC hR]at h2;cases h2;cases hl
   ·rw[qaW oA]at h2;exact .inr ⟨hir,hi,h1,h2⟩
  ·rw[qas (by rw[hlen];omega)]at h1;rw[qas oF]at h2
   have:i=m.H.length:=by
    have:=(qaa.1 h2).1
    simp at this;omega
   subst this;simp[hlen]at h1 h2;exact .inl ⟨rfl,h1.symm,h2.symm⟩
 refine zx8 hm (fun i=>if i=m.H.length then R else i) (by simp[hlen]) (fun i q hq=>?_) (fun i q c h1 h2 h3=>?_) (fun i j c l h1 h2 hc hl hij=>?_)
 ·have hi:i<m.H.length:=by rw[<-hlen];exact(qaa.1 hq).1
  refine⟨by rw[qat (qaa.1 hq).1];exact hq,?_⟩;rw[qat (by simpa using hi)];by_cases hir:i=R
  ·subst hir;rw[qaC hR,hH];unfold zaZ;split
   ·intro n' h;cases h
   ·exact⟨rfl,fun n' h=>by cases h⟩
  ·rw[qaW oA];exact zaZ.refl _ _
 ·rcases pick i q c h1 h2 h3 with ⟨rfl,rfl,rfl⟩|⟨_,g0,g1,g2⟩
  ·simp only[oG rfl];exact⟨c0,hp,hH,hl,hB⟩
  ·simp only[oH (Nat.ne_of_lt g0)];exact⟨c,g1,g2,h3,.inl rfl⟩
 ·have key:∀(i:Nat) c,(m.H.set R .dead++[c1])[i]?=some c->c.live=true->i≠R:=fun i c h hc e=>by
   subst e;rw[qat (by simpa using hR),qaC hR]at h;cases h;cases hc
  have k1:=key i c h1 hc;have k2:=key j l h2 hl;split <;> split <;> omega
theorem zbW(b:Nat):∀(vs:List Value) (o:Nat) (w:World),(w.setCells b o vs).os=w.os/\(w.setCells b o vs).tape=w.tape/\(w.setCells b o vs).output=w.output/\(w.setCells b o vs).heap.size=w.heap.size/\
  (∀k,k≠b->(w.setCells b o vs).heap[k]?=w.heap[k]?)/\∀k,((w.setCells b o vs).cell? ⟨b,k,none⟩).isSome=(w.cell? ⟨b,k,none⟩).isSome
 | [],_,_=>⟨rfl,rfl,rfl,rfl,fun _ _=>rfl,fun _=>rfl⟩
 | v::r,o,w=>by
   obtain⟨h1,h2,h3,h4,h5,h6⟩:=zbW b r (o+1) (w.setCell ⟨b,o,none⟩ v);refine⟨h1,h2,h3,by rw[World.setCells,h4];simp[World.setCell],fun k hk=>by rw[World.setCells,h5 k hk];exact RowKit.Below.heap_setCell _ _ _ _ hk,fun k=>?_⟩;rw[World.setCells,h6 k];by_cases hk:k=o
   ·subst hk;cases hc:w.cell? ⟨b,k,none⟩ with
    | some u=>rw[World.cell?_setCell_same _ _ _ hc];rfl
    | none=>
      cases hc':(w.setCell ⟨b,k,none⟩ v).cell? ⟨b,k,none⟩ with
      | none=>rfl
      | some u=>
        exfalso;simp only[World.cell?,World.setCell,qbC]at hc hc';cases hq:w.heap[b]? with
        | none=>rw[hq]at hc';simp at hc'
        | some ob=>
          rw[hq]at hc hc';cases ob <;> simp at hc hc'
          rw[qaQ]at hc';simp at hc';omega
   ·rw[World.cell?_setCell_other _ _ _ _ (by simp <;> omega)]
theorem zb9(b k:Nat):∀(vs:List Value) (o:Nat) (w:World),(w.setCells b o vs).shape? k=w.shape? k
 | [],_,_=>rfl
 | v::r,o,w=>by
   rw[World.setCells,zb9 b k r];unfold World.shape? World.setCell;simp only[qbC];by_cases h:b=k
   ·subst h;rw[oG rfl];cases hq:w.heap[b]? with
    | none=>rfl
    | some ob=>cases ob <;> simp
   ·rw[oH h]
def splice(cs:List SV)(off:Nat)(vs:List SV):List SV:=cs.take off++vs++cs.drop (off+vs.length)
theorem zjZ{off:Nat}(hl:off+vs.length≤cs.length){c:SV}(h:(splice cs off vs)[j]?=some c):
  (off≤j/\j<off+vs.length/\vs[j-off]?=some c)\/((j<off\/off+vs.length≤j)/\cs[j]?=some c):=by
 unfold splice at h;rw[qay]at h;have ht:(cs.take off).length=off:=oF
 by_cases h1:j<off
 ·rw[qat (by rw[ht];exact h1),qa6,oG h1]at h;exact .inr ⟨.inl h1,h⟩
 ·rw[qas (by rw[ht];omega),ht]at h;by_cases h2:j-off<vs.length
  ·rw[qat h2]at h;exact .inl ⟨oA,oA,h⟩
  ·rw[qas oA,qbb]at h;rw[show off+vs.length+(j-off-vs.length)=j from oA]at h;exact .inr ⟨.inr oA,h⟩
theorem zgg{off:Nat}(hl:off+vs.length≤cs.length):(splice cs off vs).length=cs.length:=by
 simp[splice];omega
theorem ziU(hm:HRel m){id off:Nat}{ys:List Value}(hp:m.β[id]?=some p)(hH:m.H[id]?=some (.cells cs))(hl:off+vs.length≤cs.length)(hpos:0<vs.length)
  (hys:vs.length=ys.length)(h1:∀y∈ys,y.oneCell'=true)(hr:∀(i:Nat) c y,vs[i]?=some c->ys[i]?=some y->SRel m c y):
  Step m ⟨m.A,m.β,m.H.set id (.cells (splice cs off vs)),m.w.setCells p.b (p.lo+off) ys⟩/\HRel ⟨m.A,m.β,m.H.set id (.cells (splice cs off vs)),m.w.setCells p.b (p.lo+off) ys⟩:=by
 obtain⟨b1,b2,b3⟩:=hm.blk id p _ hp hH;obtain⟨e1,e2,e3,e4,e5,e6⟩:=zbW p.b ys (p.lo+off) m.w;refine upd hm hp hH e1 e2 e3 e4 e5 (fun o ho=>?_) (fun o=>World.frozen?_setCells _ _ _ _ _) e6 (fun s hs=>by rw[zb9];exact hs) (by rw[zgg hl];exact b1) oA (fun j c hc=>?_)
 ·exact World.cell?_setCells_out _ _ _ _ _ fun _ _=>by simp only[];omega
 ·rcases zjZ hl hc with ⟨g1,g2,g3⟩|⟨g1,g2⟩
  ·have hj:j-off<ys.length:=oA
   have:=World.cell?_setCells_in p.b ys (p.lo+off) m.w (fun q hq=>(b2 _ oA oA).1) (j-off) hj
   rw[show p.lo+off+(j-off)=p.lo+j from oA]at this;exact⟨_,this,h1 _ (qak hj),hr _ _ _ g3 (qad hj)⟩
  ·obtain⟨y,hy1,hy0,hy2⟩:=b3 j c g2;exact⟨y,by rw[World.cell?_setCells_out _ _ _ _ _ (fun _ _=>by simp only[];omega)];exact hy1,hy0,hy2⟩
section rules
variable {n:Nat}{tab:Tab}
variable {pos:String}{q:Bool}
theorem TO.store(hT:zas P tab){t:TypeId}{i:TyI}{x y:Operand}{v:SV}{vs cs:List SV}{id off:Nat}{H':Heap}(ht:tab.get t=some i)(hx:env.val x=some (.ref id off))(hy:env.val y=some v)
  (hv:v.solid=true)(hvs:v.cells=vs)(hsz:i.size=vs.length)(hpos:0<vs.length)(hH:H[id]?=some (.cells cs))(hl:off+vs.length≤cs.length)(hH':H.set id (.cells (splice cs off vs))=H')
  (k:TO false P n all rest env H' K):TO false P n all (⟨none,.store t x y,ty,pos,aft,none⟩::rest) env H K:=
 TO.eff0 (fun m ac h1 h2 h3=>by
  obtain⟨g1,g0,g2⟩:=(h3.val hy).cells hv;rw[hvs]at g1 g2;have h:=h3.val hx;generalize hq:ac.eval x=z at h;cases h with
  | ref _ _ p hp hn=>
    have hH1:m.H[id]?=some (.cells cs):=by rw[h1];exact hH
    obtain⟨b1,b2,b3⟩:=h2.blk id p _ hp hH1
    obtain⟨s,hm'⟩:=ziU h2 (ys:=(ac.eval y).cells.toList) hp hH1 hl hpos (by simpa using g1) (fun u hu=>by
     obtain⟨q,hq⟩:=qbg hu;exact g0 q u (by simpa using hq)) (fun q c u hc hu=>g2 q c u hc (by simpa using hu))
    refine⟨_,?_,s,hm',by rw[h1];exact hH'⟩
    have hst:=run_storeCells_cells (P:=P) p.b (p.lo+off) (ac.eval y).cells.toList 0 m.w (fun q hq=>(b2 _ oA (by simp at hq;omega)).1) (fun q hq=>(b2 _ oA (by simp at hq;omega)).2) (fun u hu=>by
     obtain⟨q,hq⟩:=qbg hu;exact g0 q u (by simpa using hq))
    have hne:(ac.eval y).cells.size=i.size:=oA
    simp[execOp,hq,Instr.storeAt,Instr.sureAddr,storeVar,(hT t i ht).sizeOf,hne,hst]) k
theorem TO.zmG(hT:zas P tab){t:TypeId}{i:TyI}{x y:Operand}{v:SV}{id off:Nat}(ht:tab.get t=some i)(hx:env.val x=some (.ref id off))(hy:env.val y=some v)
  (hv:v.solid=true)(hvs:v.cells=[v])(hsz:i.size=1)(hH:H[id]?=some (.cells cs))(hl:off<cs.length)(hH':H.set id (.cells (cs.set off v))=H')
  (k:TO false P n all rest env H' K):TO false P n all (⟨none,.store t x y,ty,pos,aft,none⟩::rest) env H K:=
 TO.store hT ht hx hy hv hvs (by rw[hsz];rfl) oC hH (by simpa using (show off+1≤cs.length from hl)) (by
  rw[<-hH'];congr 2;simp only[splice,qb2];rw[List.set_eq_take_append_cons_drop,oG hl];simp) k
def zg5(fs:List (Nat×Nat)):List SV->List (Nat×SV)->Option (List SV)
 | cs,[]=>some cs
 | cs,(i,v)::r=>match fs[i]? with
   | some (off,sz)=>if v.solid=true/\v.cells.length=sz/\off+sz≤cs.length then zg5 fs (splice cs off v.cells) r else none
   | none=>none
theorem zo1(ys:List Value)(off:Nat):∀(k:Nat) (cells:Array Value),off+k+ys.length≤cells.size->
  (((ys.zipIdx k).foldl (fun cs (x:Value×Nat)=>cs.setIfInBounds (off+x.2) x.1) cells).size=cells.size)/\
  ∀j,((ys.zipIdx k).foldl (fun cs (x:Value×Nat)=>cs.setIfInBounds (off+x.2) x.1) cells)[j]?=if off+k≤j/\j<off+k+ys.length then ys[j-(off+k)]? else cells[j]? :=by
 induction ys with
 | nil=>intro k cells _;refine⟨rfl,fun j=>?_⟩;rw[oH (by simp <;> omega)];rfl
 | cons y r ih=>
   intro k cells hk;simp only[qae]at hk
   have:=ih (k+1) (cells.setIfInBounds (off+k) y) oF
   simp only[qcJ,qb0];refine⟨by rw[this.1];simp,fun j=>?_⟩;rw[this.2 j];by_cases h1:off+(k+1)≤j/\j<off+(k+1)+r.length
   ·rw[oG h1,oG oF,show j-(off+k)=(j-(off+(k+1)))+1 from oA];simp
   ·rw[oH h1];by_cases h2:j=off+k
    ·subst h2;rw[oG oC,Array.getElem?_setIfInBounds_self_of_lt oA];simp
    ·rw[oH oF,Array.getElem?_setIfInBounds_ne oA]
theorem zr1{m:M}(fs:List (Nat×Nat))(pl:Nat->Option (Nat×Nat))(hpl:∀(i:Nat) a,fs[i]?=some a->pl i=some a):∀(parts:List (Nat×SV)) (vals:List (Nat×Value)) (cs cs':List SV) (arr:Array Value),
  parts.length=vals.length->(∀(i:Nat) a b,parts[i]?=some a->vals[i]?=some b->a.1=b.1/\SRel m a.2 b.2)->zg5 fs cs parts=some cs'->
  arr.size=cs.length->(∀(i:Nat) y,arr[i]?=some y->y.oneCell'=true)->(∀(i:Nat) c y,cs[i]?=some c->arr[i]?=some y->SRel m c y)->
  ∃arr',Instr.fill pl arr vals=some arr'/\arr'.size=cs'.length/\(∀(i:Nat) y,arr'[i]?=some y->y.oneCell'=true)/\(∀(i:Nat) c y,cs'[i]?=some c->arr'[i]?=some y->SRel m c y)
 | [],vals,cs,cs',arr,hl,_,hf,ha,h1,hr=>by
   cases vals with
   | nil=>simp[zg5]at hf;subst hf;exact⟨arr,rfl,ha,h1,hr⟩
   | cons=>simp at hl
 | (i,v)::parts,vals,cs,cs',arr,hl,hv,hf,ha,h1,hr=>by
   cases vals with
   | nil=>simp at hl
   | cons b vals=>
     obtain⟨i',x⟩:=b;have h0:=hv 0 _ _ rfl rfl;simp only at h0;obtain⟨rfl,hvx⟩:=h0;simp only[zg5]at hf;cases hfi:fs[i]? with
     | none=>rw[hfi]at hf;cases hf
     | some os=>
       obtain⟨off,sz⟩:=os;rw[hfi]at hf;simp only at hf;split at hf
       ·rename_i hc;obtain⟨c1,c2,c3⟩:=hc;obtain⟨g1,g0,g2⟩:=hvx.cells c1;have hxs:x.cells.size=sz:=oA
        have hfold:=zo1 x.cells.toList off 0 arr oF
        have hstep:Instr.fill pl arr ((i,x)::vals)=Instr.fill pl ((x.cells.toList.zipIdx 0).foldl (fun cs (x:Value×Nat)=>cs.setIfInBounds (off+x.2) x.1) arr) vals:=by
         rw[Instr.fill,hpl _ _ hfi];simp only;rw[oH (by simp[hxs];omega),<-Array.foldl_toList,Array.toList_zipIdx]
        rw[hstep];refine zr1 fs pl hpl parts vals _ cs' _ (by simpa using hl) (fun j a b ha hb=>hv (j+1) a b (by simpa using ha) (by simpa using hb)) hf ?_ (fun j y hy=>?_) (fun j c y hc hy=>?_)
        ·rw[hfold.1,zgg oA,ha]
        ·rw[hfold.2 j]at hy;split at hy
         ·exact g0 _ y (by simpa using hy)
         ·exact h1 _ y hy
        ·rw[hfold.2 j]at hy;rcases zjZ oA hc with ⟨q1,q2,q3⟩|⟨q1,q2⟩
         ·rw[oG oF]at hy;exact g2 _ c y q3 (by simpa using hy)
         ·rw[oH oF]at hy;exact hr _ c y q2 hy
       ·cases hf
def sizes(tab:Tab):List (Nat×TypeId)->Option (List (Nat×Nat))
 | []=>some []
 | (o,t)::r=>match tab.get t,sizes tab r with
   | some i,some l=>some ((o,i.size)::l)
   | _,_=>none
theorem zmA(hT:zas P tab)(w:World):∀(gs:List Field) (fs:List (Nat×Nat)),sizes tab (gs.map fun f=>(f.offset,f.type))=some fs->
  (gs.mapM fun f=>(Functor.map (Prod.mk f.offset) (sizeOf f.type):Sem (Nat×Nat))).run P w= .ok fs w
 | [],fs,h=>by simp[sizes]at h;subst h;rfl
 | g::gs,fs,h=>by
   simp only[qaf,sizes]at h;cases h1:tab.get g.type with
   | none=>rw[h1]at h;cases h
   | some i=>
     rw[h1]at h;cases h2:sizes tab (gs.map fun f=>(f.offset,f.type)) with
     | none=>rw[h2]at h;cases h
     | some l=>
       rw[h2]at h;cases h
       have:=zmA hT w gs l h2
       simp[qb8,(hT _ i h1).sizeOf,this]
def allT:List SV->Option (List T)
 | []=>some []
 | .t t::r=>(allT r).map (t:: ·)
 | .sl sz es _::r=>(allT r).map (.sl sz es:: ·)
 | _::_=>none
theorem zfI{m:M}:∀ {cs:List SV} {ts:List T},allT cs=some ts->cs.length=ts.length/\∀(i:Nat) t,ts[i]?=some t->∃c,cs[i]?=some c/\∀y,SRel m c y->TRel m.A m.w t y
 | [],ts,h=>by simp[allT]at h;subst h;simp
 | c::r,ts,h=>by
   have key:∀t0,(∀y,SRel m c y->TRel m.A m.w t0 y)->(allT r).map (t0:: ·)=some ts->(c::r).length=ts.length/\∀(i:Nat) t,ts[i]?=some t->∃c',(c::r)[i]?=some c'/\∀y,SRel m c' y->TRel m.A m.w t y:=by
    intro t0 h0 h;cases hr:allT r with
    | none=>rw[hr]at h;cases h
    | some us=>
      rw[hr]at h;cases h;obtain⟨g1,g2⟩:=zfI (m:=m) hr;refine⟨by simp[g1],fun i t ht=>?_⟩;cases i with
      | zero=>simp at ht;subst ht;exact⟨c,rfl,h0⟩
      | succ i=>simpa using g2 i t (by simpa using ht)
   cases c with
   | t t=>exact key t (fun y hy=>by cases hy with|t _ _ h=>exact h) h
   | sl sz es id=>exact key (.sl sz es) (fun y hy=>by cases hy with|sl _ _ _ _ _ h=>exact h) h
   | _=>simp[allT]at h
def Env.parts(env:Env):List (Nat×Operand)->Option (List (Nat×SV))
 | []=>some []
 | (i,x)::r=>match env.val x,Env.parts env r with
   | some v,some l=>some ((i,v)::l)
   | _,_=>none
theorem ERel.parts{m:M}{ac:Act}(g:ERel m n env ac.tmps):∀(l:List (Nat×Operand)) (ps:List (Nat×SV)),env.parts l=some ps->
  ps.length=(l.map fun x=>(x.1,ac.eval x.2)).length/\∀(i:Nat) a b,ps[i]?=some a->(l.map fun x=>(x.1,ac.eval x.2))[i]?=some b->a.1=b.1/\SRel m a.2 b.2
 | [],ps,h=>by simp[Env.parts]at h;subst h;simp
 | (j,x)::r,ps,h=>by
   simp only[Env.parts]at h;cases hx:env.val x with
   | none=>rw[hx]at h;cases h
   | some v=>
     rw[hx]at h;cases hr:env.parts r with
     | none=>rw[hr]at h;cases h
     | some l=>
       rw[hr]at h;cases h;obtain⟨g1,g2⟩:=ERel.parts g r l hr;refine⟨by simpa using g1,fun i a b ha hb=>?_⟩;cases i with
       | zero=>simp at ha hb;subst ha;subst hb;exact⟨rfl,g.val hx⟩
       | succ i=>exact g2 i a b (by simpa using ha) (by simpa using hb)
theorem zlu(hT:zas P tab){ac:Act}(g:ERel m n env ac.tmps){t:TypeId}{i:TyI}{parts:Array (Nat×Operand)}
  (ht:tab.get t=some i)(hk:i.k= .struct fs)(hz:sizes tab fs=some fz)(hp:env.parts parts.toList=some ps)(hc:zg5 fz (i.zero.map .t) ps=some cs):
  ∃arr,(∀w',(Instr.build t (parts.map fun(i,x)=>(i,ac.eval x))).run P w'= .ok (.agg arr) w')/\arr.size=cs.length/\(∀(i:Nat) y,arr[i]?=some y->y.oneCell'=true)/\(∀(i:Nat) c y,cs[i]?=some c->arr[i]?=some y->SRel m c y):=by
 obtain⟨gs,hu,hfs⟩:=(hT t i ht).struct hk;obtain⟨z,hz1,hz2,hz3,_⟩:=(hT t i ht).zero;obtain⟨q1,q0,q2⟩:=zbY (A:=m.A) (w:=m.w) _ _ hz2;obtain⟨p1,p2⟩:=g.parts parts.toList ps hp
 obtain⟨arr,r1,r2,r3,r4⟩:=zr1 (m:=m) fz (fun j=>fz[j]?) (fun _ _ h=>h) ps _ (i.zero.map .t) cs z.cells p1 p2 hc (by simp[q1]) (fun j y hy=>q0 j y (by simpa using hy)) (fun j c y hj hy=>by
  rw[qan]at hj;cases hq:i.zero[j]? with
  | none=>rw[hq]at hj;cases hj
  | some u=>rw[hq]at hj;cases hj;exact .t _ _ (q2 j u y hq (by simpa using hy)))
 refine⟨arr,fun w'=>?_,r2,r3,r4⟩;have hsz:=zmA hT w' gs.toList fz (by rw[<-hfs];exact hz)
 have hm:(gs.mapM fun f=>(do pure (f.offset,<-sizeOf f.type):Sem (Nat×Nat))).run P w'= .ok fz.toArray w':=by
  rw[qcz];simp[hsz]
 simp only[Instr.build,Sem.run_bind,hz1,Result.andThen_ok,underlying,run_program,hu,Sem.run_pure,hm,Array.toList_map,List.getElem?_toArray];rw[r1];rfl
theorem TO.build(hT:zas P tab){t:TypeId}{i:TyI}{fs:List (Nat×TypeId)}{fz:List (Nat×Nat)}{parts:Array (Nat×Operand)}{ps:List (Nat×SV)}{cs:List SV}(hd:Nat.ble (d+1) n=true)
  (ht:tab.get t=some i)(hk:i.k= .struct fs)(hz:sizes tab fs=some fz)(hp:env.parts parts.toList=some ps)(hc:zg5 fz (i.zero.map .t) ps=some cs)
  (k:TO q P n all rest ((d,.ag cs)::env) H K):TO q P n all (⟨some d,.build t parts,ty,pos,aft,none⟩::rest) env H K:=
 TO.op hd (fun m ac h1 h2 h3=>by
  obtain⟨arr,r1,r2,r3,r4⟩:=zlu hT h3 ht hk hz hp hc;exact⟨_,fun w' _=>by simp only[execOp,Sem.run_bind,r1 w'];rfl,.ag _ _ r2 r3 r4⟩) k
theorem TO.zvv(hT:zas P tab){t:TypeId}{i:TyI}{parts:Array (Nat×Operand)}{ts:List T}(hd:Nat.ble (d+1) n=true)
  (ht:tab.get t=some i)(hk:i.k= .struct fs)(hz:sizes tab fs=some fz)(hp:env.parts parts.toList=some ps)(hc:zg5 fz (i.zero.map .t) ps=some cs)(hts:allT cs=some ts)
  (k:TO q P n all rest ((d,.t (.ag ts))::env) H K):TO q P n all (⟨some d,.build t parts,ty,pos,aft,none⟩::rest) env H K:=
 TO.op hd (fun m ac h1 h2 h3=>by
  obtain⟨arr,r1,r2,r3,r4⟩:=zlu hT h3 ht hk hz hp hc;obtain⟨a1,a2⟩:=zfI (m:=m) hts;refine⟨_,fun w' _=>by simp only[execOp,Sem.run_bind,r1 w'];rfl,.t _ _ (.ag _ _ oA r3 fun j t y hj hy=>?_)⟩;obtain⟨c,hc1,hc2⟩:=a2 j t hj;exact hc2 y (r4 j c y hc1 hy)) k
end rules
def T.solid:T->Bool
 | .v x=>x.oneCell'
 | _=>true
theorem TRel.cells{A:Foot}{w:World}{t:T}{x:Value}(h:TRel A w t x)(ht:t.solid=true):x.cells.size=t.cells.length/\(∀(i:Nat) y,x.cells[i]?=some y->y.oneCell'=true)/\∀(i:Nat) c y,t.cells[i]?=some c->x.cells[i]?=some y->TRel A w c y:=by
 have one:∀(v:T) (x:Value),TRel A w v x->∀(i:Nat) c y,[v][i]?=some c->#[x][i]?=some y->TRel A w c y:=by
  exact zwct
 have oc:∀(x:Value),x.oneCell'=true->∀(i:Nat) y,#[x][i]?=some y->y.oneCell'=true:=by
  exact zwdv
 cases h with
 | v x=>cases x <;> first|(simp[T.solid,Value.oneCell']at ht;done)|exact⟨rfl,oc _ rfl,one _ _ (.v _)⟩
 | ag cs arr hs h1 hr=>exact⟨hs,h1,hr⟩
 | nil sz=>exact⟨rfl,oc _ rfl,one _ _ (.nil sz)⟩
 | empty sz a=>exact⟨rfl,oc _ rfl,one _ _ (.empty sz a)⟩
 | sl sz es b off cap f h1 h2 h3 h4 h5 h6=>exact⟨rfl,oc _ rfl,one _ _ (.sl sz es b off cap f h1 h2 h3 h4 h5 h6)⟩
def SV.toT:SV->Option T
 | .t u=>some u
 | .sl sz es _=>some (.sl sz es)
 | .ag cs=>(allT cs).map .ag
 | _=>none
theorem SRel.toT{m:M}{v:SV}{x:Value}{t:T}(h:SRel m v x)(ht:v.toT=some t):TRel m.A m.w t x:=by
 cases v with
 | t u=>simp only[SV.toT,qaI]at ht;subst ht;cases h with|t _ _ h=>exact h
 | sl sz es id=>simp only[SV.toT,qaI]at ht;subst ht;cases h with|sl _ _ _ _ _ h=>exact h
 | ag cs=>
   simp only[SV.toT]at ht;cases hc:allT cs with
   | none=>rw[hc]at ht;cases ht
   | some ts=>
     rw[hc]at ht;cases ht;obtain⟨a1,a2⟩:=zfI (m:=m) hc;cases h with
     | ag _ arr hs h1 hr=>
       refine .ag _ _ oA h1 fun j t y hj hy=>?_
       obtain⟨c,hc1,hc2⟩:=a2 j t hj;exact hc2 y (hr j c y hc1 hy)
 | _=>simp[SV.toT]at ht
theorem ziQ(hm:HRel m){id n n':Nat}(hp:m.β[id]?=some p)(hH:m.H[id]?=some (.tail n))(hos:w'.os=m.w.os)(htp:w'.tape=m.w.tape)(hou:w'.output=m.w.output)
  (hsz:m.w.heap.size≤w'.heap.size)(hcell:∀b o,b<m.w.heap.size->¬(b=p.b/\p.lo≤o/\o<p.hi)->w'.cell? ⟨b,o,none⟩=m.w.cell? ⟨b,o,none⟩)(hfr:∀b o,b<m.w.heap.size->w'.frozen? ⟨b,o,none⟩=m.w.frozen? ⟨b,o,none⟩)
  (hblk:∀b,b<m.w.heap.size->(b≠p.b\/p.hi≤p.lo)->w'.heap[b]?=m.w.heap[b]?)(hsm:∀b o,b<m.w.heap.size->(m.w.cell? ⟨b,o,none⟩).isSome=true->(w'.cell? ⟨b,o,none⟩).isSome=true)(hshp:∀b s,m.w.shape? b=some s->w'.shape? b=some s)
  (hA:∀b o,m.A b o->A' b o)(hA':∀b o,A' b o->m.A b o\/(b=p.b/\p.lo≤o/\o<p.hi)\/(m.w.heap.size≤b/\b<w'.heap.size))
  (hp':(p'.b=p.b/\p.lo≤p'.lo/\p'.hi≤p.hi)\/(m.w.heap.size≤p'.b/\p'.b<w'.heap.size)\/p'.hi≤p'.lo)(hdis:∀b o,A' b o->¬m.A b o->¬(b=p'.b/\p'.lo≤o/\o<p'.hi))
  (hfree:∀o,p'.lo≤o->o<p'.hi->Free w' p'.b o)(hn:n≤n')(heq:n=n'->p'=p):
  Step m ⟨A',m.β.set id p',m.H.set id (.tail n'),w'⟩/\HRel ⟨A',m.β.set id p',m.H.set id (.tail n'),w'⟩:=
 zeS hm hp hH rfl hos htp hou hsz hcell (fun b o hb _ _=>hfr b o hb) hblk hsm hshp hA hA' (fun _=>hp') (fun _=>hdis) (fun o h1 h2=>(hm.blk id p _ hp hH o h1 h2).1) (fun k hk=>by cases hk;exact⟨hn,heq⟩) (fun _=>hfree)
theorem zbv{sz:Nat}{i j:Nat}(hi:i<(es++ys).length):(i<es.length/\∀e,(es++ys)[i]?=some e->es[i]?=some e)\/(es.length≤i/\i-es.length<ys.length/\∀e,(es++ys)[i]?=some e->ys[i-es.length]?=some e):=by
 by_cases h:i<es.length
 ·exact .inl ⟨h,fun e he=>by rw[qat h]at he;exact he⟩
 ·refine .inr ⟨oA,by simp at hi;omega,fun e he=>?_⟩;rw[qas oA]at he;exact he
theorem TRel.flat{w:World}{len:Nat}(h:TRel A w (.sl sz ys) (.slice ad len cap)):
  len=ys.length/\∃g:Nat->Value,(∀i j,i<ys.length->j<sz->(g (i*sz+j)).oneCell'=true)/\(∀(i:Nat) e,ys[i]?=some e->e.cells.length=sz)/\(∀(i:Nat) e (j:Nat) c,ys[i]?=some e->e.cells[j]?=some c->TRel A w c (g (i*sz+j)))/\
   (ys=[]\/∃b off,ad=some ⟨b,off,none⟩/\∀i j,i<ys.length->j<sz->w.cell? ⟨b,off+(i*sz+j),none⟩=some (g (i*sz+j))):=by
 cases h with
 | nil=>exact⟨rfl,fun _=>undef,oC,oC,oC,.inl rfl⟩
 | empty=>exact⟨rfl,fun _=>undef,oC,oC,oC,.inl rfl⟩
 | sl _ _ b off _ f hcap hsz hA hw ho hr=>exact⟨rfl,f,ho,hsz,hr,.inr ⟨b,off,rfl,hw⟩⟩
theorem zfU{k q:Nat}(hs:0<sz)(h:q<k*sz):q / sz<k/\q % sz<sz/\q / sz*sz+q % sz=q:=by
 refine⟨(Nat.div_lt_iff_lt_mul hs).2 h,Nat.mod_lt _ hs,by rw[qcx];exact Nat.div_add_mod q sz⟩
theorem zbA{w:World}{len:Nat}(h:TRel A w (.sl sz ys) (.slice ad len cap))(hs:0<sz):
  ∃g:Nat->Value,(∀w':World,w'.heap=w.heap->(Builtin.firstCells sz ys.length (.slice ad len cap)).run P w'= .ok ((List.range (ys.length*sz)).map g).toArray w')/\(∀q,q<ys.length*sz->(g q).oneCell'=true)/\(∀(i:Nat) e,ys[i]?=some e->e.cells.length=sz)/\
   (∀(i:Nat) e (j:Nat) c,ys[i]?=some e->e.cells[j]?=some c->TRel A w c (g (i*sz+j))):=by
 obtain⟨hl,g,g1,g2,g3,g4⟩:=h.flat;refine⟨g,fun w' hw'=>?_,fun q hq=>?_,g2,g3⟩
 ·rcases g4 with rfl|⟨b,off,rfl,g4⟩
  ·cases ad with
   | none=>simp[Builtin.firstCells]
   | some a=>
     simp only[Builtin.firstCells,qal];exact run_loadCells w' a (0*sz) g fun j hj=>oA
  ·simp only[Builtin.firstCells]
   exact run_loadCells w' ⟨b,off,none⟩ (ys.length*sz) g fun j hj=>by
    rw[zbh];show w'.cell? _=_;rw[show w'.cell? ⟨b,off+j,none⟩=w.cell? ⟨b,off+j,none⟩ from by simp[World.cell?,hw']];obtain⟨d1,d2,d3⟩:=zfU hs hj
    have:=g4 _ _ d1 d2
    rw[d3]at this;exact this
 ·obtain⟨d1,d2,d3⟩:=zfU hs hq
  have:=g1 _ _ d1 d2
  rw[d3]at this;exact this
section rules
variable {n:Nat}{tab:Tab}
variable {pos:String}
theorem nextslicecap_le(need old:Nat)(h:old<need):Builtin.nextslicecap need old≤2*need+512\/Builtin.nextslicecap need old≤2*need:=by
 unfold Builtin.nextslicecap;split
 ·right;omega
 ·split
  ·right;omega
  ·left;rename_i h1 h2
   have key:∀(r c:Nat),c≤2*need->256≤c->Builtin.growBy need r c≤2*need+512:=by
    intro r
    induction r with
    | zero=>intro c hc _;simp[Builtin.growBy];omega
    | succ r ih=>
      intro c hc h256;unfold Builtin.growBy;split
      ·omega
      ·by_cases hq:c+(c+768) / 4≤2*need
       ·exact ih _ hq oA
       ·have h3:c+(c+768) / 4≤2*need+512:=oA
        have h4:need≤c+(c+768) / 4:=oA
        cases r with
        | zero=>simpa [Builtin.growBy]using h3
        | succ r=>unfold Builtin.growBy;rw[oG h4];exact h3
   exact key 4 old oA oA
theorem zc3(z:Array Value)(n j:Nat)(hz:0<z.size)(hj:j<n*z.size):(Builtin.zeroCells z n)[j]?=z[j % z.size]? :=by
 have h2:j % z.size<z.size:=Nat.mod_lt _ hz;unfold Builtin.zeroCells;rw[qcu,qaq (by simpa using hj)];simp[h2]
theorem zka{tab:Tab}(hT:zas P tab){w:World}{t t' e:TypeId}{i:TyI}{len n2:Nat}{ax:Option Addr}{o v:Array Value}(ht:tab.get t=some i)(hk:i.k= .slice e)(hu:P.underlying t'=some .string\/∃e',P.underlying t'=some (.slice e'))(he:tab.get e=some ie)(hs:ie.size=sz)
  (hlo:∀w,(Builtin.lenOf y).run P w= .ok n2 w)(hold:(Builtin.firstCells sz len (.slice ax len cap)).run P w.drew= .ok o w.drew)(hnew:(Builtin.firstCells sz n2 y).run P w.drew= .ok v w.drew)
  (hfit:¬len+n2≤cap)(hb:(len+n2)*ie.bytes≤70368744177664)(hb1:len+n2≤70368744177664)(hby:ie.bytes≤65536):
  ∃nc zr,len+n2≤nc/\zr.size=(nc-(len+n2))*sz/\(∀(j:Nat) x,zr[j]?=some x->x.oneCell'=true)/\
   (Builtin.append_ #[t,t'] ty #[.slice ax len cap,y]).run P w= .ok (.slice (some ⟨w.heap.size,0,none⟩) (len+n2) nc) (w.drew.alloc (.cells (o++v++zr) e)):=by
 obtain⟨ti,hti,hti1,hti2⟩:=(hT e ie he).info;obtain⟨z,hz1,hz2,_,_⟩:=(hT e ie he).zero;have hzz:=zbY (A:=fun _ _=>False) (w:=w) _ _ hz2
 have hzl:z.cells.size=sz:=by
  have:=hzz.1
  have h2:=(hT e ie he).len;simp at this;omega
 have hbound:¬Builtin.nextslicecap (len+n2) cap*ti.bytes > 2 ^ 48:=by
  have h1:=nextslicecap_le (len+n2) cap oA;have h2:Builtin.nextslicecap (len+n2) cap≤2*(len+n2)+512:=oA
  have h3:=qaH ti.bytes h2;rw[qa3,Nat.mul_assoc,hti2]at h3;rw[hti2];omega
 have hmax:¬(((len+n2:Nat):Int) > IntKind.i64.max/\(False\/ti.bytes=0)):=by
  intro h
  have:(IntKind.i64.max:Int)=9223372036854775807:=oB
  omega
 obtain⟨nc,hnc⟩:∃nc,nc=(Question.appendCap (len+n2) cap e).cut (w.tape w.drawn (.appendCap (len+n2) cap e)):=⟨_,rfl⟩;have hnc2:len+n2≤nc:=by rw[hnc];simp[Question.cut]
 obtain⟨zr,hzr⟩:∃zr,zr=Builtin.zeroCells z.cells (nc-(len+n2)):=⟨_,rfl⟩;have hzrl:zr.size=(nc-(len+n2))*sz:=by rw[hzr];simp[Builtin.zeroCells,hzl]
 have hfo:(Question.appendCap (len+n2) cap e).forced=false:=rfl
 have hadd:(Builtin.append_ #[t,t'] ty #[.slice ax len cap,y]).run P w=(((do
   let old <-Builtin.firstCells sz len (.slice ax len cap)
   let new <-Builtin.firstCells sz n2 y
   pure (.slice (some (<-newRow e (old++new++zr))) (len+n2) nc)):Sem Value).run P { w with drawn:=w.drawn+1 }):=by
  simp only[Builtin.append_];rcases hu with hdd|⟨e',hdd⟩ <;> (simp[underlying,hdd,(hT t i ht).slice hk,(hT e ie he).sizeOf,hs,hlo,hfit,typeInfo,hti,hbound,hmax,hfo,<-hnc,hz1,<-hzr];try(intro h;exfalso;omega))
 refine⟨nc,zr,hnc2,hzrl,fun j x hx=>?_,?_⟩
 ·have hj:=(qam.1 hx).1;rw[hzrl]at hj;have hp:0<z.cells.size:=by rw[hzl];exact Nat.pos_of_ne_zero fun h=>by rw[h]at hj;omega
  rw[hzr,zc3 _ _ _ hp (by rw[hzl];exact hj)]at hx;exact hzz.2.1 _ x (by simpa using hx)
 ·rw[hadd];simp[hold,hnew,newRow]
theorem zp3(hT:zas P tab)(hm:HRel m){t t' e:TypeId}{i i':TyI}{id:Nat}{x:Value}(ht:tab.get t=some i)(hk:i.k= .slice e)(ht':tab.get t'=some i')(hk':i'.k= .slice e)(he:tab.get e=some ie)(hs:ie.size=sz)(hpos:0<sz)
  (hx:SRel m (.sl sz es id) x)(hH:m.H[id]?=some (.tail es.length))(hy:TRel m.A m.w (.sl sz ys) y)(hb:(es.length+ys.length)*ie.bytes≤70368744177664)(hb1:es.length+ys.length≤70368744177664)(hby:ie.bytes≤65536):
  ∃z m',(Builtin.append_ #[t,t'] ty #[x,y]).run P m.w= .ok z m'.w/\Step m m'/\HRel m'/\m'.H=m.H.set id (.tail (es.length+ys.length))/\SRel m' (.sl sz (es++ys) id) z:=by
 cases hx with
 | sl _ _ _ _ p hx hp ho=>
 obtain⟨_,ho2⟩:=ho _ (by rw[hH];rfl);obtain⟨ad,len,cap,rfl,hlc,hown⟩:=ho2 rfl;have hlen:len=es.length:=by obtain⟨ad',cap',e⟩:=hx.zca;cases e;rfl
 subst hlen;obtain⟨ad2,cap2,rfl⟩:=hy.zca;obtain⟨g,hg,g1,g2,g3⟩:=zbA (P:=P) hy hpos;obtain⟨f,hf,f1,f2,f3⟩:=zbA (P:=P) hx hpos;obtain⟨ti,hti,hti1,hti2⟩:=(hT e ie he).info;obtain⟨z,hz1,hz2,_,_⟩:=(hT e ie he).zero
 have hzl:z.cells.size=sz:=by
  exact zwdp
 by_cases hfit:es.length+ys.length≤cap
 ·have hrun:(Builtin.append_ #[t,t'] ty #[.slice ad es.length cap,.slice ad2 ys.length cap2]).run P m.w=
    (match ad with
      | none=>.ok (.slice none (es.length+ys.length) cap) m.w
      | some a=>((storeCells (a.add (es.length*sz)) ((List.range (ys.length*sz)).map g)).run P m.w).andThen fun _ w'=>.ok (.slice (some a) (es.length+ys.length) cap) w'):=by
   simp[Builtin.append_,underlying,(hT t i ht).slice hk,(hT t' i' ht').slice hk',(hT e ie he).sizeOf,hs,Builtin.lenOf,hfit,hg m.w rfl];cases ad <;> simp
  cases ad with
  | none=>
    obtain⟨h1,h2,h3⟩:=hown;have hes:es=[]:=qaF h1;have hys:ys=[]:=qaF oA;subst hes;subst hys;subst h2
    obtain⟨s,hm'⟩:=ziQ hm (n':=0+0) (p':=p) (A':=m.A) (w':=m.w) hp hH rfl rfl rfl (qag _) (fun _ _ _ _=>rfl) (fun _ _ _=>rfl) (fun _ _ _=>rfl) (fun _ _ _ h=>h) (fun _ _ h=>h) (fun _ _ h=>h) (fun _ _ h=>.inl h)
     (.inr (.inr oA)) (fun _ _ h h'=>oI h h') (by intro o q1 q2;omega) (qaM _) (fun _=>rfl)
    refine⟨_,⟨m.A,m.β.set id p,m.H.set id (.tail (0+0)),m.w⟩,hrun,s,hm',rfl,.sl _ _ _ _ p (.nil sz) (by show(m.β.set id p)[id]?=_;rw[qaC (qaa.1 hp).1]) fun k hk=>?_⟩;have hk':tlOf (m.H.set id (.tail (0+0)))[id]?=some k:=hk;rw[qaC (qaa.1 hH).1]at hk';cases hk';exact⟨qag _,fun _=>⟨none,0,0,rfl,qag _,rfl,rfl,h3⟩⟩
  | some a=>
    obtain⟨h1,h2,h3,h4⟩:=hown;obtain⟨ab,ao,asp⟩:=a;simp only at h1 h2 h3 h4;subst h4;subst h1
    have hfree:=hm.blk id p _ hp hH;have hmul:(es.length+ys.length)*sz≤cap*sz:=qaH _ hfit;rw[qa3]at hmul
    have hst:=run_storeCells_cells (P:=P) p.b (ao+es.length*sz) ((List.range (ys.length*sz)).map g) 0 m.w (fun q hq=>(hfree _ oA (by simp at hq;omega)).1) (fun q hq=>(hfree _ oA (by simp at hq;omega)).2)
     (fun v hv=>by simp at hv;obtain⟨q,hq,rfl⟩:=hv;exact g1 q hq)
    obtain⟨e1,e2,e3,e4,e5,e6⟩:=zbW p.b ((List.range (ys.length*sz)).map g) (ao+es.length*sz) m.w
    have hout:∀b o,¬(b=p.b/\ao+es.length*sz≤o/\o<ao+es.length*sz+ys.length*sz)->(m.w.setCells p.b (ao+es.length*sz) ((List.range (ys.length*sz)).map g)).cell? ⟨b,o,none⟩=m.w.cell? ⟨b,o,none⟩:=by
     exact zwch
    have hin:∀q,q<ys.length*sz->(m.w.setCells p.b (ao+es.length*sz) ((List.range (ys.length*sz)).map g)).cell? ⟨p.b,ao+es.length*sz+q,none⟩=some (g q):=by
     intro q hq
     have:=World.cell?_setCells_in p.b ((List.range (ys.length*sz)).map g) (ao+es.length*sz) m.w (fun j hj=>(hfree _ oA (by simp at hj;omega)).1) q (by simpa using hq)
     simpa using this
    obtain⟨s,hm'⟩:=ziQ hm (n':=es.length+ys.length) (p':=⟨p.b,p.lo+ys.length*sz,p.hi⟩) (A':=fun b o=>m.A b o\/(b=p.b/\p.lo≤o/\o<p.lo+ys.length*sz)) (w':=m.w.setCells p.b (ao+es.length*sz) ((List.range (ys.length*sz)).map g)) hp hH e1 e2 e3 (by rw[e4];exact qag _)
     (fun b o _ hn=>hout b o oA) (fun b o _=>World.frozen?_setCells _ _ _ _ _)
     (fun b _ hb=>by
       rcases hb with hb|hb
       ·exact e5 b hb
       ·have:ys.length*sz=0:=oA
        rw[this];rfl)
     (fun b o _ h=>by
       by_cases hb:b=p.b
       ·subst hb;rw[e6];exact h
       ·rw[hout b o oA];exact h)
     (fun b s hs=>by rw[zb9];exact hs) (fun _ _ h=>.inl h) (fun b o h=>by
       rcases h with h|h
       ·exact .inl h
       ·exact .inr (.inl oA))
     (.inl ⟨rfl,oC,qag _⟩) (fun b o h hna q=>by
       rcases h with h|h
       ·exact hna h
       ·simp only at q;omega)
     (fun o q1 q2=>by
       simp only at q1 q2
       have:=hfree o oA q2
       unfold Free at this⊢;rw[hout _ _ oA,World.frozen?_setCells];exact this) oA (fun h=>by
       have:ys.length=0:=oA
       rw[this];simp)
    refine⟨.slice (some ⟨p.b,ao,none⟩) (es.length+ys.length) cap,_,?_,s,hm',rfl,.sl _ _ _ _ ⟨p.b,p.lo+ys.length*sz,p.hi⟩ ?_ (by show(m.β.set id _)[id]?=_;rw[qaC (qaa.1 hp).1]) fun k hk=>?_⟩
    ·rw[hrun];simp only[zbh];rw[hst];rfl
    ·have htr:=s.trel hm hx;have hty:=s.trel hm hy;rw[show es.length+ys.length=(es++ys).length from oC];cases hx with
     | empty _ _=>
       have hys:ys=[]:=by simpa using hfit
       subst hys;exact .empty sz _
     | sl _ _ _ _ _ f0 q1 q2 q3 q4 q5 q6=>
     have cellOld:∀i j,i<es.length->j<sz->(m.w.setCells p.b (ao+es.length*sz) ((List.range (ys.length*sz)).map g)).cell? ⟨p.b,ao+(i*sz+j),none⟩=some (f0 (i*sz+j)):=by
      intro i j hi hj
      have hlt:i*sz+j<es.length*sz:=by
       have:(i+1)*sz≤es.length*sz:=qaH _ hi
       rw[qa3]at this;omega
      rw[hout _ _ oA];exact q4 i j hi hj
     refine .sl sz _ p.b ao cap (fun q=>if q<es.length*sz then f0 q else g (q-es.length*sz)) oF (fun i e he=>?_) (fun i j hi hj=>?_) (fun i j hi hj=>?_) (fun i j hi hj=>?_) (fun i e j c he hc=>?_)
     ·rcases zbv (sz:=sz) (j:=0) (qaa.1 he).1 with ⟨r1,r2⟩|⟨r1,r2,r3⟩
      ·exact q2 i e (r2 e he)
      ·exact g2 _ e (r3 e he)
     ·rcases zbv (sz:=sz) (j:=0) hi with ⟨r1,r2⟩|⟨r1,r2,r3⟩
      ·exact .inl (q3 i j r1 hj)
      ·right;have h5:(i-es.length+1)*sz≤ys.length*sz:=qaH _ r2;have h6:i*sz=es.length*sz+(i-es.length)*sz:=by rw[<-qa3];congr 1;omega
       rw[qa3]at h5;exact⟨rfl,oA,oA⟩
     ·rcases zbv (sz:=sz) (j:=0) hi with ⟨r1,r2⟩|⟨r1,r2,r3⟩
      ·have hlt:i*sz+j<es.length*sz:=by
        exact zwdy
       simp only[oG hlt];exact cellOld i j r1 hj
      ·have h5:(i-es.length+1)*sz≤ys.length*sz:=qaH _ r2;have h6:i*sz=es.length*sz+(i-es.length)*sz:=by rw[<-qa3];congr 1;omega
       rw[qa3]at h5;simp only[oH (show ¬i*sz+j<es.length*sz from oA)]
       have:=hin ((i-es.length)*sz+j) oA
       rw[show i*sz+j-es.length*sz=(i-es.length)*sz+j from oA,show ao+(i*sz+j)=ao+es.length*sz+((i-es.length)*sz+j) from oA];exact this
     ·rcases zbv (sz:=sz) (j:=0) hi with ⟨r1,r2⟩|⟨r1,r2,r3⟩
      ·have hlt:i*sz+j<es.length*sz:=by
        exact zwdy
       simp only[oG hlt];exact q5 i j r1 hj
      ·have h5:(i-es.length+1)*sz≤ys.length*sz:=qaH _ r2;have h6:i*sz=es.length*sz+(i-es.length)*sz:=by rw[<-qa3];congr 1;omega
       rw[qa3]at h5;exact zwec
     ·have hi:=(qaa.1 he).1;have hjl:=(qaa.1 hc).1;rcases zbv (sz:=sz) (j:=0) hi with ⟨r1,r2⟩|⟨r1,r2,r3⟩
      ·have hjs:=q2 i e (r2 e he)
       have hlt:i*sz+j<es.length*sz:=by
        exact zwdy
       simp only[oG hlt];exact s.trel hm (q6 i e j c (r2 e he) hc)
      ·exact zwl
    ·have hk':tlOf (m.H.set id (.tail (es.length+ys.length)))[id]?=some k:=hk;rw[qaC (qaa.1 hH).1]at hk';cases hk';refine⟨oC,fun _=>⟨_,_,_,rfl,hfit,?_⟩⟩;simp only;rw[qa3];exact⟨trivial,oA,oA,trivial⟩
 ·obtain⟨nc,zr,hnc2,hzrl,_,hrun⟩:=zka hT (ty:=ty) ht hk (.inr ⟨_,(hT t' i' ht').slice hk'⟩) he hs (y:=.slice ad2 ys.length cap2) (fun w=>by simp[Builtin.lenOf]) (hf m.w.drew rfl) (hg m.w.drew rfl) hfit hb hb1 hby;obtain⟨cs,hcs⟩:∃cs:Array Value,cs=((List.range (es.length*sz)).map f).toArray++((List.range (ys.length*sz)).map g).toArray++zr:=⟨_,rfl⟩;rw[<-hcs]at hrun
  have hcsl:cs.size=nc*sz:=by
   have h1:(es.length+ys.length)*sz+(nc-(es.length+ys.length))*sz=nc*sz:=by rw[<-qa3];congr 1;omega
   rw[qa3]at h1;rw[hcs];simp[hzrl];omega
  have hmul:es.length*sz+ys.length*sz≤nc*sz:=by rw[<-qa3];exact qaH _ hnc2
  have hcell:∀o,(m.w.drew.alloc (.cells cs e)).cell? ⟨m.w.heap.size,o,none⟩=cs[o]? :=fun o=>World.cell?_alloc_new (w:=m.w.drew) ..
  have hkeep:∀b,b<m.w.heap.size->(m.w.drew.alloc (.cells cs e)).heap[b]?=m.w.heap[b]? :=fun b hb=>RowKit.Below.heap_alloc m.w.drew _ _ hb
  have hsize:(m.w.drew.alloc (.cells cs e)).heap.size=m.w.heap.size+1:=oC
  have hcf:∀q,q<es.length*sz->cs[q]?=some (f q):=fun q hq=>by
   rw[hcs,qcd,qa7 (by simpa using hq)];simp[hq]
  have hcg:∀q,q<ys.length*sz->cs[es.length*sz+q]?=some (g q):=fun q hq=>by
   rw[hcs,qcd,qbi oC,qa7 (by simpa using hq)];simp[hq]
  obtain⟨s,hm'⟩:=ziQ hm (n':=es.length+ys.length) (p':=⟨m.w.heap.size,(es.length+ys.length)*sz,nc*sz⟩) (A':=fun b o=>m.A b o\/(b=m.w.heap.size/\o<(es.length+ys.length)*sz)) (w':=m.w.drew.alloc (.cells cs e)) hp hH rfl rfl rfl (by rw[hsize];omega)
   (fun b o hb _=>zaW (hkeep b hb)) (fun b o hb=>za8 (hkeep b hb)) (fun b hb _=>hkeep b hb) (fun b o hb h=>by rw[zaW (hkeep b hb)];exact h) (fun b s hs=>by rw[zbC (hkeep b (zhC hs))];exact hs) (fun _ _ h=>.inl h)
   (fun b o h=>by
     rcases h with h|h
     ·exact .inl h
     ·exact .inr (.inr (by rw[hsize];omega)))
   (.inr (.inl (by rw[hsize];exact⟨qag _,qbF _⟩))) (fun b o h hna q=>by
     rcases h with h|h
     ·exact hna h
     ·simp only at q;omega)
   (fun o q1 q2=>by
     simp only at q1 q2;refine⟨?_,World.frozen?_alloc_new (w:=m.w.drew) ..⟩;show((m.w.drew.alloc (.cells cs e)).cell? ⟨m.w.heap.size,o,none⟩).isSome=true;rw[hcell,qaq oA];rfl) oA (fun h=>by
     exfalso;have hy0:ys.length=0:=oA
     omega)
  refine⟨.slice (some ⟨m.w.heap.size,0,none⟩) (es.length+ys.length) nc,_,hrun,s,hm',rfl,.sl _ _ _ _ ⟨m.w.heap.size,(es.length+ys.length)*sz,nc*sz⟩ ?_ (by show(m.β.set id _)[id]?=_;rw[qaC (qaa.1 hp).1]) fun k hk=>?_⟩
  ·have bnd:∀i j (l:List T),i<l.length->j<sz->i*sz+j<l.length*sz:=by
    intro i j l hi hj
    have:(i+1)*sz≤l.length*sz:=qaH _ hi
    rw[qa3]at this;omega
   have val:∀i j,i<(es++ys).length->j<sz->cs[i*sz+j]?=some (if i*sz+j<es.length*sz then f (i*sz+j) else g (i*sz+j-es.length*sz)):=by
    intro i j hi hj;rcases zbv (sz:=sz) (j:=0) hi with ⟨r1,r2⟩|⟨r1,r2,r3⟩
    ·have:=bnd i j es r1 hj
     rw[oG this,hcf _ this]
    ·have h5:=bnd (i-es.length) j ys r2 hj;have h6:i*sz=es.length*sz+(i-es.length)*sz:=by rw[<-qa3];congr 1;omega
     rw[oH oA,show i*sz+j-es.length*sz=(i-es.length)*sz+j from oA,<-hcg _ h5];congr 1;omega
   have key:TRel (fun b o=>m.A b o\/(b=m.w.heap.size/\o<(es.length+ys.length)*sz)) (m.w.drew.alloc (.cells cs e)) (.sl sz (es++ys)) (.slice (some ⟨m.w.heap.size,0,none⟩) (es++ys).length nc):=by
    refine .sl sz _ m.w.heap.size 0 nc (fun q=>if q<es.length*sz then f q else g (q-es.length*sz)) oF (fun i e he=>?_) (fun i j hi hj=>?_) (fun i j hi hj=>?_) (fun i j hi hj=>?_) (fun i e j c he hc=>?_)
    ·rcases zbv (sz:=sz) (j:=0) (qaa.1 he).1 with ⟨r1,r2⟩|⟨r1,r2,r3⟩
     ·exact f2 i e (r2 e he)
     ·exact g2 _ e (r3 e he)
    ·refine .inr ⟨rfl,?_⟩
     have:=bnd i j _ hi hj
     simp at this⊢;exact this
    ·rw[qaV];show(m.w.drew.alloc (.cells cs e)).cell? _=_;rw[hcell,val i j hi hj]
    ·rcases zbv (sz:=sz) (j:=0) hi with ⟨r1,r2⟩|⟨r1,r2,r3⟩
     ·have:=bnd i j es r1 hj
      simp only[oG this];exact f1 _ this
     ·have h5:=bnd (i-es.length) j ys r2 hj;have h6:i*sz=es.length*sz+(i-es.length)*sz:=by rw[<-qa3];congr 1;omega
      exact zwec
    ·have hi:=(qaa.1 he).1;have hjl:=(qaa.1 hc).1;rcases zbv (sz:=sz) (j:=0) hi with ⟨r1,r2⟩|⟨r1,r2,r3⟩
     ·have hjs:=f2 i e (r2 e he)
      have:=bnd i j es r1 oA
      simp only[oG this];exact s.trel hm (f3 i e j c (r2 e he) hc)
     ·exact zwl
   rw[qab]at key;exact key
  ·have hk':tlOf (m.H.set id (.tail (es.length+ys.length)))[id]?=some k:=hk;rw[qaC (qaa.1 hH).1]at hk';cases hk';refine⟨oC,fun _=>⟨_,_,_,rfl,hnc2,?_⟩⟩;simp
theorem TO.append(hT:zas P tab){t t' e:TypeId}{i i' ie:TyI}{sz id:Nat}{es ys:List T}{x y:Operand}{vy:SV}{H':Heap}(hd:Nat.ble (d+1) n=true)(ht:tab.get t=some i)(hk:i.k= .slice e)(ht':tab.get t'=some i')(hk':i'.k= .slice e)
  (he:tab.get e=some ie)(hs:ie.size=sz)(hpos:0<sz)(hx:env.val x=some (.sl sz es id))(hH:H[id]?=some (.tail es.length))(hy:env.val y=some vy)(hvy:vy.elems sz=some ys)
  (hby:ie.bytes≤65536)(hb:(es.length+ys.length)*ie.bytes≤70368744177664)(hb1:es.length+ys.length≤70368744177664)(hH':H.set id (.tail (es.length+ys.length))=H')
  (k:TO false P n all rest ((d,.sl sz (es++ys) id)::env) H' K):TO false P n all (⟨some d,.call { callee:=.builtin .append,args:=#[x,y],argTypes:=#[t,t'] },ty,pos,aft,none⟩::rest) env H K:=
 TO.eff hd (fun m ac h1 h2 h3=>by
  obtain⟨z,m',r1,s,hm',hHm,hr⟩:=zp3 (P:=P) hT h2 (ty:=ty) ht hk ht' hk' he hs hpos (h3.val hx) (by rw[h1];exact hH) ((h3.val hy).elems hvy) hb hb1 hby;exact⟨z,m',by simp[execOp,resolve,invoke,builtin,r1],s,hm',by rw[hHm,h1];exact hH',hr⟩) k
theorem zlT(hm:HRel m):Step m ⟨m.A,m.β++[⟨0,0,0⟩],m.H++[.tail 0],m.w⟩/\HRel ⟨m.A,m.β++[⟨0,0,0⟩],m.H++[.tail 0],m.w⟩:=by
 refine grow hm (A':=m.A) rfl rfl rfl (qag _) (fun _ _=>rfl) (fun _ _ h=>h) (fun _ _ h=>.inl h) rfl ?_ ?_ (fun _ _ h h'=>oI h h') ?_
 ·exact zwdk
 ·exact zwfa
 ·intro s i p k h1 h2;cases i with
  | zero=>simp at h1 h2;subst h1;subst h2;intro o q1 q2;simp at q2
  | succ i=>simp at h1
abbrev Mv (H H':Heap):Prop:=∀m:M,HRel m->m.H=H->∃m':M,m'.w=m.w/\m'.H=H'/\Step m m'/\HRel m'
theorem Mv.tr(h:Mv H H')(k:TR P n c env H' K):TR P n c env H K:=by
 intro φ m a h1 h2 h3 h4;obtain⟨m',e1,e2,s,hm'⟩:=h m h2 h1
 have:=k φ m' a e2 hm' (h3.step h2 s) (h4.step h2 s)
 rw[<-e1];exact za5 this fun _ _ _ hp=>hp.step s
theorem Mv.to{ops:List Oper}(h:Mv H H')(k:TO false P n all ops env H' K):TO false P n all ops env H K:=by
 intro φ m a h1 h2 h3 h4;obtain⟨m',e1,e2,s,hm'⟩:=h m h2 h1;rw[<-e1];exact TO.zfF s (k φ m' a e2 hm' (h3.step h2 s) (h4.step h2 s))
theorem zoG{m1:M}(h2:HRel m)(s:Step m m1)(hm1:HRel m1)(hw:m1.w=m.w){id:Nat}{v:SV}(hH:m.H[id]?=some (.cells cs))(hH1:m1.H[id]?=some (.cells cs))(hβ:∀p,m.β[id]?=some p->m1.β[id]?=some p)(hi:cs[j]?=some v)(hv:∀x,SRel m v x->SRel m1 v' x):
  ∃m':M,m'.w=m.w/\m'.H=m1.H.set id (.cells (cs.set j v'))/\Step m m'/\HRel m':=by
 have hid:=(qaa.1 hH).1;have hjl:=(qaa.1 hi).1;obtain⟨p,hp⟩:∃p,m.β[id]?=some p:=⟨_,qad (by rw[h2.len];exact hid)⟩;obtain⟨b1,b2,b3⟩:=h2.blk id p _ hp hH
 obtain⟨s2,hm2⟩:=upd hm1 (cs':=cs.set j v') (w':=m1.w) (hβ p hp) hH1 rfl rfl rfl rfl (fun _ _=>rfl) (fun _ _=>rfl) (fun _=>rfl) (fun _=>rfl) (fun _ h=>h) (by simpa using b1) oA (fun q c hc=>by
  rw[hw];by_cases hq:q=j
  ·subst hq;rw[qaC hjl]at hc;cases hc;obtain⟨y,hy1,hy0,hy2⟩:=b3 q _ hi;exact⟨y,hy1,hy0,hv y hy2⟩
  ·rw[qaW oA]at hc;obtain⟨y,hy1,hy0,hy2⟩:=b3 q c hc;exact⟨y,hy1,hy0,s.srel h2 hy2⟩)
 exact⟨⟨m1.A,m1.β,m1.H.set id (.cells (cs.set j v')),m1.w⟩,hw,rfl,s.trans s2,hm2⟩
theorem Mv.cell(id j:Nat){v:SV}(hl:∀m x,SRel m v x->SRel m v' x)(hH:H[id]?=some (.cells cs))(hi:cs[j]?=some v)(hH':H.set id (.cells (cs.set j v'))=H'):Mv H H':=fun m h2 h1=>by
 subst h1;obtain⟨m',e1,e2,e3,e4⟩:=zoG h2 (Step.refl m) h2 rfl hH hH (fun _ h=>h) hi (hl m);exact⟨m',e1,e2.trans hH',e3,e4⟩
theorem Mv.grow(id j:Nat){b:Blk}(g:∀ {m:M},HRel m->m.H=H->(Step m ⟨m.A,m.β++[⟨0,0,0⟩],m.H++[b],m.w⟩/\HRel ⟨m.A,m.β++[⟨0,0,0⟩],m.H++[b],m.w⟩)/\SRel ⟨m.A,m.β++[⟨0,0,0⟩],m.H++[b],m.w⟩ v' (.slice none 0 0))
  (hH:H[id]?=some (.cells cs))(hi:cs[j]?=some (.t (.v (.slice none 0 0))))(hH':H.set id (.cells (cs.set j v'))++[b]=H'):Mv H H':=fun m h2 h1=>by
 obtain⟨⟨s,hm⟩,hr⟩:=g h2 h1;subst h1;have hid:=(qaa.1 hH).1;obtain⟨m',e1,e2,e3,e4⟩:=zoG h2 s hm rfl hH (by show(m.H++[b])[id]?=_;rw[qat hid];exact hH) (fun p hp=>by show(m.β++_)[id]?=_;rw[qat (qaa.1 hp).1];exact hp) hi (fun x hx=>by have:=hx.v_eq;subst this;exact hr);refine⟨m',e1,?_,e3,e4⟩;rw[e2,<-hH'];exact qcR _ _ hid
theorem zpj(hm:HRel m)(sz:Nat):SRel ⟨m.A,m.β++[⟨0,0,0⟩],m.H++[.tail 0],m.w⟩ (.sl sz [] m.H.length) (.slice none 0 0):=by
 refine .sl sz [] _ _ ⟨0,0,0⟩ (.nil sz) (by simp[<-hm.len]) fun k hk=>?_
 have hk':tlOf (m.H++[Blk.tail 0])[m.H.length]?=some k:=hk;simp[tlOf]at hk';subst hk';exact⟨qag _,fun _=>⟨none,0,0,rfl,qag _,rfl,rfl,rfl⟩⟩
theorem TR.tail{c:Code}(sz i:Nat)(hi:env.look i=some (.t (.v (.slice none 0 0))))(k:TR P n c ((i,.sl sz [] H.length)::env) (H++[.tail 0]) K):TR P n c env H K:=by
 intro φ m a h1 h2 h3 h4;obtain⟨x,hx1,hx2⟩:=h3.2 i _ hi
 have:=hx2.v_eq
 subst this;obtain⟨s,hm'⟩:=zlT h2;refine za5 (k φ ⟨m.A,m.β++[⟨0,0,0⟩],m.H++[.tail 0],m.w⟩ a (by rw[h1]) hm' ⟨h3.1,fun j v hv=>?_⟩ h4) fun _ _ _ hp=>hp.step s
 by_cases hj:i=j
 ·subst hj;rw[Env.zap]at hv;cases hv;exact⟨_,hx1,h1 ▸ zpj h2 sz⟩
 ·rw[Env.zah _ _ hj]at hv;exact(h3.step h2 s).2 j v hv
theorem Mv.tail(sz id j:Nat){cs:List SV}{H':Heap}(hH:H[id]?=some (.cells cs))(hi:cs[j]?=some (.t (.v (.slice none 0 0))))(hH':H.set id (.cells (cs.set j (.sl sz [] H.length)))++[.tail 0]=H'):Mv H H':=
 Mv.grow id j (fun h2 h1=>⟨zlT h2,h1 ▸ zpj h2 sz⟩) hH hi hH'
theorem TR.zdg(sz id j:Nat)(hH:H[id]?=some (.cells cs))(hi:cs[j]?=some (.t (.v (.slice none 0 0))))(hH':H.set id (.cells (cs.set j (.sl sz [] H.length)))++[.tail 0]=H')
  (k:TR P n c env H' K):TR P n c env H K:=(Mv.tail sz id j hH hi hH').tr k
end rules
end Go.TL
