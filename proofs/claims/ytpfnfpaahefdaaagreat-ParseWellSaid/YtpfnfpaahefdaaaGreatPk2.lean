import Derived.Test.YtpfnfpaahefdaaaGreatPk1
set_option linter.all false
namespace Go.TL
open Go
theorem zaZ{w w':World}{b o:Nat}(h:w'.heap[b]?=w.heap[b]?):w'.cell? ⟨b,o,none⟩=w.cell? ⟨b,o,none⟩:=by simp[World.cell?,h]
theorem za2{w w':World}{b o:Nat}(h:w'.heap[b]?=w.heap[b]?):w'.frozen? ⟨b,o,none⟩=w.frozen? ⟨b,o,none⟩:=by simp[World.frozen?,h]
theorem zgR.zcC{m:M}{p:Place}{k:Blk}(h:zgR m p k)(hk:k.obj=true):p.lo=0/\p.hi=1/\∀o,m.w.cell? ⟨p.b,o,none⟩=none:=by
 cases k <;> simp[Blk.obj]at hk
 ·obtain⟨h1,h2,a,c,h3,_⟩:=h
  exact⟨h1,h2,fun o=>by simp[World.cell?,h3]⟩
 ·obtain⟨h1,h2,L,h3,_⟩:=h
  exact⟨h1,h2,fun o=>by simp[World.cell?,h3]⟩
theorem zgR.step{m m':M}(hm:HRel m)(s:Step m m'){p:Place}{k:Blk}(h:zgR m p k)(hk:∀o,p.lo≤o->o<p.hi->m'.w.cell? ⟨p.b,o,none⟩=m.w.cell? ⟨p.b,o,none⟩/\((m.w.cell? ⟨p.b,o,none⟩).isSome=true->m'.w.frozen? ⟨p.b,o,none⟩=m.w.frozen? ⟨p.b,o,none⟩))
  (hmap:k.obj=true->m'.w.heap[p.b]?=m.w.heap[p.b]?):zgR m' p k:=by
 cases k with
 | cells cs=>
   obtain⟨h1,h2,h3⟩:=h
   refine⟨h1,fun o ho ho'=>?_,fun j c hc=>?_⟩
   ·exact zwdw
   ·obtain⟨y,hy1,hy0,hy2⟩:=h3 j c hc
    have hj:=(qaa.1 hc).1
    exact⟨y,by rw[(hk (p.lo+j) (by omega) (by omega)).1];exact hy1,hy0,s.srel hm hy2⟩
 | tail n=>
   intro o ho ho'
   have:=h o ho ho'
   unfold Free at this⊢
   rw[(hk o ho ho').1,(hk o ho ho').2 this.1];exact this
 | row e cs=>
   obtain⟨h1,h2,h3⟩:=h
   refine⟨⟨h1.1,h1.2.1,fun h=>s.shape _ _ (h1.2.2 h)⟩,fun o ho ho'=>?_,fun j c hc=>?_⟩
   ·exact zwdw
   ·obtain⟨y,hy1,hy0,hy2⟩:=h3 j c hc
    have hj:=(qaa.1 hc).1
    exact⟨y,by rw[(hk (p.lo+j) (by omega) (by omega)).1];exact hy1,hy0,s.trel hm hy2⟩
 | map kt vt es=>
   obtain⟨h1,h2,a,clock,h3,h4,h5⟩:=h
   refine⟨h1,h2,a,clock,?_,h4,fun i k t e he ha=>?_⟩
   ·rw[hmap rfl];exact h3
   ·obtain⟨g1,g2,g3⟩:=h5 i k t e he ha
    exact⟨g1,s.trel hm g2,g3⟩
 | loop fn st pe n env ps aas bo=>
   obtain⟨h1,h2,L,h3,h4,h5⟩:=h
   exact⟨h1,h2,L,by rw[hmap rfl];exact h3,h4,h5.step hm s⟩
 | dead=>trivial
theorem zbO{h h':Option Blk}{p:Place}(e:h'=h):zaU h h' p p:=e ▸ zaU.refl h p
theorem grow{m:M}(hm:HRel m){A':Foot}{βn:List Place}{Hn:Heap}{w':World}(hos:w'.os=m.w.os)(htp:w'.tape=m.w.tape)(hou:w'.output=m.w.output)(hsz:m.w.heap.size≤w'.heap.size)
  (hkeep:∀b,b<m.w.heap.size->w'.heap[b]?=m.w.heap[b]?)(hA:∀b o,m.A b o->A' b o)(hA':∀b o,A' b o->m.A b o\/(m.w.heap.size≤b/\b<w'.heap.size))(hlen:βn.length=Hn.length)
  (hnew:∀(i:Nat) p k,βn[i]?=some p->Hn[i]?=some k->k.live=true->(m.w.heap.size≤p.b/\p.b<w'.heap.size)\/p.hi≤p.lo)
  (hap:∀(i j:Nat) p q,i≠j->βn[i]?=some p->βn[j]?=some q->p.apart q)
  (hst:∀b o,A' b o->¬m.A b o->∀(i:Nat) p k,βn[i]?=some p->Hn[i]?=some k->k.live=true->¬(p.b=b/\p.lo≤o/\o<p.hi))
  (hblk:Step m ⟨A',m.β++βn,m.H++Hn,w'⟩->∀(i:Nat) p k,βn[i]?=some p->Hn[i]?=some k->zgR ⟨A',m.β++βn,m.H++Hn,w'⟩ p k):
  Step m ⟨A',m.β++βn,m.H++Hn,w'⟩/\HRel ⟨A',m.β++βn,m.H++Hn,w'⟩:=by
 have split:∀(i:Nat) p k,(m.β++βn)[i]?=some p->(m.H++Hn)[i]?=some k->(m.β[i]?=some p/\m.H[i]?=some k)\/(m.β.length≤i/\βn[i-m.β.length]?=some p/\Hn[i-m.β.length]?=some k):=by
  intro i p k h1 h2
  by_cases hi:i<m.β.length
  ·rw[qan hi]at h1
   rw[qan (by rw[<-hm.len];exact hi)]at h2
   exact .inl ⟨h1,h2⟩
  ·rw[qaq (by omega)]at h1
   rw[qaq (by rw[<-hm.len];omega),<-hm.len]at h2
   exact .inr ⟨by omega,h1,h2⟩
 have s:Step m ⟨A',m.β++βn,m.H++Hn,w'⟩:=by
  refine⟨hos,htp,hou,hsz,hA,fun b o h=>?_,fun b o h=>?_,fun b o hb _=>zaZ (hkeep b hb),fun b o hb _ _=>za2 (hkeep b hb),fun b hb _=>hkeep b hb,fun b sh hs=>(by rw[zbN (hkeep b (zhe hs))];exact hs),fun b L hL=>⟨L,by show w'.heap[b]?=_;rw[hkeep b (qah.1 hL).1];exact hL⟩,fun b o hb h=>?_,fun i p hp=>?_⟩
  ·rcases hA' b o h with h|h
   ·exact .inl h
   ·exact .inr (.inr h.1)
  ·obtain⟨i,p,k,h1,h2,h3,h4,h5,h6⟩:=h
   rcases split i p k h1 h2 with ⟨g1,g2⟩|⟨g0,g1,g2⟩
   ·exact .inl ⟨i,p,k,g1,g2,h3,h4,h5,h6⟩
   ·rcases hnew _ p k g1 g2 h3 with g|g
    ·exact .inr (by rw[<-h4];exact g.1)
    ·omega
  ·rw[zaZ (hkeep b hb)];exact h
  ·have hi:=(qaa.1 hp).1
   refine⟨p,by rw[qan hi];exact hp,zbO ?_⟩
   show(m.H++Hn)[i]?=m.H[i]?
   rw[qan (by rw[<-hm.len];exact hi)]
 refine⟨s,by simp[hm.len,hlen],fun i p k h1 h2=>?_,fun i j p q k l hij h1 h2 h3 h4 hk hl=>?_,fun b o h=>?_,fun b o h=>?_,fun i p k h1 h2 hk hlt=>?_,s.glob hm⟩
 ·rcases split i p k h1 h2 with ⟨g1,g2⟩|⟨g0,g1,g2⟩
  ·cases hlv:k.live with
   | true=>exact(hm.blk i p k g1 g2).step hm s (fun o h1 h2=>⟨zaZ (hkeep _ (hm.inO i p k g1 g2 hlv (by omega))),fun _=>za2 (hkeep _ (hm.inO i p k g1 g2 hlv (by omega)))⟩) (fun e=>hkeep _ (hm.inO i p k g1 g2 hlv (by obtain⟨e1,e2,_⟩:=(hm.blk i p _ g1 g2).zcC e;omega)))
   | false=>cases k <;> simp[Blk.live]at hlv;trivial
  ·exact hblk s _ p k g1 g2
 ·rcases split i p k h1 h2 with ⟨g1,g2⟩|⟨g0,g1,g2⟩ <;> rcases split j q l h3 h4 with ⟨g3,g4⟩|⟨g0',g3,g4⟩
  ·exact hm.apart i j p q k l hij g1 g2 g3 g4 hk hl
  ·intro e
   rcases hnew _ q l g3 g4 hl with g|g
   ·by_cases hlt:p.lo<p.hi
    ·have:=hm.inO i p k g1 g2 hk hlt;omega
    ·omega
   ·omega
  ·intro e
   rcases hnew _ p k g1 g2 hk with g|g
   ·by_cases hlt:q.lo<q.hi
    ·have:=hm.inO j q l g3 g4 hl hlt;omega
    ·omega
   ·omega
  ·exact hap _ _ p q (by omega) g1 g3
 ·rintro⟨i,p,k,h1,h2,h3,h4,h5,h6⟩
  rcases split i p k h1 h2 with ⟨g1,g2⟩|⟨g0,g1,g2⟩
  ·rcases hA' b o h with h|h
   ·exact hm.still b o h ⟨i,p,k,g1,g2,h3,h4,h5,h6⟩
   ·have:=hm.inO i p k g1 g2 h3 (by omega);omega
  ·by_cases ha:m.A b o
   ·rcases hnew _ p k g1 g2 h3 with g|g
    ·have:=hm.inA b o ha;omega
    ·omega
   ·exact hst b o h ha _ p k g1 g2 h3 ⟨h4,h5,h6⟩
 ·rcases hA' b o h with h|h
  ·exact qaL (hm.inA b o h) hsz
  ·exact h.2
 ·rcases split i p k h1 h2 with ⟨g1,g2⟩|⟨g0,g1,g2⟩
  ·exact qaL (hm.inO i p k g1 g2 hk hlt) hsz
  ·rcases hnew _ p k g1 g2 hk with g|g
   ·exact g.2
   ·omega
theorem zc4{m:M}(hm:HRel m)(cs:List SV)(ys:Array Value)(t:TypeId)(hl:cs.length≤ys.size)(h1:∀(i:Nat) y,ys[i]?=some y->y.oneCell'=true)(h:∀(i:Nat) c y,cs[i]?=some c->ys[i]?=some y->SRel m c y):
  let m':M:=⟨m.A,m.β++[⟨m.w.heap.size,0,ys.size⟩],m.H++[.cells cs],m.w.alloc (.cells ys t)⟩
  Step m m'/\HRel m':=by
 intro m'
 have hcell:∀o,(m.w.alloc (.cells ys t)).cell? ⟨m.w.heap.size,o,none⟩=ys[o]? :=fun o=>World.cell?_alloc_new ..
 refine grow hm (A':=m.A) (βn:=[⟨m.w.heap.size,0,ys.size⟩]) (Hn:=[.cells cs]) rfl rfl rfl (by simp) (fun b hb=>RowKit.Below.heap_alloc _ _ _ hb) (fun _ _ h=>h) (fun _ _ h=>.inl h) rfl ?_ ?_ ?_ ?_
 ·intro i p k h1 h2 h3
  cases i with
  | zero=>simp at h1;subst h1;left;simp
  | succ i=>simp at h1
 ·exact zwfb
 ·intro b o h1 h2;exact absurd h1 h2
 ·intro s i p k h1 h2
  cases i with
  | zero=>
    simp at h1 h2
    subst h1;subst h2
    refine⟨by simpa using hl,fun o _ ho=>?_,fun j c hc=>?_⟩
    ·refine⟨by simp[hcell]at ho⊢;omega,?_⟩
     exact World.frozen?_alloc_new ..
    ·have hj:=(qaa.1 hc).1
     have hy:ys[j]?=some (ys[j]'(by omega)):=qaj (by omega)
     exact⟨_,by simp[hcell,hy],h1 _ _ hy,s.srel hm (h j c _ hc hy)⟩
  | succ i=>simp at h1
section rules
variable {P:Program}{n:Nat}{env:Env}{H:Heap}{K:TK}{all:Array Oper}{rest:List Oper}{tab:Tab}
variable {d:Nat}{ty:TypeId}{pos:String}{aft:Array Edge}
theorem TO.eff{op:Op}{v:SV}{H':Heap}(hd:Nat.ble (d+1) n=true)
  (h:∀(m:M) (a:Act),m.H=H->HRel m->ERel m n env a.tmps->∃x m',(execOp a.eval ⟨some d,op,ty,pos,aft,none⟩).run P m.w= .ok (.value x) m'.w/\Step m m'/\HRel m'/\m'.H=H'/\SRel m' v x)
  (k:TO false P n all rest ((d,v)::env) H' K):TO false P n all (⟨some d,op,ty,pos,aft,none⟩::rest) env H K:=by
 intro φ m a h1 h2 h3 h4
 obtain⟨x,m',hx,s,hm',hH',hr⟩:=h m a h1 h2 h3
 refine wpListIn_plain rfl fun K' hK=>?_
 unfold Oper.wpIn
 refine⟨fun _ _=>trivial,?_⟩
 rw[zbf hx (by intro d e;cases e)]
 simp only[Oper.uponIn]
 exact hK _ _ (TO.ze5 s (k φ m' _ hH' hm' ((h3.step h2 s).put d (qaf hd) hr) (by simpa [Act.put]using h4.step h2 s)))
theorem TO.eff0{op:Op}{H':Heap}
  (h:∀(m:M) (a:Act),m.H=H->HRel m->ERel m n env a.tmps->∃m',(execOp a.eval ⟨none,op,ty,pos,aft,none⟩).run P m.w= .ok .skip m'.w/\Step m m'/\HRel m'/\m'.H=H')
  (k:TO false P n all rest env H' K):TO false P n all (⟨none,op,ty,pos,aft,none⟩::rest) env H K:=by
 intro φ m a h1 h2 h3 h4
 obtain⟨m',hx,s,hm',hH'⟩:=h m a h1 h2 h3
 refine wpListIn_plain rfl fun K' hK=>?_
 unfold Oper.wpIn
 refine⟨fun _ _=>trivial,?_⟩
 rw[zbf hx (by intro d e;cases e)]
 simp only[Oper.uponIn]
 exact hK _ _ (TO.ze5 s (k φ m' _ hH' hm' (by simpa [Act.put]using h3.step h2 s) (by simpa [Act.put]using h4.step h2 s)))
def SV.solid:SV->Bool
 | .any| .tup _=>false
 | .t (.v x)=>x.oneCell'
 | _=>true
theorem SRel.cells{m:M}{v:SV}{x:Value}(h:SRel m v x)(hv:v.solid=true):(v.cells.length=x.cells.size)/\(∀(i:Nat) y,x.cells[i]?=some y->y.oneCell'=true)/\∀(i:Nat) c y,v.cells[i]?=some c->x.cells[i]?=some y->SRel m c y:=by
 have one:∀(v:SV) (x:Value),SRel m v x->∀(i:Nat) c y,[v][i]?=some c->#[x][i]?=some y->SRel m c y:=by
  exact zwdc
 have oc:∀(x:Value),x.oneCell'=true->∀(i:Nat) y,#[x][i]?=some y->y.oneCell'=true:=by
  exact zwee
 cases h with
 | t t x h=>
   cases h with
   | ag cs arr hs h1 hr=>
     refine⟨by simp[SV.cells,Value.cells,hs],h1,fun i c y hc hy=>?_⟩
     simp only[SV.cells,qar]at hc
     cases hq:cs[i]? with
     | none=>rw[hq]at hc;cases hc
     | some u=>rw[hq]at hc;cases hc;exact .t _ _ (hr _ _ _ hq hy)
   | v x=>cases x <;> first|(simp[SV.solid,Value.oneCell']at hv;done)|exact⟨rfl,oc _ rfl,one _ _ (.t _ _ (.v _))⟩
   | nil sz=>exact⟨rfl,oc _ rfl,one _ _ (.t _ _ (.nil sz))⟩
   | empty sz a=>exact⟨rfl,oc _ rfl,one _ _ (.t _ _ (.empty sz a))⟩
   | sl sz es b off cap f h1 h2 h3 h4 h5 h6=>exact⟨rfl,oc _ rfl,one _ _ (.t _ _ (.sl sz es b off cap f h1 h2 h3 h4 h5 h6))⟩
 | ag cs arr hs h1 hr=>exact⟨hs.symm,h1,hr⟩
 | tup vs=>simp[SV.solid]at hv
 | any=>simp[SV.solid]at hv
 | sl sz es id x p h hp ho=>
   have hx:=TRel.zdC h
   obtain⟨ad,cap,rfl⟩:=hx
   exact⟨rfl,oc _ rfl,one _ _ (.sl sz es id _ p h hp ho)⟩
 | ms sz id off len cap p hp hn hc hh=>exact⟨rfl,oc _ rfl,one _ _ (.ms sz id off len cap p hp hn hc hh)⟩
 | cp cs off b o f h1 hA hw h=>exact⟨rfl,oc _ rfl,one _ _ (.cp cs off b o f h1 hA hw h)⟩
 | ref id off p hp hn=>exact⟨rfl,oc _ rfl,one _ _ (.ref id off p hp hn)⟩
 | tref e n id off p hp hn h0 hs=>exact⟨rfl,oc _ rfl,one _ _ (.tref e n id off p hp hn h0 hs)⟩
 | rw id len x p hp hx ho=>obtain⟨ad,n,c,rfl⟩:=hx;exact⟨rfl,oc _ rfl,one _ _ (.rw id len _ p hp ⟨ad,n,c,rfl⟩ ho)⟩
 | mp id p hp hn=>exact⟨rfl,oc _ rfl,one _ _ (.mp id p hp hn)⟩
 | yl id p hp hn=>exact⟨rfl,oc _ rfl,one _ _ (.yl id p hp hn)⟩
 | fn f cs arr hs h=>exact⟨rfl,oc _ rfl,one _ _ (.fn f cs arr hs h)⟩
 | bnd f cs arr hs h=>exact⟨rfl,oc _ rfl,one _ _ (.bnd f cs arr hs h)⟩
 | ifc ty s x h=>exact⟨rfl,oc _ rfl,one _ _ (.ifc ty s x h)⟩
theorem TO.box{t:TypeId}{x:Operand}{v:SV}{cs:List SV}(hd:Nat.ble (d+1) n=true)(hx:env.val x=some v)(hv:v.solid=true)(hc:v.cells=cs)
  (k:TO false P n all rest ((d,.ref H.length 0)::env) (H++[.cells cs]) K):TO false P n all (⟨some d,.box t x,ty,pos,aft,none⟩::rest) env H K:=
 TO.eff hd (fun m ac h1 h2 h3=>by
  obtain⟨g1,g0,g2⟩:=(h3.val hx).cells hv
  rw[hc]at g1 g2
  obtain⟨s,hm'⟩:=zc4 h2 cs (ac.eval x).cells t (by omega) g0 g2
  refine⟨.pointer (some ⟨m.w.heap.size,0,none⟩),_,?_,s,hm',by rw[h1],?_⟩
  ·simp[execOp,Instr.box,newVar,newRow]
  ·rw[<-h1]
   exact SRel.ref (m:=⟨m.A,m.β++[⟨m.w.heap.size,0,(ac.eval x).cells.size⟩],m.H++[.cells cs],m.w.alloc (.cells (ac.eval x).cells t)⟩) m.H.length 0 ⟨m.w.heap.size,0,(ac.eval x).cells.size⟩
    (by simp[h2.len]) (by intro q;simp[tlOf])) k
theorem zbW{A:Foot}{w:World}:∀(ts:List T) (vs:List Value),zdg ts vs=true->ts.length=vs.length/\(∀(i:Nat) y,vs[i]?=some y->y.oneCell'=true)/\∀(i:Nat) c y,ts[i]?=some c->vs[i]?=some y->TRel A w c y
 | [],[],_=>by simp
 | [],v::vs,h=>by simp[zdg]at h
 | t::ts,[],h=>by simp[zdg]at h
 | t::ts,v::vs,h=>by
   simp only[zdg,qat]at h
   obtain⟨g1,g0,g2⟩:=zbW ts vs h.2
   have h0:=h.1
   refine⟨by simp[g1],fun i y hy=>?_,fun i c y hc hy=>?_⟩
   ·cases i with
    | zero=>
      simp at hy;subst hy
      unfold T.fits at h0
      split at h0 <;> first|(cases h0;done)|rfl
    | succ i=>exact g0 i y (by simpa using hy)
   cases i with
   | zero=>
     simp at hc hy;subst hc;subst hy
     unfold T.fits at h0
     split at h0 <;> first
      | (cases h0;done)
      | (simp at h0;obtain⟨rfl,rfl⟩:=h0;exact .v _)
      | (simp at h0;subst h0;exact .v _)
      | exact .nil _
      | exact .v _
      | (simp at h0;rename_i a b;cases a;cases b;simp at h0;subst h0;exact .v _)
   | succ i=>exact g2 i c y (by simpa using hc) (by simpa using hy)
theorem Fit.zero{t:TypeId}{i:TyI}(h:Fit P t i):∃z,(∀w,(zeroValue t).run P w= .ok z w)/\zdg i.zero z.cells.toList=true/\(i.k.agg=true->∃cs,z= .agg cs)/\(i.k.agg=false->z.oneCell'=true):=by
 obtain⟨dd,ti,z,h1,h2,h3,h4,h5,h6,h7,h8,h9⟩:=h.ex
 exact⟨z,fun w=>by simp[zeroValue,typeInfo,h2,h6],h7,h8,h9⟩
theorem TO.alloc(hT:zaA P tab){t:TypeId}{i:TyI}{cs:List SV}(hd:Nat.ble (d+1) n=true)(ht:tab.get t=some i)(hc:i.zero.map SV.t=cs)
  (k:TO false P n all rest ((d,.ref H.length 0)::env) (H++[.cells cs]) K):TO false P n all (⟨some d,.alloc t,ty,pos,aft,none⟩::rest) env H K:=
 TO.eff hd (fun m ac h1 h2 h3=>by
  obtain⟨z,hz1,hz2,_,_⟩:=(hT t i ht).zero
  obtain⟨g1,g0,g2⟩:=zbW (A:=m.A) (w:=m.w) _ _ hz2
  obtain⟨s,hm'⟩:=zc4 h2 cs z.cells t (by rw[<-hc];simp[g1]) (fun j y hy=>g0 j y (by simpa using hy)) (fun j c y hj hy=>by
   rw[<-hc,qar]at hj
   cases hq:i.zero[j]? with
   | none=>rw[hq]at hj;cases hj
   | some u=>rw[hq]at hj;cases hj;exact .t _ _ (g2 j u y hq (by simpa using hy)))
  refine⟨.pointer (some ⟨m.w.heap.size,0,none⟩),_,?_,s,hm',by rw[h1],?_⟩
  ·simp[execOp,Instr.alloc,hz1,newVar,newRow]
  ·rw[<-h1]
   exact SRel.ref (m:=⟨m.A,m.β++[⟨m.w.heap.size,0,z.cells.size⟩],m.H++[.cells cs],m.w.alloc (.cells z.cells t)⟩) m.H.length 0 ⟨m.w.heap.size,0,z.cells.size⟩
    (by simp[h2.len]) (by intro q;simp[tlOf])) k
theorem upd{m:M}(hm:HRel m){id:Nat}{p:Place}{cs cs':List SV}{w':World}(hp:m.β[id]?=some p)(hH:m.H[id]?=some (.cells cs))(hos:w'.os=m.w.os)(htp:w'.tape=m.w.tape)(hou:w'.output=m.w.output)
  (hsz:w'.heap.size=m.w.heap.size)(hoth:∀b,b≠p.b->w'.heap[b]?=m.w.heap[b]?)(hcell:∀o,¬(p.lo≤o/\o<p.hi)->w'.cell? ⟨p.b,o,none⟩=m.w.cell? ⟨p.b,o,none⟩)
  (hfr:∀o,w'.frozen? ⟨p.b,o,none⟩=m.w.frozen? ⟨p.b,o,none⟩)(hsm:∀o,(w'.cell? ⟨p.b,o,none⟩).isSome=(m.w.cell? ⟨p.b,o,none⟩).isSome)(hshp:∀s,m.w.shape? p.b=some s->w'.shape? p.b=some s)(hl:p.lo+cs'.length≤p.hi)(hlt:p.lo<p.hi)
  (hnew:∀(j:Nat) c,cs'[j]?=some c->∃y,w'.cell? ⟨p.b,p.lo+j,none⟩=some y/\y.oneCell'=true/\SRel m c y):
  Step m ⟨m.A,m.β,m.H.set id (.cells cs'),w'⟩/\HRel ⟨m.A,m.β,m.H.set id (.cells cs'),w'⟩:=by
 have hid:=(qaa.1 hH).1
 have own:∀b o,Own ⟨m.A,m.β,m.H.set id (.cells cs'),w'⟩ b o ↔ Own m b o:=by
  intro b o
  constructor
  ·rintro⟨i,q,k,h1,h2,h3,h4⟩
   by_cases hi:i=id
   ·subst hi
    have h1':m.β[i]?=some q:=h1
    have:q=p:=by rw[hp]at h1';cases h1';rfl
    subst this
    exact⟨i,q,_,hp,hH,rfl,h4⟩
   ·have h2':(m.H.set id (.cells cs'))[i]?=some k:=h2
    rw[qau (by omega)]at h2'
    exact⟨i,q,k,h1,h2',h3,h4⟩
  ·rintro⟨i,q,k,h1,h2,h3,h4⟩
   by_cases hi:i=id
   ·subst hi
    refine⟨i,q,.cells cs',h1,?_,rfl,h4⟩
    show(m.H.set i (.cells cs'))[i]?=_
    rw[qao hid]
   ·refine⟨i,q,k,h1,?_,h3,h4⟩
    show(m.H.set id (.cells cs'))[i]?=_
    rw[qau (by omega)];exact h2
 have inp:∀o,p.lo≤o->o<p.hi->Own m p.b o:=fun o h1 h2=>⟨id,p,_,hp,hH,rfl,rfl,h1,h2⟩
 have cellA:∀b o,¬Own m b o->w'.cell? ⟨b,o,none⟩=m.w.cell? ⟨b,o,none⟩:=by
  intro b o hn
  by_cases hb:b=p.b
  ·subst hb
   exact hcell o fun h=>hn (inp o h.1 h.2)
  ·exact zaZ (hoth b hb)
 have s:Step m ⟨m.A,m.β,m.H.set id (.cells cs'),w'⟩:=by
  refine⟨hos,htp,hou,by rw[hsz];exact qae _,fun _ _ h=>h,fun _ _ h=>.inl h,fun b o h=>.inl ((own b o).1 h),fun b o _ hn=>cellA b o hn,fun b o _ hn _=>?_,fun b hb hn=>?_,fun b sh hs=>?_,fun b L hL=>?_,fun b o hb h=>?_,fun i q hq=>⟨q,hq,?_⟩⟩
  ·by_cases hb:b=p.b
   ·subst hb;exact hfr o
   ·exact za2 (hoth b hb)
  ·by_cases hb:b=p.b
   ·exact absurd (inp p.lo (qae _) hlt) (by rw[<-hb];exact hn p.lo)
   ·exact hoth b hb
  ·by_cases hb':b=p.b
   ·subst hb';exact hshp sh hs
   ·show w'.shape? b=_
    rw[zbN (hoth b hb')];exact hs
  ·by_cases hb':b=p.b
   ·subst hb'
    have:=((hm.blk id p _ hp hH).2.1 p.lo (qae _) hlt).1
    simp[World.cell?,hL]at this
   ·exact⟨L,by show w'.heap[b]?=_;rw[hoth b hb'];exact hL⟩
  ·by_cases hb':b=p.b
   ·subst hb';rw[<-hsm]at h;exact h
   ·rw[zaZ (hoth b hb')];exact h
  ·by_cases hi:i=id
   ·subst hi
    show zaU m.H[i]? (m.H.set i (.cells cs'))[i]? q q
    rw[qao hid,hH]
    exact⟨rfl,by intro n h;cases h⟩
   ·refine zbO ?_
    show(m.H.set id (.cells cs'))[i]?=m.H[i]?
    rw[qau (by omega)]
 have nomap:∀a clock,m.w.heap[p.b]? ≠some (.map a clock):=by
  intro a clock e
  have:=((hm.blk id p _ hp hH).2.1 p.lo (qae _) hlt).1
  simp[World.cell?,e]at this
 refine⟨s,by simpa using hm.len,fun i q k h1 h2=>?_,fun i j q r k l hij h1 h2 h3 h4 hk hl'=>?_,fun b o h hn=>hm.still b o h ((own b o).1 hn),fun b o h=>by rw[show(⟨m.A,m.β,m.H.set id (.cells cs'),w'⟩:M).w.heap.size=m.w.heap.size from hsz];exact hm.inA b o h,fun i q k h1 h2 hk hq=>?_,s.glob hm⟩
 ·by_cases hi:i=id
  ·subst hi
   have h1':m.β[i]?=some q:=h1
   have:q=p:=by rw[hp]at h1';cases h1';rfl
   subst this
   have h2':(m.H.set i (.cells cs'))[i]?=some k:=h2
   rw[qao hid]at h2'
   cases h2'
   refine⟨hl,fun o ho ho'=>?_,fun j c hc=>?_⟩
   ·have:=(hm.blk i q _ hp hH).2.1 o ho ho'
    exact⟨by rw[show(World.cell? _ _)=w'.cell? ⟨q.b,o,none⟩ from rfl,hsm];exact this.1,by rw[show(World.frozen? _ _)=w'.frozen? ⟨q.b,o,none⟩ from rfl,hfr];exact this.2⟩
   ·obtain⟨y,hy1,hy0,hy2⟩:=hnew j c hc
    exact⟨y,hy1,hy0,s.srel hm hy2⟩
  ·have h2':(m.H.set id (.cells cs'))[i]?=some k:=h2
   rw[qau (by omega)]at h2'
   have hb:=hm.blk i q k h1 h2'
   cases hlv:k.live with
   | false=>cases k <;> simp[Blk.live]at hlv;trivial
   | true=>
     have hap:=hm.apart i id q p k _ hi h1 h2' hp hH hlv rfl
     refine hb.step hm s (fun o ho ho'=>?_) (fun e=>?_)
     ·by_cases hqb:q.b=p.b
      ·have:=hap hqb
       rw[hqb]
       exact⟨hcell o (by omega),fun _=>hfr o⟩
      ·exact⟨zaZ (hoth _ hqb),fun _=>za2 (hoth _ hqb)⟩
     ·by_cases hqb:q.b=p.b
      ·exfalso
       have h5:=(hb.zcC e).2.2 p.lo
       rw[hqb]at h5
       have:=((hm.blk id p _ hp hH).2.1 p.lo (qae _) hlt).1
       rw[h5]at this;cases this
      ·exact hoth _ hqb
 ·have pick:∀(i:Nat) k,(m.H.set id (.cells cs'))[i]?=some k->k.live=true->∃k',m.H[i]?=some k'/\k'.live=true:=by
   intro i k h hk
   by_cases hi:i=id
   ·subst hi;exact⟨_,hH,rfl⟩
   ·rw[qau (by omega)]at h;exact⟨k,h,hk⟩
  obtain⟨k1,g1,g2⟩:=pick i k h2 hk
  obtain⟨k2,g3,g4⟩:=pick j l h4 hl'
  exact hm.apart i j q r k1 k2 hij h1 g1 h3 g3 g2 g4
 ·show q.b<w'.heap.size
  rw[hsz]
  by_cases hi:i=id
  ·subst hi;exact hm.inO i q _ h1 hH rfl hq
  ·have h2':(m.H.set id (.cells cs'))[i]?=some k:=h2
   rw[qau (by omega)]at h2'
   exact hm.inO i q k h1 h2' hk hq
end rules
theorem zbG(b:Nat):∀(vs:List Value) (o:Nat) (w:World),(w.setCells b o vs).os=w.os/\(w.setCells b o vs).tape=w.tape/\(w.setCells b o vs).output=w.output/\(w.setCells b o vs).heap.size=w.heap.size/\
  (∀k,k≠b->(w.setCells b o vs).heap[k]?=w.heap[k]?)/\∀k,((w.setCells b o vs).cell? ⟨b,k,none⟩).isSome=(w.cell? ⟨b,k,none⟩).isSome
 | [],_,_=>⟨rfl,rfl,rfl,rfl,fun _ _=>rfl,fun _=>rfl⟩
 | v::r,o,w=>by
   obtain⟨h1,h2,h3,h4,h5,h6⟩:=zbG b r (o+1) (w.setCell ⟨b,o,none⟩ v)
   refine⟨h1,h2,h3,by rw[World.setCells,h4];simp[World.setCell],fun k hk=>by rw[World.setCells,h5 k hk];exact RowKit.Below.heap_setCell _ _ _ _ hk,fun k=>?_⟩
   rw[World.setCells,h6 k]
   by_cases hk:k=o
   ·subst hk
    cases hc:w.cell? ⟨b,k,none⟩ with
    | some u=>rw[World.cell?_setCell_same _ _ _ hc];rfl
    | none=>
      cases hc':(w.setCell ⟨b,k,none⟩ v).cell? ⟨b,k,none⟩ with
      | none=>rfl
      | some u=>
        exfalso
        simp only[World.cell?,World.setCell,qbx]at hc hc'
        cases hq:w.heap[b]? with
        | none=>rw[hq]at hc';simp at hc'
        | some ob=>
          rw[hq]at hc hc'
          cases ob <;> simp at hc hc'
          rw[qaC]at hc'
          simp at hc'
          omega
   ·rw[World.cell?_setCell_other _ _ _ _ (by simp <;> omega)]
theorem zb7(b k:Nat):∀(vs:List Value) (o:Nat) (w:World),(w.setCells b o vs).shape? k=w.shape? k
 | [],_,_=>rfl
 | v::r,o,w=>by
   rw[World.setCells,zb7 b k r]
   unfold World.shape? World.setCell
   simp only[qbx]
   by_cases h:b=k
   ·subst h
    rw[if_pos rfl]
    cases hq:w.heap[b]? with
    | none=>rfl
    | some ob=>cases ob <;> simp
   ·rw[if_neg h]
def splice(cs:List SV)(off:Nat)(vs:List SV):List SV:=cs.take off++vs++cs.drop (off+vs.length)
theorem zgL{cs:List SV}{off:Nat}{vs:List SV}(hl:off+vs.length≤cs.length){j:Nat}{c:SV}(h:(splice cs off vs)[j]?=some c):
  (off≤j/\j<off+vs.length/\vs[j-off]?=some c)\/((j<off\/off+vs.length≤j)/\cs[j]?=some c):=by
 unfold splice at h
 rw[qbj]at h
 have ht:(cs.take off).length=off:=by simp;omega
 by_cases h1:j<off
 ·rw[qan (by rw[ht];exact h1),qaK,if_pos h1]at h
  exact .inr ⟨.inl h1,h⟩
 ·rw[qaq (by rw[ht];omega),ht]at h
  by_cases h2:j-off<vs.length
  ·rw[qan h2]at h
   exact .inl ⟨by omega,by omega,h⟩
  ·rw[qaq (by omega),qaV]at h
   rw[show off+vs.length+(j-off-vs.length)=j from by omega]at h
   exact .inr ⟨.inr (by omega),h⟩
theorem zev{cs:List SV}{off:Nat}{vs:List SV}(hl:off+vs.length≤cs.length):(splice cs off vs).length=cs.length:=by
 simp[splice];omega
theorem zmv{m:M}(hm:HRel m){id off:Nat}{p:Place}{cs vs:List SV}{ys:List Value}(hp:m.β[id]?=some p)(hH:m.H[id]?=some (.cells cs))(hl:off+vs.length≤cs.length)(hpos:0<vs.length)
  (hys:vs.length=ys.length)(h1:∀y∈ys,y.oneCell'=true)(hr:∀(i:Nat) c y,vs[i]?=some c->ys[i]?=some y->SRel m c y):
  Step m ⟨m.A,m.β,m.H.set id (.cells (splice cs off vs)),m.w.setCells p.b (p.lo+off) ys⟩/\HRel ⟨m.A,m.β,m.H.set id (.cells (splice cs off vs)),m.w.setCells p.b (p.lo+off) ys⟩:=by
 obtain⟨b1,b2,b3⟩:=hm.blk id p _ hp hH
 obtain⟨e1,e2,e3,e4,e5,e6⟩:=zbG p.b ys (p.lo+off) m.w
 refine upd hm hp hH e1 e2 e3 e4 e5 (fun o ho=>?_) (fun o=>World.frozen?_setCells _ _ _ _ _) e6 (fun s hs=>by rw[zb7];exact hs) (by rw[zev hl];exact b1) (by omega) (fun j c hc=>?_)
 ·exact World.cell?_setCells_out _ _ _ _ _ fun _ _=>by simp only[];omega
 ·rcases zgL hl hc with ⟨g1,g2,g3⟩|⟨g1,g2⟩
  ·have hj:j-off<ys.length:=by omega
   have:=World.cell?_setCells_in p.b ys (p.lo+off) m.w (fun q hq=>(b2 _ (by omega) (by omega)).1) (j-off) hj
   rw[show p.lo+off+(j-off)=p.lo+j from by omega]at this
   exact⟨_,this,h1 _ (qaG hj),hr _ _ _ g3 (qab hj)⟩
  ·obtain⟨y,hy1,hy0,hy2⟩:=b3 j c g2
   exact⟨y,by rw[World.cell?_setCells_out _ _ _ _ _ (fun _ _=>by simp only[];omega)];exact hy1,hy0,hy2⟩
section rules
variable {P:Program}{n:Nat}{env:Env}{H:Heap}{K:TK}{all:Array Oper}{rest:List Oper}{tab:Tab}
variable {d:Nat}{ty:TypeId}{pos:String}{aft:Array Edge}{q:Bool}
theorem TO.store(hT:zaA P tab){t:TypeId}{i:TyI}{x y:Operand}{v:SV}{vs cs:List SV}{id off:Nat}{H':Heap}(ht:tab.get t=some i)(hx:env.val x=some (.ref id off))(hy:env.val y=some v)
  (hv:v.solid=true)(hvs:v.cells=vs)(hsz:i.size=vs.length)(hpos:0<vs.length)(hH:H[id]?=some (.cells cs))(hl:off+vs.length≤cs.length)(hH':H.set id (.cells (splice cs off vs))=H')
  (k:TO false P n all rest env H' K):TO false P n all (⟨none,.store t x y,ty,pos,aft,none⟩::rest) env H K:=
 TO.eff0 (fun m ac h1 h2 h3=>by
  obtain⟨g1,g0,g2⟩:=(h3.val hy).cells hv
  rw[hvs]at g1 g2
  have h:=h3.val hx
  generalize hq:ac.eval x=z at h
  cases h with
  | ref _ _ p hp hn=>
    have hH1:m.H[id]?=some (.cells cs):=by rw[h1];exact hH
    obtain⟨b1,b2,b3⟩:=h2.blk id p _ hp hH1
    obtain⟨s,hm'⟩:=zmv h2 (ys:=(ac.eval y).cells.toList) hp hH1 hl hpos (by simpa using g1) (fun u hu=>by
     obtain⟨q,hq⟩:=qa4 hu
     exact g0 q u (by simpa using hq)) (fun q c u hc hu=>g2 q c u hc (by simpa using hu))
    refine⟨_,?_,s,hm',by rw[h1];exact hH'⟩
    have hst:=run_storeCells_cells (P:=P) p.b (p.lo+off) (ac.eval y).cells.toList 0 m.w (fun q hq=>(b2 _ (by omega) (by simp at hq;omega)).1) (fun q hq=>(b2 _ (by omega) (by simp at hq;omega)).2) (fun u hu=>by
     obtain⟨q,hq⟩:=qa4 hu
     exact g0 q u (by simpa using hq))
    have hne:(ac.eval y).cells.size=i.size:=by omega
    simp[execOp,hq,Instr.storeAt,Instr.sureAddr,storeVar,(hT t i ht).sizeOf,hne,hst]) k
theorem TO.zmh(hT:zaA P tab){t:TypeId}{i:TyI}{x y:Operand}{v:SV}{cs:List SV}{id off:Nat}{H':Heap}(ht:tab.get t=some i)(hx:env.val x=some (.ref id off))(hy:env.val y=some v)
  (hv:v.solid=true)(hvs:v.cells=[v])(hsz:i.size=1)(hH:H[id]?=some (.cells cs))(hl:off<cs.length)(hH':H.set id (.cells (cs.set off v))=H')
  (k:TO false P n all rest env H' K):TO false P n all (⟨none,.store t x y,ty,pos,aft,none⟩::rest) env H K:=
 TO.store hT ht hx hy hv hvs (by rw[hsz];rfl) (by simp) hH (by simpa using (show off+1≤cs.length from hl)) (by
  rw[<-hH']
  congr 2
  simp only[splice,List.length_singleton]
  rw[List.set_eq_take_append_cons_drop,if_pos hl];simp) k
def zeR(fs:List (Nat×Nat)):List SV->List (Nat×SV)->Option (List SV)
 | cs,[]=>some cs
 | cs,(i,v)::r=>match fs[i]? with
   | some (off,sz)=>if v.solid=true/\v.cells.length=sz/\off+sz≤cs.length then zeR fs (splice cs off v.cells) r else none
   | none=>none
theorem zjG(ys:List Value)(off:Nat):∀(k:Nat) (cells:Array Value),off+k+ys.length≤cells.size->
  (((ys.zipIdx k).foldl (fun cs (x:Value×Nat)=>cs.setIfInBounds (off+x.2) x.1) cells).size=cells.size)/\
  ∀j,((ys.zipIdx k).foldl (fun cs (x:Value×Nat)=>cs.setIfInBounds (off+x.2) x.1) cells)[j]?=if off+k≤j/\j<off+k+ys.length then ys[j-(off+k)]? else cells[j]? :=by
 induction ys with
 | nil=>intro k cells _;refine⟨rfl,fun j=>?_⟩;rw[if_neg (by simp <;> omega)];rfl
 | cons y r ih=>
   intro k cells hk
   simp only[qac]at hk
   have:=ih (k+1) (cells.setIfInBounds (off+k) y) (by simp;omega)
   simp only[List.zipIdx_cons,qbF]
   refine⟨by rw[this.1];simp,fun j=>?_⟩
   rw[this.2 j]
   by_cases h1:off+(k+1)≤j/\j<off+(k+1)+r.length
   ·rw[if_pos h1,if_pos (by simp;omega),show j-(off+k)=(j-(off+(k+1)))+1 from by omega];simp
   ·rw[if_neg h1]
    by_cases h2:j=off+k
    ·subst h2
     rw[if_pos (by simp),Array.getElem?_setIfInBounds_self_of_lt (by omega)];simp
    ·rw[if_neg (by simp;omega),Array.getElem?_setIfInBounds_ne (by omega)]
theorem zlB{m:M}(fs:List (Nat×Nat))(pl:Nat->Option (Nat×Nat))(hpl:∀(i:Nat) a,fs[i]?=some a->pl i=some a):∀(parts:List (Nat×SV)) (vals:List (Nat×Value)) (cs cs':List SV) (arr:Array Value),
  parts.length=vals.length->(∀(i:Nat) a b,parts[i]?=some a->vals[i]?=some b->a.1=b.1/\SRel m a.2 b.2)->zeR fs cs parts=some cs'->
  arr.size=cs.length->(∀(i:Nat) y,arr[i]?=some y->y.oneCell'=true)->(∀(i:Nat) c y,cs[i]?=some c->arr[i]?=some y->SRel m c y)->
  ∃arr',Instr.fill pl arr vals=some arr'/\arr'.size=cs'.length/\(∀(i:Nat) y,arr'[i]?=some y->y.oneCell'=true)/\(∀(i:Nat) c y,cs'[i]?=some c->arr'[i]?=some y->SRel m c y)
 | [],vals,cs,cs',arr,hl,_,hf,ha,h1,hr=>by
   cases vals with
   | nil=>simp[zeR]at hf;subst hf;exact⟨arr,rfl,ha,h1,hr⟩
   | cons=>simp at hl
 | (i,v)::parts,vals,cs,cs',arr,hl,hv,hf,ha,h1,hr=>by
   cases vals with
   | nil=>simp at hl
   | cons b vals=>
     obtain⟨i',x⟩:=b
     have h0:=hv 0 _ _ rfl rfl
     simp only at h0
     obtain⟨rfl,hvx⟩:=h0
     simp only[zeR]at hf
     cases hfi:fs[i]? with
     | none=>rw[hfi]at hf;cases hf
     | some os=>
       obtain⟨off,sz⟩:=os
       rw[hfi]at hf
       simp only at hf
       split at hf
       ·rename_i hc
        obtain⟨c1,c2,c3⟩:=hc
        obtain⟨g1,g0,g2⟩:=hvx.cells c1
        have hxs:x.cells.size=sz:=by omega
        have hfold:=zjG x.cells.toList off 0 arr (by simp;omega)
        have hstep:Instr.fill pl arr ((i,x)::vals)=Instr.fill pl ((x.cells.toList.zipIdx 0).foldl (fun cs (x:Value×Nat)=>cs.setIfInBounds (off+x.2) x.1) arr) vals:=by
         rw[Instr.fill,hpl _ _ hfi]
         simp only
         rw[if_neg (by simp[hxs];omega),<-Array.foldl_toList,Array.toList_zipIdx]
        rw[hstep]
        refine zlB fs pl hpl parts vals _ cs' _ (by simpa using hl) (fun j a b ha hb=>hv (j+1) a b (by simpa using ha) (by simpa using hb)) hf ?_ (fun j y hy=>?_) (fun j c y hc hy=>?_)
        ·rw[hfold.1,zev (by omega),ha]
        ·rw[hfold.2 j]at hy
         split at hy
         ·exact g0 _ y (by simpa using hy)
         ·exact h1 _ y hy
        ·rw[hfold.2 j]at hy
         rcases zgL (by omega) hc with ⟨q1,q2,q3⟩|⟨q1,q2⟩
         ·rw[if_pos (by simp;omega)]at hy
          exact g2 _ c y q3 (by simpa using hy)
         ·rw[if_neg (by simp;omega)]at hy
          exact hr _ c y q2 hy
       ·cases hf
def sizes(tab:Tab):List (Nat×TypeId)->Option (List (Nat×Nat))
 | []=>some []
 | (o,t)::r=>match tab.get t,sizes tab r with
   | some i,some l=>some ((o,i.size)::l)
   | _,_=>none
theorem zii(hT:zaA P tab)(w:World):∀(gs:List Field) (fs:List (Nat×Nat)),sizes tab (gs.map fun f=>(f.offset,f.type))=some fs->
  (gs.mapM fun f=>(Functor.map (Prod.mk f.offset) (sizeOf f.type):Sem (Nat×Nat))).run P w= .ok fs w
 | [],fs,h=>by simp[sizes]at h;subst h;rfl
 | g::gs,fs,h=>by
   simp only[qag,sizes]at h
   cases h1:tab.get g.type with
   | none=>rw[h1]at h;cases h
   | some i=>
     rw[h1]at h
     cases h2:sizes tab (gs.map fun f=>(f.offset,f.type)) with
     | none=>rw[h2]at h;cases h
     | some l=>
       rw[h2]at h
       cases h
       have:=zii hT w gs l h2
       simp[qbI,(hT _ i h1).sizeOf,this]
def allT:List SV->Option (List T)
 | []=>some []
 | .t t::r=>(allT r).map (t:: ·)
 | .sl sz es _::r=>(allT r).map (.sl sz es:: ·)
 | _::_=>none
theorem zdJ{m:M}:∀ {cs:List SV} {ts:List T},allT cs=some ts->cs.length=ts.length/\∀(i:Nat) t,ts[i]?=some t->∃c,cs[i]?=some c/\∀y,SRel m c y->TRel m.A m.w t y
 | [],ts,h=>by simp[allT]at h;subst h;simp
 | c::r,ts,h=>by
   have key:∀t0,(∀y,SRel m c y->TRel m.A m.w t0 y)->(allT r).map (t0:: ·)=some ts->(c::r).length=ts.length/\∀(i:Nat) t,ts[i]?=some t->∃c',(c::r)[i]?=some c'/\∀y,SRel m c' y->TRel m.A m.w t y:=by
    intro t0 h0 h
    cases hr:allT r with
    | none=>rw[hr]at h;cases h
    | some us=>
      rw[hr]at h
      cases h
      obtain⟨g1,g2⟩:=zdJ (m:=m) hr
      refine⟨by simp[g1],fun i t ht=>?_⟩
      cases i with
      | zero=>simp at ht;subst ht;exact⟨c,rfl,h0⟩
      | succ i=>simpa using g2 i t (by simpa using ht)
   cases c with
   | t t=>exact key t (fun y hy=>by cases hy with|t _ _ h=>exact h) h
   | sl sz es id=>exact key (.sl sz es) (fun y hy=>by cases hy with|sl _ _ _ _ _ h=>exact h) h
   | _=>simp[allT]at h
def Env.parts(env:Env):List (Nat×Operand)->Option (List (Nat×SV))
 | []=>some []
 | (i,x)::r=>match env.val x,Env.parts env r with
   | some v,some l=>some ((i,v)::l)
   | _,_=>none
theorem ERel.parts{m:M}{ac:Act}(g:ERel m n env ac.tmps):∀(l:List (Nat×Operand)) (ps:List (Nat×SV)),env.parts l=some ps->
  ps.length=(l.map fun x=>(x.1,ac.eval x.2)).length/\∀(i:Nat) a b,ps[i]?=some a->(l.map fun x=>(x.1,ac.eval x.2))[i]?=some b->a.1=b.1/\SRel m a.2 b.2
 | [],ps,h=>by simp[Env.parts]at h;subst h;simp
 | (j,x)::r,ps,h=>by
   simp only[Env.parts]at h
   cases hx:env.val x with
   | none=>rw[hx]at h;cases h
   | some v=>
     rw[hx]at h
     cases hr:env.parts r with
     | none=>rw[hr]at h;cases h
     | some l=>
       rw[hr]at h
       cases h
       obtain⟨g1,g2⟩:=ERel.parts g r l hr
       refine⟨by simpa using g1,fun i a b ha hb=>?_⟩
       cases i with
       | zero=>simp at ha hb;subst ha;subst hb;exact⟨rfl,g.val hx⟩
       | succ i=>exact g2 i a b (by simpa using ha) (by simpa using hb)
theorem zhG(hT:zaA P tab){m:M}{ac:Act}(g:ERel m n env ac.tmps){t:TypeId}{i:TyI}{fs:List (Nat×TypeId)}{fz:List (Nat×Nat)}{parts:Array (Nat×Operand)}{ps:List (Nat×SV)}{cs:List SV}
  (ht:tab.get t=some i)(hk:i.k= .struct fs)(hz:sizes tab fs=some fz)(hp:env.parts parts.toList=some ps)(hc:zeR fz (i.zero.map .t) ps=some cs):
  ∃arr,(∀w',(Instr.build t (parts.map fun(i,x)=>(i,ac.eval x))).run P w'= .ok (.agg arr) w')/\arr.size=cs.length/\(∀(i:Nat) y,arr[i]?=some y->y.oneCell'=true)/\(∀(i:Nat) c y,cs[i]?=some c->arr[i]?=some y->SRel m c y):=by
 obtain⟨gs,hu,hfs⟩:=(hT t i ht).struct hk
 obtain⟨z,hz1,hz2,hz3,_⟩:=(hT t i ht).zero
 obtain⟨q1,q0,q2⟩:=zbW (A:=m.A) (w:=m.w) _ _ hz2
 obtain⟨p1,p2⟩:=g.parts parts.toList ps hp
 obtain⟨arr,r1,r2,r3,r4⟩:=zlB (m:=m) fz (fun j=>fz[j]?) (fun _ _ h=>h) ps _ (i.zero.map .t) cs z.cells p1 p2 hc (by simp[q1]) (fun j y hy=>q0 j y (by simpa using hy)) (fun j c y hj hy=>by
  rw[qar]at hj
  cases hq:i.zero[j]? with
  | none=>rw[hq]at hj;cases hj
  | some u=>rw[hq]at hj;cases hj;exact .t _ _ (q2 j u y hq (by simpa using hy)))
 refine⟨arr,fun w'=>?_,r2,r3,r4⟩
 have hsz:=zii hT w' gs.toList fz (by rw[<-hfs];exact hz)
 have hm:(gs.mapM fun f=>(do pure (f.offset,<-sizeOf f.type):Sem (Nat×Nat))).run P w'= .ok fz.toArray w':=by
  rw[qbZ]
  simp[hsz]
 simp only[Instr.build,Sem.run_bind,hz1,Result.andThen_ok,underlying,run_program,hu,Sem.run_pure,hm,Array.toList_map,List.getElem?_toArray]
 rw[r1]
 rfl
theorem TO.build(hT:zaA P tab){t:TypeId}{i:TyI}{fs:List (Nat×TypeId)}{fz:List (Nat×Nat)}{parts:Array (Nat×Operand)}{ps:List (Nat×SV)}{cs:List SV}(hd:Nat.ble (d+1) n=true)
  (ht:tab.get t=some i)(hk:i.k= .struct fs)(hz:sizes tab fs=some fz)(hp:env.parts parts.toList=some ps)(hc:zeR fz (i.zero.map .t) ps=some cs)
  (k:TO q P n all rest ((d,.ag cs)::env) H K):TO q P n all (⟨some d,.build t parts,ty,pos,aft,none⟩::rest) env H K:=
 TO.op hd (fun m ac h1 h2 h3=>by
  obtain⟨arr,r1,r2,r3,r4⟩:=zhG hT h3 ht hk hz hp hc
  exact⟨_,fun w' _=>by simp only[execOp,Sem.run_bind,r1 w'];rfl,.ag _ _ r2 r3 r4⟩) k
theorem TO.zbr(hT:zaA P tab){t:TypeId}{i:TyI}{fs:List (Nat×TypeId)}{fz:List (Nat×Nat)}{parts:Array (Nat×Operand)}{ps:List (Nat×SV)}{cs:List SV}{ts:List T}(hd:Nat.ble (d+1) n=true)
  (ht:tab.get t=some i)(hk:i.k= .struct fs)(hz:sizes tab fs=some fz)(hp:env.parts parts.toList=some ps)(hc:zeR fz (i.zero.map .t) ps=some cs)(hts:allT cs=some ts)
  (k:TO q P n all rest ((d,.t (.ag ts))::env) H K):TO q P n all (⟨some d,.build t parts,ty,pos,aft,none⟩::rest) env H K:=
 TO.op hd (fun m ac h1 h2 h3=>by
  obtain⟨arr,r1,r2,r3,r4⟩:=zhG hT h3 ht hk hz hp hc
  obtain⟨a1,a2⟩:=zdJ (m:=m) hts
  refine⟨_,fun w' _=>by simp only[execOp,Sem.run_bind,r1 w'];rfl,.t _ _ (.ag _ _ (by omega) r3 fun j t y hj hy=>?_)⟩
  obtain⟨c,hc1,hc2⟩:=a2 j t hj
  exact hc2 y (r4 j c y hc1 hy)) k
end rules
end Go.TL
