import Derived.Test.YtpfnfpaahefdaaaGreatPz
import Derived.WalkKit
import Derived.Deep.Quiet
import Derived.OrdersIn
import Derived.TacticsIn
import Derived.RangeFuncLeaves
import Derived.RangeFuncRecord
set_option linter.all false
namespace Go.TL
open Go
theorem leB{a b:Nat}(h:Nat.ble a b=true:=by exact rfl):a≤b:=qaf h
def gtab(_:Nat):Option (Array Value):=none
theorem zlH(b:Nat)(cs:Array Value):gtab b≠some cs:=fun h=>by cases h
inductive T where
 | v (x:Value)
 | sl (sz:Nat) (es:List T)
 | ag (cs:List T)
instance:Inhabited T:=⟨.v undef⟩
def T.cells:T->List T
 | .ag cs=>cs
 | t=>[t]
abbrev Foot:=Nat->Nat->Prop
inductive TRel (A:Foot) (w:World):T->Value->Prop
 | v (x:Value):TRel A w (.v x) x
 | ag (cs:List T) (arr:Array Value) (hs:arr.size=cs.length) (h1:∀(i:Nat) y,arr[i]?=some y->y.oneCell'=true) (h:∀(i:Nat) c y,cs[i]?=some c->arr[i]?=some y->TRel A w c y):TRel A w (.ag cs) (.agg arr)
 | nil (sz:Nat):TRel A w (.sl sz []) (.slice none 0 0)
 | empty (sz:Nat) (a:Addr):TRel A w (.sl sz []) (.slice (some a) 0 0)
 | sl (sz:Nat) (es:List T) (b off cap:Nat) (f:Nat->Value) (hcap:es.length≤cap)
    (hsz:∀(i:Nat) e,es[i]?=some e->e.cells.length=sz)
    (hA:∀i j,i<es.length->j<sz->A b (off+(i*sz+j)))
    (hw:∀i j,i<es.length->j<sz->w.cell? ⟨b,off+(i*sz+j),none⟩=some (f (i*sz+j)))
    (h1:∀i j,i<es.length->j<sz->(f (i*sz+j)).oneCell'=true)
    (h:∀(i:Nat) e (j:Nat) c,es[i]?=some e->e.cells[j]?=some c->TRel A w c (f (i*sz+j))):TRel A w (.sl sz es) (.slice (some ⟨b,off,none⟩) es.length cap)
structure Place where
 b:Nat
 lo:Nat
 hi:Nat
inductive SV where
 | t (t:T)
 | sl (sz:Nat) (es:List T) (id:Nat)
 | ms (sz:Nat) (id off len:Nat)
 | cp (cs:List T) (off:Nat)
 | ref (id off:Nat)
 | tref (e:TypeId) (n id off:Nat)
 | rw(id len:Nat)
 | mp (id:Nat)
 | yl (id:Nat)
 | ag (cs:List SV)
 | tup (vs:List SV)
 | fn (f:FuncId) (caps:List SV)
 | bnd (f:FuncId) (bs:List SV)
 | ifc (ty:TypeId) (x:SV)
 | any
def SV.cells:SV->List SV
 | .ag cs=>cs
 | .t (.ag cs)=>cs.map .t
 | x=>[x]
inductive Blk where
 | cells (cs:List SV)
 | tail (n:Nat)
 | row (e:TypeId) (cs:List T)
 | map (kt vt:TypeId) (es:List (Value×T))
 | loop (fn:FuncId) (st:LoopState) (pe:Option Code) (n:Nat) (env:List (Nat×SV)) (ps:Array Tmp) (assign body:Code)
 | dead
instance:Inhabited Blk:=⟨.dead⟩
def Blk.obj:Blk->Bool
 | .map .. | .loop .. =>true
 | _=>false
abbrev Heap:=List Blk
def Blk.live:Blk->Bool
 | .dead=>false
 | _=>true
def zob(p:Place)(sz:Nat)(x:Value):Prop:=
 ∃ad len cap,x= .slice ad len cap/\len≤cap/\(match ad with
  | none=>len=0/\cap=0/\p.lo=p.hi
  | some a=>a.block=p.b/\p.lo=a.off+len*sz/\p.hi=a.off+cap*sz/\a.spot=none)
structure M where
 A:Foot
 β:List Place
 H:Heap
 w:World
def tlOf:Option Blk->Option Nat
 | some (.tail n)=>some n
 | some (.row _ cs)=>some cs.length
 | _=>none
def zd9(H:Heap)(id:Nat):Prop:=∀n,tlOf H[id]? ≠some n
def zoX(p:Place)(len:Nat)(x:Value):Prop:=
 ∃ad cap,x= .slice ad len cap/\len≤cap/\p.lo=0/\p.hi=cap/\(match ad with
  | none=>cap=0
  | some a=>a=⟨p.b,0,none⟩/\0<cap)
inductive SRel (m:M):SV->Value->Prop
 | t (t:T) (x:Value) (h:TRel m.A m.w t x):SRel m (.t t) x
 | sl (sz:Nat) (es:List T) (id:Nat) (x:Value) (p:Place) (h:TRel m.A m.w (.sl sz es) x) (hp:m.β[id]?=some p)
    (ho:∀n,tlOf m.H[id]?=some n->es.length≤n/\(es.length=n->zob p sz x)):SRel m (.sl sz es id) x
 | ms (sz id off len cap:Nat) (p:Place) (hp:m.β[id]?=some p) (hn:zd9 m.H id) (hc:len≤cap) (hh:p.lo+off+cap*sz=p.hi):
    SRel m (.ms sz id off len) (.slice (some ⟨p.b,p.lo+off,none⟩) len cap)
 | cp (cs:List T) (off b o:Nat) (f:Nat->Value) (h1:∀j,j<cs.length->(f j).oneCell'=true) (hA:∀j,j<cs.length->m.A b (o+j)) (hw:∀j,j<cs.length->m.w.cell? ⟨b,o+j,none⟩=some (f j))
    (h:∀(j:Nat) c,cs[j]?=some c->TRel m.A m.w c (f j)):SRel m (.cp cs off) (.pointer (some ⟨b,o+off,none⟩))
 | ref (id off:Nat) (p:Place) (hp:m.β[id]?=some p) (hn:zd9 m.H id):SRel m (.ref id off) (.pointer (some ⟨p.b,p.lo+off,none⟩))
 | tref (e:TypeId) (n id off:Nat) (p:Place) (hp:m.β[id]?=some p) (hn:zd9 m.H id) (h0:p.lo=0) (hs:m.w.shape? p.b=some (e,n)):SRel m (.tref e n id off) (.pointer (some ⟨p.b,p.lo+off,none⟩))
 | rw(id len:Nat) (x:Value) (p:Place) (hp:m.β[id]?=some p) (hx:∃ad n c,x= .slice ad n c) (ho:∀n,tlOf m.H[id]?=some n->len≤n/\(len=n->zoX p len x)):SRel m (.rw id len) x
 | mp (id:Nat) (p:Place) (hp:m.β[id]?=some p) (hn:zd9 m.H id):SRel m (.mp id) (.map (some p.b))
 | yl (id:Nat) (p:Place) (hp:m.β[id]?=some p) (hn:zd9 m.H id):SRel m (.yl id) (.func (.yield p.b) #[] #[])
 | ag (cs:List SV) (arr:Array Value) (hs:arr.size=cs.length) (h1:∀(i:Nat) y,arr[i]?=some y->y.oneCell'=true) (h:∀(i:Nat) c y,cs[i]?=some c->arr[i]?=some y->SRel m c y):SRel m (.ag cs) (.agg arr)
 | tup (cs:List SV) (arr:Array Value) (hs:arr.size=cs.length) (h:∀(i:Nat) c y,cs[i]?=some c->arr[i]?=some y->SRel m c y):SRel m (.tup cs) (.tuple arr)
 | fn (f:FuncId) (cs:List SV) (arr:Array Value) (hs:arr.size=cs.length) (h:∀(i:Nat) c y,cs[i]?=some c->arr[i]?=some y->SRel m c y):SRel m (.fn f cs) (.func (.func f) #[] arr)
 | bnd (f:FuncId) (cs:List SV) (arr:Array Value) (hs:arr.size=cs.length) (h:∀(i:Nat) c y,cs[i]?=some c->arr[i]?=some y->SRel m c y):SRel m (.bnd f cs) (.func (.func f) arr #[])
 | ifc (ty:TypeId) (s:SV) (x:Value) (h:SRel m s x):SRel m (.ifc ty s) (.iface ty x)
 | any (x:Value):SRel m .any x
def Own(m:M):Foot:=fun b o=>∃(i:Nat) (p:Place) (k:Blk),m.β[i]?=some p/\m.H[i]?=some k/\k.live=true/\p.b=b/\p.lo≤o/\o<p.hi
def Free(w:World)(b o:Nat):Prop:=(w.cell? ⟨b,o,none⟩).isSome=true/\w.frozen? ⟨b,o,none⟩=false
abbrev Env:=List (Nat×SV)
def Env.look:Env->Nat->Option SV
 | [],_=>none
 | (k,v)::r,i=>bif Nat.beq k i then some v else Env.look r i
def ERel(m:M)(n:Nat)(env:Env)(tmps:Array Value):Prop:=
 tmps.size=n/\∀i v,env.look i=some v->∃x,tmps[i]?=some x/\SRel m v x
def zgR(m:M)(p:Place):Blk->Prop
 | .cells cs=>p.lo+cs.length≤p.hi/\(∀o,p.lo≤o->o<p.hi->Free m.w p.b o)/\∀(j:Nat) c,cs[j]?=some c->∃y,m.w.cell? ⟨p.b,p.lo+j,none⟩=some y/\y.oneCell'=true/\SRel m c y
 | .tail _=>∀o,p.lo≤o->o<p.hi->Free m.w p.b o
 | .row e cs=>(p.lo=0/\cs.length≤p.hi/\(0<p.hi->m.w.shape? p.b=some (e,p.hi)))/\(∀o,p.lo≤o->o<p.hi->Free m.w p.b o)/\∀(j:Nat) c,cs[j]?=some c->∃y,m.w.cell? ⟨p.b,p.lo+j,none⟩=some y/\y.oneCell'=true/\TRel m.A m.w c y
 | .map _ _ es=>p.lo=0/\p.hi=1/\∃(a:Array MapEntry) (clock:Nat),m.w.heap[p.b]?=some (.map a clock)/\a.size=es.length/\
    ∀(i:Nat) k t (e:MapEntry),es[i]?=some (k,t)->a[i]?=some e->e.key=k/\TRel m.A m.w t e.val/\e.born<clock
 | .loop fn st pe n env ps assign body=>p.lo=0/\p.hi=1/\∃L:Loop,m.w.heap[p.b]?=some (.loop L)/\(L.fn=fn/\L.state=st/\L.pending=pe/\L.params=ps/\L.assign=assign/\L.body=body)/\ERel m n env L.tmps
 | .dead=>True
def Place.apart(p q:Place):Prop:=p.b=q.b->p.hi≤q.lo\/q.hi≤p.lo\/p.hi≤p.lo\/q.hi≤q.lo
def Glob(A:Foot)(w:World):Prop:=∀b cs,gtab b=some cs->(∀o,A b o)/\∃e f,w.heap[b]?=some (.cells cs e f)
structure HRel (m:M):Prop where
 len:m.β.length=m.H.length
 blk:∀(i:Nat) p k,m.β[i]?=some p->m.H[i]?=some k->zgR m p k
 apart:∀(i j:Nat) p q k l,i≠j->m.β[i]?=some p->m.H[i]?=some k->m.β[j]?=some q->m.H[j]?=some l->k.live=true->l.live=true->p.apart q
 still:∀b o,m.A b o->¬Own m b o
 inA:∀b o,m.A b o->b<m.w.heap.size
 inO:∀(i:Nat) p k,m.β[i]?=some p->m.H[i]?=some k->k.live=true->p.lo<p.hi->p.b<m.w.heap.size
 glob:Glob m.A m.w
def zaU(h h':Option Blk)(p p':Place):Prop:=
 match tlOf h with
 | some n=>∀n',tlOf h'=some n'->n≤n'/\(n=n'->p'=p)
 | none=>p'=p/\∀n',tlOf h'≠some n'
structure Step (m m':M):Prop where
 os:m'.w.os=m.w.os
 tape:m'.w.tape=m.w.tape
 output:m'.w.output=m.w.output
 size:m.w.heap.size≤m'.w.heap.size
 more:∀b o,m.A b o->m'.A b o
 fromA:∀b o,m'.A b o->m.A b o\/Own m b o\/m.w.heap.size≤b
 fromO:∀b o,Own m' b o->Own m b o\/m.w.heap.size≤b
 cell:∀b o,b<m.w.heap.size->¬Own m b o->m'.w.cell? ⟨b,o,none⟩=m.w.cell? ⟨b,o,none⟩
 frozen:∀b o,b<m.w.heap.size->¬Own m b o->(m.w.cell? ⟨b,o,none⟩).isSome=true->m'.w.frozen? ⟨b,o,none⟩=m.w.frozen? ⟨b,o,none⟩
 block:∀b,b<m.w.heap.size->(∀o,¬Own m b o)->m'.w.heap[b]?=m.w.heap[b]?
 shape:∀b s,m.w.shape? b=some s->m'.w.shape? b=some s
 loop:∀(b:Nat) (L:Loop),m.w.heap[b]?=some (Obj.loop L)->∃L':Loop,m'.w.heap[b]?=some (Obj.loop L')
 isSome:∀b o,b<m.w.heap.size->(m.w.cell? ⟨b,o,none⟩).isSome=true->(m'.w.cell? ⟨b,o,none⟩).isSome=true
 ids:∀(i:Nat) p,m.β[i]?=some p->∃p',m'.β[i]?=some p'/\zaU m.H[i]? m'.H[i]? p p'
inductive zdd where
 | normal
 | exit (id:Nat)
 | ret
 | panic (v:SV)
def za5(m:M):zdd->Exit->Prop
 | .normal,.normal=>True
 | .exit i,.exit j=>i=j
 | .ret,.ret=>True
 | .panic v,.panic ch=>∃x,ch=[{ v:=x,recovered:=false }]/\SRel m v x
 | _,_=>False
abbrev TK:=zdd->Env->Heap->Prop
structure Fm where
 r:Option Nat
 s0:Nat
 ds:List Deferred
def mark(k:Nat):Deferred:={ target:=.collected k,args:=#[] }
def zck(φ:Fm)(w:World)(l:List Deferred):Prop:=
 (∃ks:List Nat,l=ks.map mark++φ.ds/\(φ.r.isSome=true->ks=[])/\ks.Nodup/\∀k∈ks,φ.s0≤k/\w.heap[k]?=some (.deferred (some [])))/\(φ.s0≤w.heap.size)/\
   ∀l,φ.r=some l->∃L:Loop,w.heap[l]?=some (Obj.loop L)
abbrev Fr (r:Option Nat):Fence:={ Fence.wide with round:=r }
def Code.wpr(P:Program)(r:Option Nat)(c:Code)(Q:Exit->Act->World->Prop)(a:Act)(w:World):Prop:=
 ∀(b:Frame) (k:List Item) (cs:List Frame),b.roundOf=r->(P.funcs[b.fn]?).isSome=true->
  ∃e a' w',Q e a' w'/\ArrivesIn (fun _=>True) P (lone (b.atR a (.code c::k)) cs w) b k cs e a' w'
def Post(φ:Fm)(m:M)(n:Nat)(K:TK)(e:Exit)(a:Act)(w:World):Prop:=
 ∃(m':M) (env:Env) (te:zdd),m'.w=w/\Step m m'/\HRel m'/\ERel m' n env a.tmps/\zck φ m'.w a.defers/\za5 m' te e/\K te env m'.H
def TR(P:Program)(n:Nat)(c:Code)(env:Env)(H:Heap)(K:TK):Prop:=
 ∀(φ:Fm) (m:M) (a:Act),m.H=H->HRel m->ERel m n env a.tmps->zck φ m.w a.defers->Code.wpr P φ.r c (Post φ m n K) a m.w
structure Keeps (w w':World):Prop where
 os:w'.os=w.os
 tape:w'.tape=w.tape
 output:w'.output=w.output
 size:w.heap.size≤w'.heap.size
 block:∀b,b<w.heap.size->w'.heap[b]?=w.heap[b]?
def TO(q:Bool)(P:Program)(n:Nat)(all:Array Oper)(ops:List Oper)(env:Env)(H:Heap)(K:TK):Prop:=
 ∀(φ:Fm) (m:M) (a:Act),m.H=H->HRel m->ERel m n env a.tmps->zck φ m.w a.defers->
  match q with
  | false=>wpListIn (Fr φ.r) 0 P all (Post φ m n K) ops a m.w
  | true=>wpQuiet P all (Keeps m.w) (fun a'=>∃env',ERel m n env' a'.tmps/\zck φ m.w a'.defers/\K .normal env' m.H) ops a
inductive Res where
 | ret (v:SV)
 | panic (v:SV)
def zbQ(m:M):Res->Ending->Prop
 | .ret v,.returned x=>SRel m v x
 | .panic v,.panicked ch=>∃x,ch=[{ v:=x,recovered:=false }]/\SRel m v x
 | _,_=>False
def ARel(m:M)(args:List SV)(vs:Array Value):Prop:=vs.size=args.length/\∀(i:Nat) s x,args[i]?=some s->vs[i]?=some x->SRel m s x
def Callable(P:Program)(f:FuncId):Prop:=∃fn,P.funcs[f]?=some fn/\(fn.name == "runtime.NumGoroutine")=false/\fn.body.isNone=false
def Sound(P:Program)(f:FuncId)(args:List SV)(H:Heap)(R:Res->Heap->Prop):Prop:=
 Callable P f/\∀(m:M) (vs:Array Value),m.H=H->HRel m->ARel m args vs->Calls P f vs m.w fun e w'=>∃(m':M) (r:Res),m'.w=w'/\Step m m'/\HRel m'/\zbQ m' r e/\R r m'.H
theorem TRel.mono{A A':Foot}{w w':World}(hA:∀b o,A b o->A' b o)(hw:∀b o,A b o->w'.cell? ⟨b,o,none⟩=w.cell? ⟨b,o,none⟩):
  ∀ {t:T} {x:Value},TRel A w t x->TRel A' w' t x:=by
 intro t x h
 induction h with
 | v x=>exact .v x
 | ag cs arr hs h1 _ ih=>exact .ag cs arr hs h1 ih
 | nil sz=>exact .nil sz
 | empty sz a=>exact .empty sz a
 | sl sz es b off cap f hcap hsz hA' hw' h1 _ ih=>
   exact .sl sz es b off cap f hcap hsz (fun i j hi hj=>hA _ _ (hA' i j hi hj)) (fun i j hi hj=>by rw[hw _ _ (hA' i j hi hj)];exact hw' i j hi hj) h1 ih
theorem Step.Acell{m m':M}(hm:HRel m)(s:Step m m')(b o:Nat)(h:m.A b o):m'.w.cell? ⟨b,o,none⟩=m.w.cell? ⟨b,o,none⟩:=
 s.cell b o (hm.inA b o h) (hm.still b o h)
theorem Step.glob{m m':M}(hm:HRel m)(s:Step m m'):Glob m'.A m'.w:=fun b cs h=>by
 obtain⟨g1,e,f,g2⟩:=hm.glob b cs h
 exact⟨fun o=>s.more b o (g1 o),e,f,by rw[s.block b (qah.1 g2).1 fun o=>hm.still b o (g1 o)];exact g2⟩
theorem Step.trel{m m':M}(hm:HRel m)(s:Step m m'){t:T}{x:Value}(h:TRel m.A m.w t x):TRel m'.A m'.w t x:=
 h.mono s.more (s.Acell hm)
theorem zaU.zch{h h':Option Blk}{p p':Place}(s:zaU h h' p p')(hn:∀n,tlOf h≠some n):p'=p/\∀n,tlOf h'≠some n:=by
 unfold zaU at s
 split at s
 ·rename_i n e;exact absurd e (hn n)
 ·exact s
theorem zaU.trans{a b c:Option Blk}{p q r:Place}(h:zaU a b p q)(k:zaU b c q r)(hb:∀n,tlOf a=some n->(∀n',tlOf b≠some n')->∀n',tlOf c≠some n'):zaU a c p r:=by
 unfold zaU at h⊢
 split at h
 ·rename_i n e
  intro n' hc
  by_cases hx:∃n1,tlOf b=some n1
  ·obtain⟨n1,hn1⟩:=hx
   simp only[zaU,hn1]at k
   have h1:=h n1 hn1
   have h2:=k n' hc
   refine⟨by omega,fun e=>?_⟩
   rw[h2.2 (by omega),h1.2 (by omega)]
  ·exact absurd hc (hb n e (fun n' e=>hx ⟨n',e⟩) n')
 ·have h2:=k.zch h.2
  exact⟨by rw[h2.1,h.1],h2.2⟩
theorem Step.srel{m m':M}(hm:HRel m)(s:Step m m'):∀ {v:SV} {x:Value},SRel m v x->SRel m' v x:=by
 intro v x h
 induction h with
 | t t x h=>exact .t t x (s.trel hm h)
 | sl sz es id x p h hp ho=>
   obtain⟨p',hp',hi⟩:=s.ids id p hp
   refine .sl sz es id x p' (s.trel hm h) hp' fun n hn=>?_
   unfold zaU at hi
   split at hi
   ·exact zwco
   ·exact absurd hn (hi.2 n)
 | rw id len x p hp hx ho=>
   obtain⟨p',hp',hi⟩:=s.ids id p hp
   refine .rw id len x p' hp' hx fun n hn=>?_
   unfold zaU at hi
   split at hi
   ·exact zwco
   ·exact absurd hn (hi.2 n)
 | tref e n id off p hp hn h0 hs=>
   obtain⟨p',hp',hi⟩:=s.ids id p hp
   obtain⟨rfl,h2⟩:=hi.zch hn
   exact .tref e n id off p' hp' h2 h0 (s.shape _ _ hs)
 | ms sz id off len cap p hp hn hc hh=>
   obtain⟨p',hp',hi⟩:=s.ids id p hp
   obtain⟨rfl,h2⟩:=hi.zch hn
   exact .ms sz id off len cap p' hp' h2 hc hh
 | cp cs off b o f h1 hA hw h=>
   exact .cp cs off b o f h1 (fun j hj=>s.more _ _ (hA j hj)) (fun j hj=>by rw[s.Acell hm _ _ (hA j hj)];exact hw j hj) (fun j c hc=>s.trel hm (h j c hc))
 | ref id off p hp hn=>
   obtain⟨p',hp',hi⟩:=s.ids id p hp
   obtain⟨rfl,h2⟩:=hi.zch hn
   exact .ref id off p' hp' h2
 | mp id p hp hn=>
   obtain⟨p',hp',hi⟩:=s.ids id p hp
   obtain⟨rfl,h2⟩:=hi.zch hn
   exact .mp id p' hp' h2
 | yl id p hp hn=>
   obtain⟨p',hp',hi⟩:=s.ids id p hp
   obtain⟨rfl,h2⟩:=hi.zch hn
   exact .yl id p' hp' h2
 | ag cs arr hs h1 _ ih=>exact .ag cs arr hs h1 ih
 | tup cs arr hs _ ih=>exact .tup cs arr hs ih
 | fn f cs arr hs _ ih=>exact .fn f cs arr hs ih
 | bnd f cs arr hs _ ih=>exact .bnd f cs arr hs ih
 | ifc ty s x _ ih=>exact .ifc ty s x ih
 | any x=>exact .any x
theorem zaU.refl(h:Option Blk)(p:Place):zaU h h p p:=by
 unfold zaU
 split
 ·rename_i n h0;intro n' e;rw[h0]at e;cases e;exact⟨qae _,fun _=>rfl⟩
 ·rename_i hn;exact⟨rfl,fun n e=>by rw[hn]at e;cases e⟩
theorem Step.refl(m:M):Step m m:=
 ⟨rfl,rfl,rfl,qae _,fun _ _ h=>h,fun _ _ h=>.inl h,fun _ _ h=>.inl h,fun _ _ _ _=>rfl,fun _ _ _ _ _=>rfl,fun _ _ _=>rfl,fun _ _ h=>h,fun _ L h=>⟨L,h⟩,fun _ _ _ h=>h,fun i p hp=>⟨p,hp,zaU.refl _ _⟩⟩
theorem Step.trans{a b c:M}(h:Step a b)(k:Step b c):Step a c where
 os:=k.os.trans h.os
 tape:=k.tape.trans h.tape
 output:=k.output.trans h.output
 size:=qbg h.size k.size
 more:=fun x o hx=>k.more _ _ (h.more _ _ hx)
 fromA:=fun x o hx=>by
  exact zwbn
 fromO:=fun x o hx=>by
  exact zwea
 cell:=fun x o hx hn=>by
  exact zwcq
 frozen:=fun x o hx hn hc=>by
  exact zwcd
 block:=fun x hx hn=>by
  exact zwcp
 shape:=fun b s hs=>k.shape b s (h.shape b s hs)
 loop:=fun b L hL=>let ⟨L1,h1⟩:=h.loop b L hL;k.loop b L1 h1
 isSome:=fun x o hx hs=>k.isSome x o (qaL hx h.size) (h.isSome x o hx hs)
 ids:=fun i p hp=>by
  obtain⟨p1,hp1,h1⟩:=h.ids i p hp
  obtain⟨p2,hp2,h2⟩:=k.ids i p1 hp1
  exact zwfc
theorem Env.zaD(i:Nat)(v:SV)(r:Env):Env.look ((i,v)::r) i=some v:=by simp[Env.look]
theorem Env.zat{i j:Nat}(v:SV)(r:Env)(h:j≠i):Env.look ((j,v)::r) i=r.look i:=by
 have:Nat.beq j i=false:=by
  cases hb:Nat.beq j i with
  | false=>rfl
  | true=>exact absurd (qaS hb) h
 simp[Env.look,this]
theorem ERel.step{m m':M}{n:Nat}{env:Env}{tmps:Array Value}(h:ERel m n env tmps)(hm:HRel m)(s:Step m m'):ERel m' n env tmps:=
 ⟨h.1,fun i v hv=>let ⟨x,h1,h2⟩:=h.2 i v hv;⟨x,h1,s.srel hm h2⟩⟩
theorem ERel.put{m:M}{n:Nat}{env:Env}{a:Act}{v:SV}{x:Value}(d:Nat)(h:ERel m n env a.tmps)(hd:d<n)(hv:SRel m v x):ERel m n ((d,v)::env) (a.put (some d) x).tmps:=by
 refine⟨by simp[Act.put,h.1],fun i u hu=>?_⟩
 by_cases hi:d=i
 ·subst hi
  rw[Env.zaD]at hu
  cases hu
  exact⟨x,by simp[Act.put,h.1,hd],hv⟩
 ·rw[Env.zat _ _ hi]at hu
  obtain⟨y,h1,h2⟩:=h.2 i u hu
  exact⟨y,by simp[Act.put,qaC,hi,h1],h2⟩
theorem ERel.sub{m:M}{n:Nat}{env env':Env}{tmps:Array Value}(h:ERel m n env tmps)(hs:∀i v,env'.look i=some v->env.look i=some v):ERel m n env' tmps:=
 ⟨h.1,fun i v hv=>h.2 i v (hs i v hv)⟩
def Env.sub(env:Env):Env->Prop
 | []=>True
 | (i,v)::r=>env.look i=some v/\Env.sub env r
theorem Env.zhk{env:Env}:∀ {env':Env},env.sub env'->∀i v,env'.look i=some v->env.look i=some v
 | [],_,i,v,h=>by simp[Env.look]at h
 | (k,u)::r,hs,i,v,h=>by
   by_cases hi:k=i
   ·subst hi
    rw[Env.zaD]at h
    cases h
    exact hs.1
   ·rw[Env.zat _ _ hi]at h
    exact Env.zhk hs.2 i v h
section wpr
variable {P:Program}{r:Option Nat}{Q Q':Exit->Act->World->Prop}{a:Act}{w:World}
theorem zeL{I I':Machine->Prop}{m:Machine}{b:Frame}{k:List Item}{cs:List Frame}{e:Exit}(hI:∀m,I m->I' m)(h:ArrivesIn I P m b k cs e a w):ArrivesIn I' P m b k cs e a w:=by
 cases e with
 | normal=>exact StepsIn.mono hI h
 | exit id=>exact⟨fun k' hk=>(h.1 k' hk).mono hI,fun hr hk=>let ⟨k₁,h1,h2⟩:=h.2 hr hk;⟨k₁,h1,h2.mono hI⟩⟩
 | goto l=>exact⟨fun k' hk=>(h.1 k' hk).mono hI,fun hr hk=>let ⟨k₁,h1,h2⟩:=h.2 hr hk;⟨k₁,h1,h2.mono hI⟩⟩
 | ret=>exact⟨fun hr=>let ⟨t,h1⟩:=h.1 hr;⟨t,h1.mono hI⟩,fun hr=>let ⟨t,h1⟩:=h.2 hr;⟨t,h1.mono hI⟩⟩
 | panic ch=>obtain⟨t,h1⟩:=h;exact⟨t,StepsIn.mono hI h1⟩
 | outgrown=>exact h
theorem zbC{c:Code}(h:c.wpIn (Fr r) 0 P Q a w):Code.wpr P r c Q a w:=by
 intro b k cs hro hfn
 obtain⟨e,a',w',h1,h2⟩:=h b k cs hro trivial (room_wide _)
 exact⟨e,a',w',h1,zeL (fun _ _=>trivial) h2⟩
theorem za4{c:Code}(h:Code.wpr P r c Q a w)(hq:∀e a w,Q e a w->Q' e a w):Code.wpr P r c Q' a w:=
 fun b k cs h1 h2=>let ⟨e,a',w',q,s⟩:=h b k cs h1 h2;⟨e,a',w',hq _ _ _ q,s⟩
theorem zjk{x y:Code}(h:Code.wpr P r x (Exit.then (Code.wpr P r y Q) Q) a w):Code.wpr P r (.seq x y) Q a w:=by
 intro b k cs hro hfn
 obtain⟨e,a1,w1,hq,harr⟩:=h b (.code y::k) cs hro hfn
 have go:∀(e:Exit),e≠ .normal->Q e a1 w1->ArrivesIn (fun _=>True) P (lone (b.atR a (.code x:: .code y::k)) cs w) b (.code y::k) cs e a1 w1->
   ∃e a' w',Q e a' w'/\ArrivesIn (fun _=>True) P (lone (b.atR a (.code (.seq x y)::k)) cs w) b k cs e a' w':=fun e he hq harr=>
  ⟨e,a1,w1,hq,.of_steps (.one trivial stepR_seq) (.pass (x:=.code y) rfl (fun _ _=>.inl he) harr)⟩
 cases e with
 | normal=>
   obtain⟨e2,a2,w2,hq2,harr2⟩:=hq b k cs hro hfn
   exact⟨e2,a2,w2,hq2,.of_steps (.head trivial stepR_seq harr) harr2⟩
 | exit id=>exact go _ (by simp) hq harr
 | goto l=>exact go _ (by simp) hq harr
 | ret=>exact go _ (by simp) hq harr
 | panic ch=>exact go _ (by simp) hq harr
 | outgrown=>exact go _ (by simp) hq harr
theorem zgl{c:Operand}{x y:Code}{t:Bool}(hc:a.eval c= .bool t)(ht:t=true->Code.wpr P r x Q a w)(hf:t=false->Code.wpr P r y Q a w):Code.wpr P r (.cond c x y) Q a w:=by
 intro b k cs hro hfn
 have h:Code.wpr P r (if t then x else y) Q a w:=by
  cases t
  ·exact hf rfl
  ·exact ht rfl
 obtain⟨e,a',w',q,s⟩:=h b k cs hro hfn
 exact⟨e,a',w',q,.of_steps (.one trivial (stepR_cond hc)) s⟩
theorem zmH{id:Nat}{c:Code}(h:Code.wpr P r c (Exit.inBlock id Q) a w):Code.wpr P r (.block id c) Q a w:=by
 intro b k cs hro hfn
 obtain⟨e,a1,w1,hq,harr⟩:=h b (.inBlock id::k) cs hro hfn
 have s0:StepsIn (fun _=>True) P (lone (b.atR a (.code (.block id c)::k)) cs w) (lone (b.atR a (.code c:: .inBlock id::k)) cs w):=.one trivial stepR_block
 cases e with
 | normal=>exact⟨.normal,a1,w1,hq,s0.trans (StepsIn.trans harr (.one trivial stepR_inBlock))⟩
 | exit id'=>
   by_cases hid:id'=id
   ·simp only[Exit.inBlock,hid,if_true]at hq
    exact⟨.normal,a1,w1,hq,s0.trans (harr.1 k (by simp[exitTo,hid]))⟩
   ·simp only[Exit.inBlock,hid,if_false]at hq
    have hb:(id == id')=false:=by simp;exact fun h=>hid h.symm
    have hx:exitTo id' (.inBlock id::k)=exitTo id' k:=by simp[exitTo,hb]
    exact⟨.exit id',a1,w1,hq,fun k' hk=>s0.trans (harr.1 k' (by rw[hx];exact hk)),fun hr hk=>let ⟨k1,q1,q2⟩:=harr.2 hr (by rw[hx];exact hk);⟨k1,q1,s0.trans q2⟩⟩
 | goto l=>
   have hx:gotoIn l (.inBlock id::k)=gotoIn l k:=by simp[gotoIn]
   exact⟨.goto l,a1,w1,hq,fun k' hk=>s0.trans (harr.1 k' (by rw[hx];exact hk)),fun hr hk=>let ⟨k1,q1,q2⟩:=harr.2 hr (by rw[hx];exact hk);⟨k1,q1,s0.trans q2⟩⟩
 | ret=>exact⟨.ret,a1,w1,hq,.of_steps s0 harr⟩
 | panic ch=>exact⟨.panic ch,a1,w1,hq,.of_steps (e:=.panic ch) s0 harr⟩
 | outgrown=>exact⟨.outgrown,a1,w1,hq,.of_steps (e:=.outgrown) (b:=b) (k:=k) (cs:=cs) s0 harr⟩
end wpr
section rules
variable {P:Program}{n:Nat}{env:Env}{H:Heap}{K:TK}
theorem Post.step{φ:Fm}{m m':M}{K:TK}(s:Step m m'){e:Exit}{a:Act}{w:World}(h:Post φ m' n K e a w):Post φ m n K e a w:=
 let ⟨m2,env2,te,h1,h2,h3⟩:=h;⟨m2,env2,te,h1,s.trans h2,h3⟩
theorem Post.mono{φ:Fm}{m:M}{K K':TK}(hk:∀te env H,K te env H->K' te env H){e:Exit}{a:Act}{w:World}(h:Post φ m n K e a w):Post φ m n K' e a w:=
 let ⟨m2,env2,te,h1,h2,h3,h4,h5,h6,h7⟩:=h;⟨m2,env2,te,h1,h2,h3,h4,h5,h6,hk _ _ _ h7⟩
theorem TR.mono{c:Code}{K':TK}(h:TR P n c env H K)(hk:∀te env H,K te env H->K' te env H):TR P n c env H K':=
 fun φ m a h1 h2 h3 h4=>za4 (h φ m a h1 h2 h3 h4) fun _ _ _ hp=>hp.mono hk
theorem TR.sub{c:Code}(env':Env)(hs:env.sub env')(h:TR P n c env' H K):TR P n c env H K:=
 fun φ m a h1 h2 h3 h4=>h φ m a h1 h2 (h3.sub (Env.zhk hs)) h4
theorem TR.skip(h:K .normal env H):TR P n .skip env H K:=
 fun φ m a h1 h2 h3 h4=>zbC (wpIn_skip ⟨m,env,.normal,rfl,.refl m,h2,h3,h4,trivial,h1 ▸ h⟩)
theorem TR.exit{id:Nat}(h:K (.exit id) env H):TR P n (.exit id) env H K:=
 fun φ m a h1 h2 h3 h4=>zbC (wpIn_exit ⟨m,env,.exit id,rfl,.refl m,h2,h3,h4,rfl,h1 ▸ h⟩)
theorem TR.ret(h:K .ret env H):TR P n .ret env H K:=
 fun φ m a h1 h2 h3 h4=>zbC (wpIn_ret ⟨m,env,.ret,rfl,.refl m,h2,h3,h4,trivial,h1 ▸ h⟩)
def Then(P:Program)(n:Nat)(c:Code)(K:TK):TK
 | .normal,env,H=>TR P n c env H K
 | e,env,H=>K e env H
theorem za5.normal{m:M}{te:zdd}(h:za5 m te .normal):te= .normal:=by
 cases te <;> simp[za5]at h;rfl
theorem Post.then{φ:Fm}{m:M}{c:Code}{e:Exit}{a:Act}{w:World}(h:Post φ m n (Then P n c K) e a w):Exit.then (Code.wpr P φ.r c (Post φ m n K)) (Post φ m n K) e a w:=by
 obtain⟨m2,env2,te,h1,h2,h3,h4,h5,h6,h7⟩:=h
 cases e with
 | normal=>
   cases za5.normal h6
   show Code.wpr P φ.r c (Post φ m n K) a w
   rw[<-h1]
   exact za4 (h7 φ m2 a rfl h3 h4 h5) fun _ _ _ hp=>hp.step h2
 | _=>
   refine⟨m2,env2,te,h1,h2,h3,h4,h5,h6,?_⟩
   cases te <;> simp[za5]at h6 <;> exact h7
theorem TR.seq{x y:Code}(h:TR P n x env H (Then P n y K)):TR P n (.seq x y) env H K:=
 fun φ m a h1 h2 h3 h4=>zjk (za4 (h φ m a h1 h2 h3 h4) fun _ _ _ hp=>hp.then)
def Env.val(env:Env):Operand->Option SV
 | .tmp i=>env.look i
 | .const (.agg _)=>none
 | .const v=>some (.t (.v v))
 | .func f=>some (.fn f [])
 | .global _=>none
theorem ERel.val{m:M}{a:Act}(h:ERel m n env a.tmps){x:Operand}{v:SV}(hx:env.val x=some v):SRel m v (a.eval x):=by
 cases x with
 | tmp i=>
   obtain⟨y,h1,h2⟩:=h.2 i v hx
   simp only[Act.eval]
   rw[qa0,h1]
   exact h2
 | const c=>
   have:v= .t (.v c):=by cases c <;> simp[Env.val]at hx <;> exact hx.symm
   subst this
   exact .t _ _ (.v c)
 | func f=>
   simp only[Env.val,qaB]at hx
   subst hx
   exact .fn f [] #[] rfl (by simp)
 | global g=>simp[Env.val]at hx
theorem SRel.v_eq{m:M}{x y:Value}(h:SRel m (.t (.v x)) y):y=x:=by
 cases h with
 | t _ _ h=>cases h;rfl
theorem TR.cond{c:Operand}{x y:Code}{b:Bool}(hc:env.val c=some (.t (.v (.bool b))))(ht:b=true->TR P n x env H K)(hf:b=false->TR P n y env H K):
  TR P n (.cond c x y) env H K:=
 fun φ m a h1 h2 h3 h4=>zgl (h3.val hc).v_eq (fun e=>ht e φ m a h1 h2 h3 h4) (fun e=>hf e φ m a h1 h2 h3 h4)
def zac(id:Nat)(K:TK):TK
 | .exit j,env,H=>if j=id then K .normal env H else K (.exit j) env H
 | e,env,H=>K e env H
theorem TR.block{id:Nat}{c:Code}(h:TR P n c env H (zac id K)):TR P n (.block id c) env H K:=by
 intro φ m a h1 h2 h3 h4
 refine zmH (za4 (h φ m a h1 h2 h3 h4) ?_)
 rintro e a' w' ⟨m2,env2,te,g1,g2,g3,g4,g5,g6,g7⟩
 cases te with
 | exit j=>
   cases e <;> simp[za5]at g6
   subst g6
   simp only[Exit.inBlock]
   simp only[zac]at g7
   split
   ·rename_i hj;rw[if_pos hj]at g7;exact⟨m2,env2,.normal,g1,g2,g3,g4,g5,trivial,g7⟩
   ·rename_i hj;rw[if_neg hj]at g7;exact⟨m2,env2,.exit j,g1,g2,g3,g4,g5,rfl,g7⟩
 | normal=>cases e <;> simp[za5]at g6;exact⟨m2,env2,.normal,g1,g2,g3,g4,g5,trivial,g7⟩
 | ret=>cases e <;> simp[za5]at g6;exact⟨m2,env2,.ret,g1,g2,g3,g4,g5,trivial,g7⟩
 | panic v=>
   cases e with
   | panic ch=>exact⟨m2,env2,.panic v,g1,g2,g3,g4,g5,g6,g7⟩
   | _=>simp[za5]at g6
theorem Steps.behind{m1 m2 t:Machine}(h:step P m1= .next m2)(s:Steps P m1 t)(hne:t≠m1):Steps P m2 t:=by
 obtain⟨k,hk⟩:=s
 cases k with
 | zero=>simp only[runN,Stepped.next.injEq]at hk;exact absurd hk.symm hne
 | succ k=>simp only[runN,h]at hk;exact⟨k,hk⟩
theorem zcT{m1 m2 t:Machine}(h:step P m1= .next m2)(s:StepsIn (fun _=>True) P m1 t)(hne:t≠m1):StepsIn (fun _=>True) P m2 t:=
 steps_iff.1 (Steps.behind h (steps_iff.2 s) hne)
theorem zcJ{id:Nat}:∀ {k k':List Item},exitTo id k=some k'->k'.length≤k.length
 | [],_,h=>by simp[exitTo]at h
 | x::r,k',h=>by
   cases x <;> simp only[exitTo]at h <;> first
    | (split at h
       ·cases h;simp
       ·have:=zcJ h;simp;omega)
    | (have:=zcJ h;simp;omega)
    | (cases h)
theorem zcB{b:Frame}{a a':Act}{k k':List Item}{cs:List Frame}{w w':World}(h:lone (b.atR a k) cs w=lone (b.atR a' k') cs w'):k=k':=by
 simp only[lone,Machine.mk.injEq,Frame.atR]at h
 have h1:=h.2.1
 simp at h1
 exact h1.2.1
theorem TR.loop{c:Code}(h:TR P n c env H (Then P n (.loop c) K)):TR P n (.loop c) env H K:=by
 intro φ m a h1 h2 h3 h4
 have h':Code.wpr P φ.r c (Exit.then (Code.wpr P φ.r (Code.loop c) (Post φ m n K)) (Post φ m n K)) a m.w:=za4 (h φ m a h1 h2 h3 h4) fun _ _ _ hp=>hp.then
 intro b k cs hro hfn
 obtain⟨e,a',w',hq,harr⟩:=h' b (.inLoop c::k) cs hro hfn
 have pass:∀(e:Exit),e≠ .normal->Post φ m n K e a' w'->ArrivesIn (fun _=>True) P (lone (b.atR a (.code c:: .inLoop c::k)) cs m.w) b (.inLoop c::k) cs e a' w'->
   ∃e a' w',Post φ m n K e a' w'/\ArrivesIn (fun _=>True) P (lone (b.atR a (.code (.loop c)::k)) cs m.w) b k cs e a' w':=fun e he hq harr=>
  ⟨e,a',w',hq,.of_steps (.one trivial stepR_loop) (.pass (x:=.inLoop c) rfl (fun _ _=>.inl he) harr)⟩
 cases e with
 | normal=>
   obtain⟨e2,a2,w2,hq2,harr2⟩:=hq b k cs hro hfn
   refine⟨e2,a2,w2,hq2,?_⟩
   have s1:StepsIn (fun _=>True) P (lone (b.atR a (.code (.loop c)::k)) cs m.w) (lone (b.atR a' (.code c:: .inLoop c::k)) cs w'):=
    StepsIn.trans (.one trivial stepR_loop) (StepsIn.trans harr (.one trivial stepR_inLoop))
   have hs:step P (lone (b.atR a' (.code (.loop c)::k)) cs w')= .next (lone (b.atR a' (.code c:: .inLoop c::k)) cs w'):=stepR_loop
   obtain⟨m2,env2,te,_,_,_,_,_,g6,_⟩:=hq2
   cases e2 with
   | normal=>exact s1.trans (zcT hs harr2 fun he=>by have:=congrArg List.length (zcB he);simp at this)
   | exit id=>exact⟨fun k' hk=>s1.trans (zcT hs (harr2.1 k' hk) fun he=>by have:=congrArg List.length (zcB he);have:=zcJ hk;simp at *;omega),fun hr hk=>by
      obtain⟨k1,q1,q2⟩:=harr2.2 hr hk
      exact⟨k1,q1,s1.trans (zcT hs q2 fun he=>by have:=zcB he;simp at this)⟩⟩
   | ret=>
     refine⟨fun hr=>?_,fun hr=>?_⟩
     ·exact zwdg
     ·exact zwdd
   | panic ch=>
     obtain⟨todo,hst⟩:=harr2
     exact⟨todo,s1.trans (zcT hs hst fun he=>by simp[lone,Frame.atR]at he)⟩
   | goto l=>cases te <;> simp[za5]at g6
   | outgrown=>cases te <;> simp[za5]at g6
 | exit id=>exact pass _ (by simp) hq harr
 | goto l=>exact pass _ (by simp) hq harr
 | ret=>exact pass _ (by simp) hq harr
 | panic ch=>exact pass _ (by simp) hq harr
 | outgrown=>exact pass _ (by simp) hq harr
end rules
end Go.TL
