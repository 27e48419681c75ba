import Derived.Test.YthmbhfgflijapaaGreatDoorPz
import Derived.WalkKit
import Derived.Deep.Quiet
import Derived.OrdersIn
import Derived.TacticsIn
import Derived.RangeFuncLeaves
import Derived.RangeFuncRecord
import Derived.Sort.QuietThIn
set_option linter.all false
namespace Go.TL
open Go
theorem leB{a b:Nat}(h:Nat.ble a b=true:=by exact rfl):a≤b:=qag h
abbrev gPow:Nat:=1
def powA:Array Value:=([1,10,100,1000,10000,100000,1000000,10000000,100000000,1000000000,10000000000,100000000000,1000000000000,10000000000000,100000000000000,1000000000000000,10000000000000000,100000000000000000,1000000000000000000,10000000000000000000]:List Int).map (fun z=>Value.int .u64 z) |>.toArray
def gtab(b:Nat):Option (Array Value):=if b=gPow then some powA else none
theorem zt2{b:Nat}{cs:Array Value}(h:gtab b=some cs):b=gPow/\cs=powA:=by
 unfold gtab at h
 split at h
 ·rename_i e;cases h;exact⟨e,rfl⟩
 ·cases h
theorem zrN:gtab gPow=some powA:=if_pos rfl
inductive T where
 | v (x:Value)
 | sl (sz:Nat) (es:List T)
 | ag (cs:List T)
instance:Inhabited T:=⟨.v undef⟩
def T.cells:T->List T
 | .ag cs=>cs
 | t=>[t]
abbrev Foot:=Nat->Nat->Prop
inductive TRel (A:Foot) (w:World):T->Value->Prop
 | v (x:Value):TRel A w (.v x) x
 | ag (cs:List T) (arr:Array Value) (hs:arr.size=cs.length) (h1:∀(i:Nat) y,arr[i]?=some y->y.oneCell'=true) (h:∀(i:Nat) c y,cs[i]?=some c->arr[i]?=some y->TRel A w c y):TRel A w (.ag cs) (.agg arr)
 | nil (sz:Nat):TRel A w (.sl sz []) (.slice none 0 0)
 | empty (sz:Nat) (a:Addr):TRel A w (.sl sz []) (.slice (some a) 0 0)
 | sl (sz:Nat) (es:List T) (b off cap:Nat) (f:Nat->Value) (hcap:es.length≤cap)
    (hsz:∀(i:Nat) e,es[i]?=some e->e.cells.length=sz)
    (hA:∀i j,i<es.length->j<sz->A b (off+(i*sz+j)))
    (hw:∀i j,i<es.length->j<sz->w.cell? ⟨b,off+(i*sz+j),none⟩=some (f (i*sz+j)))
    (h1:∀i j,i<es.length->j<sz->(f (i*sz+j)).oneCell'=true)
    (h:∀(i:Nat) e (j:Nat) c,es[i]?=some e->e.cells[j]?=some c->TRel A w c (f (i*sz+j))):TRel A w (.sl sz es) (.slice (some ⟨b,off,none⟩) es.length cap)
structure Place where
 b:Nat
 lo:Nat
 hi:Nat
inductive SV where
 | t (t:T)
 | sl (sz:Nat) (es:List T) (id:Nat)
 | ms (sz:Nat) (id off len:Nat)
 | cp (cs:List T) (off:Nat)
 | ref (id off:Nat)
 | tref (e:TypeId) (n id off:Nat)
 | rw(id len:Nat)
 | mp (id:Nat)
 | yl (id:Nat)
 | ag (cs:List SV)
 | tup (vs:List SV)
 | fn (f:FuncId) (caps:List SV)
 | bnd (f:FuncId) (bs:List SV)
 | ifc (ty:TypeId) (x:SV)
 | any
instance:Inhabited SV:=⟨.any⟩
def SV.cells:SV->List SV
 | .ag cs=>cs
 | .t (.ag cs)=>cs.map .t
 | x=>[x]
inductive Blk where
 | cells (cs:List SV)
 | tail (n:Nat)
 | row (e:TypeId) (cs:List T)
 | map (kt vt:TypeId) (es:List (Value×T))
 | loop (fn:FuncId) (st:LoopState) (pe:Option Code) (n:Nat) (env:List (Nat×SV)) (ps:Array Tmp) (assign body:Code)
 | dead
instance:Inhabited Blk:=⟨.dead⟩
def Blk.obj:Blk->Bool
 | .map .. | .loop .. =>true
 | _=>false
abbrev Heap:=List Blk
def Blk.live:Blk->Bool
 | .dead=>false
 | _=>true
def zts(p:Place)(sz:Nat)(x:Value):Prop:=
 ∃ad len cap,x= .slice ad len cap/\len≤cap/\(match ad with
  | none=>len=0/\cap=0/\p.lo=p.hi
  | some a=>a.block=p.b/\p.lo=a.off+len*sz/\p.hi=a.off+cap*sz/\a.spot=none)
structure M where
 A:Foot
 β:List Place
 H:Heap
 w:World
def tlOf:Option Blk->Option Nat
 | some (.tail n)=>some n
 | some (.row _ cs)=>some cs.length
 | _=>none
def zfd(H:Heap)(id:Nat):Prop:=∀n,tlOf H[id]? ≠some n
def zuM(p:Place)(len:Nat)(x:Value):Prop:=
 ∃ad cap,x= .slice ad len cap/\len≤cap/\p.lo=0/\p.hi=cap/\(match ad with
  | none=>cap=0
  | some a=>a=⟨p.b,0,none⟩/\0<cap)
inductive SRel (m:M):SV->Value->Prop
 | t (t:T) (x:Value) (h:TRel m.A m.w t x):SRel m (.t t) x
 | sl (sz:Nat) (es:List T) (id:Nat) (x:Value) (p:Place) (h:TRel m.A m.w (.sl sz es) x) (hp:m.β[id]?=some p)
    (ho:∀n,tlOf m.H[id]?=some n->es.length≤n/\(es.length=n->zts p sz x)):SRel m (.sl sz es id) x
 | ms (sz id off len cap:Nat) (p:Place) (hp:m.β[id]?=some p) (hn:zfd m.H id) (hc:len≤cap) (hh:p.lo+off+cap*sz=p.hi):
    SRel m (.ms sz id off len) (.slice (some ⟨p.b,p.lo+off,none⟩) len cap)
 | cp (cs:List T) (off b o:Nat) (f:Nat->Value) (h1:∀j,j<cs.length->(f j).oneCell'=true) (hA:∀j,j<cs.length->m.A b (o+j)) (hw:∀j,j<cs.length->m.w.cell? ⟨b,o+j,none⟩=some (f j))
    (h:∀(j:Nat) c,cs[j]?=some c->TRel m.A m.w c (f j)):SRel m (.cp cs off) (.pointer (some ⟨b,o+off,none⟩))
 | ref (id off:Nat) (p:Place) (hp:m.β[id]?=some p) (hn:zfd m.H id):SRel m (.ref id off) (.pointer (some ⟨p.b,p.lo+off,none⟩))
 | tref (e:TypeId) (n id off:Nat) (p:Place) (hp:m.β[id]?=some p) (hn:zfd m.H id) (h0:p.lo=0) (hs:m.w.shape? p.b=some (e,n)):SRel m (.tref e n id off) (.pointer (some ⟨p.b,p.lo+off,none⟩))
 | rw(id len:Nat) (x:Value) (p:Place) (hp:m.β[id]?=some p) (hx:∃ad n c,x= .slice ad n c) (ho:∀n,tlOf m.H[id]?=some n->len≤n/\(len=n->zuM p len x)):SRel m (.rw id len) x
 | mp (id:Nat) (p:Place) (hp:m.β[id]?=some p) (hn:zfd m.H id):SRel m (.mp id) (.map (some p.b))
 | yl (id:Nat) (p:Place) (hp:m.β[id]?=some p) (hn:zfd m.H id):SRel m (.yl id) (.func (.yield p.b) #[] #[])
 | ag (cs:List SV) (arr:Array Value) (hs:arr.size=cs.length) (h1:∀(i:Nat) y,arr[i]?=some y->y.oneCell'=true) (h:∀(i:Nat) c y,cs[i]?=some c->arr[i]?=some y->SRel m c y):SRel m (.ag cs) (.agg arr)
 | tup (cs:List SV) (arr:Array Value) (hs:arr.size=cs.length) (h:∀(i:Nat) c y,cs[i]?=some c->arr[i]?=some y->SRel m c y):SRel m (.tup cs) (.tuple arr)
 | fn (f:FuncId) (cs:List SV) (arr:Array Value) (hs:arr.size=cs.length) (h:∀(i:Nat) c y,cs[i]?=some c->arr[i]?=some y->SRel m c y):SRel m (.fn f cs) (.func (.func f) #[] arr)
 | bnd (f:FuncId) (cs:List SV) (arr:Array Value) (hs:arr.size=cs.length) (h:∀(i:Nat) c y,cs[i]?=some c->arr[i]?=some y->SRel m c y):SRel m (.bnd f cs) (.func (.func f) arr #[])
 | ifc (ty:TypeId) (s:SV) (x:Value) (h:SRel m s x):SRel m (.ifc ty s) (.iface ty x)
 | any (x:Value):SRel m .any x
def Own(m:M):Foot:=fun b o=>∃(i:Nat) (p:Place) (k:Blk),m.β[i]?=some p/\m.H[i]?=some k/\k.live=true/\p.b=b/\p.lo≤o/\o<p.hi
def Free(w:World)(b o:Nat):Prop:=(w.cell? ⟨b,o,none⟩).isSome=true/\w.frozen? ⟨b,o,none⟩=false
abbrev Env:=List (Nat×SV)
def Env.look:Env->Nat->Option SV
 | [],_=>none
 | (k,v)::r,i=>bif Nat.beq k i then some v else Env.look r i
def ERel(m:M)(n:Nat)(env:Env)(tmps:Array Value):Prop:=
 tmps.size=n/\∀i v,env.look i=some v->∃x,tmps[i]?=some x/\SRel m v x
def zi5(m:M)(p:Place):Blk->Prop
 | .cells cs=>p.lo+cs.length≤p.hi/\(∀o,p.lo≤o->o<p.hi->Free m.w p.b o)/\∀(j:Nat) c,cs[j]?=some c->∃y,m.w.cell? ⟨p.b,p.lo+j,none⟩=some y/\y.oneCell'=true/\SRel m c y
 | .tail _=>∀o,p.lo≤o->o<p.hi->Free m.w p.b o
 | .row e cs=>(p.lo=0/\cs.length≤p.hi/\(0<p.hi->m.w.shape? p.b=some (e,p.hi)))/\(∀o,p.lo≤o->o<p.hi->Free m.w p.b o)/\∀(j:Nat) c,cs[j]?=some c->∃y,m.w.cell? ⟨p.b,p.lo+j,none⟩=some y/\y.oneCell'=true/\TRel m.A m.w c y
 | .map _ _ es=>p.lo=0/\p.hi=1/\∃(a:Array MapEntry) (clock:Nat),m.w.heap[p.b]?=some (.map a clock)/\a.size=es.length/\
    ∀(i:Nat) k t (e:MapEntry),es[i]?=some (k,t)->a[i]?=some e->e.key=k/\TRel m.A m.w t e.val/\e.born<clock
 | .loop fn st pe n env ps assign body=>p.lo=0/\p.hi=1/\∃L:Loop,m.w.heap[p.b]?=some (.loop L)/\(L.fn=fn/\L.state=st/\L.pending=pe/\L.params=ps/\L.assign=assign/\L.body=body)/\ERel m n env L.tmps
 | .dead=>True
def Place.apart(p q:Place):Prop:=p.b=q.b->p.hi≤q.lo\/q.hi≤p.lo\/p.hi≤p.lo\/q.hi≤q.lo
def Glob(A:Foot)(w:World):Prop:=∀b cs,gtab b=some cs->(∀o,A b o)/\∃e f,w.heap[b]?=some (.cells cs e f)
structure HRel (m:M):Prop where
 len:m.β.length=m.H.length
 blk:∀(i:Nat) p k,m.β[i]?=some p->m.H[i]?=some k->zi5 m p k
 apart:∀(i j:Nat) p q k l,i≠j->m.β[i]?=some p->m.H[i]?=some k->m.β[j]?=some q->m.H[j]?=some l->k.live=true->l.live=true->p.apart q
 still:∀b o,m.A b o->¬Own m b o
 inA:∀b o,m.A b o->b<m.w.heap.size
 inO:∀(i:Nat) p k,m.β[i]?=some p->m.H[i]?=some k->k.live=true->p.lo<p.hi->p.b<m.w.heap.size
 glob:Glob m.A m.w
def zaZ(h h':Option Blk)(p p':Place):Prop:=
 match tlOf h with
 | some n=>∀n',tlOf h'=some n'->n≤n'/\(n=n'->p'=p)
 | none=>p'=p/\∀n',tlOf h'≠some n'
structure Step (m m':M):Prop where
 os:m'.w.os=m.w.os
 tape:m'.w.tape=m.w.tape
 output:m'.w.output=m.w.output
 size:m.w.heap.size≤m'.w.heap.size
 more:∀b o,m.A b o->m'.A b o
 fromA:∀b o,m'.A b o->m.A b o\/Own m b o\/m.w.heap.size≤b
 fromO:∀b o,Own m' b o->Own m b o\/m.w.heap.size≤b
 cell:∀b o,b<m.w.heap.size->¬Own m b o->m'.w.cell? ⟨b,o,none⟩=m.w.cell? ⟨b,o,none⟩
 frozen:∀b o,b<m.w.heap.size->¬Own m b o->(m.w.cell? ⟨b,o,none⟩).isSome=true->m'.w.frozen? ⟨b,o,none⟩=m.w.frozen? ⟨b,o,none⟩
 block:∀b,b<m.w.heap.size->(∀o,¬Own m b o)->m'.w.heap[b]?=m.w.heap[b]?
 shape:∀b s,m.w.shape? b=some s->m'.w.shape? b=some s
 loop:∀(b:Nat) (L:Loop),m.w.heap[b]?=some (Obj.loop L)->∃L':Loop,m'.w.heap[b]?=some (Obj.loop L')
 isSome:∀b o,b<m.w.heap.size->(m.w.cell? ⟨b,o,none⟩).isSome=true->(m'.w.cell? ⟨b,o,none⟩).isSome=true
 ids:∀(i:Nat) p,m.β[i]?=some p->∃p',m'.β[i]?=some p'/\zaZ m.H[i]? m'.H[i]? p p'
inductive zdJ where
 | normal
 | exit (id:Nat)
 | ret
 | panic (v:SV)
def zbu(m:M):zdJ->Exit->Prop
 | .normal,.normal=>True
 | .exit i,.exit j=>i=j
 | .ret,.ret=>True
 | .panic v,.panic ch=>∃x,ch=[{ v:=x,recovered:=false }]/\SRel m v x
 | _,_=>False
abbrev TK:=zdJ->Env->Heap->Prop
structure Fm where
 r:Option Nat
 s0:Nat
 ds:List Deferred
def mark(k:Nat):Deferred:={ target:=.collected k,args:=#[] }
def zdv(φ:Fm)(w:World)(l:List Deferred):Prop:=
 (∃ks:List Nat,l=ks.map mark++φ.ds/\(φ.r.isSome=true->ks=[])/\ks.Nodup/\∀k∈ks,φ.s0≤k/\w.heap[k]?=some (.deferred (some [])))/\(φ.s0≤w.heap.size)/\
   ∀l,φ.r=some l->∃L:Loop,w.heap[l]?=some (Obj.loop L)
abbrev Fr (r:Option Nat):Fence:={ Fence.wide with round:=r }
def Code.wpr(P:Program)(r:Option Nat)(c:Code)(Q:Exit->Act->World->Prop)(a:Act)(w:World):Prop:=
 ∀(b:Frame) (k:List Item) (cs:List Frame),b.roundOf=r->(P.funcs[b.fn]?).isSome=true->
  ∃e a' w',Q e a' w'/\ArrivesIn (fun _=>True) P (lone (b.atR a (.code c::k)) cs w) b k cs e a' w'
def Post(φ:Fm)(m:M)(n:Nat)(K:TK)(e:Exit)(a:Act)(w:World):Prop:=
 ∃(m':M) (env:Env) (te:zdJ),m'.w=w/\Step m m'/\HRel m'/\ERel m' n env a.tmps/\zdv φ m'.w a.defers/\zbu m' te e/\K te env m'.H
def TR(P:Program)(n:Nat)(c:Code)(env:Env)(H:Heap)(K:TK):Prop:=
 ∀(φ:Fm) (m:M) (a:Act),m.H=H->HRel m->ERel m n env a.tmps->zdv φ m.w a.defers->Code.wpr P φ.r c (Post φ m n K) a m.w
structure Keeps (w w':World):Prop where
 os:w'.os=w.os
 tape:w'.tape=w.tape
 output:w'.output=w.output
 size:w.heap.size≤w'.heap.size
 block:∀b,b<w.heap.size->w'.heap[b]?=w.heap[b]?
def TO(q:Bool)(P:Program)(n:Nat)(all:Array Oper)(ops:List Oper)(env:Env)(H:Heap)(K:TK):Prop:=
 ∀(φ:Fm) (m:M) (a:Act),m.H=H->HRel m->ERel m n env a.tmps->zdv φ m.w a.defers->
  match q with
  | false=>wpListIn (Fr φ.r) 0 P all (Post φ m n K) ops a m.w
  | true=>wpQuiet P all (Keeps m.w) (fun a'=>∃env',ERel m n env' a'.tmps/\zdv φ m.w a'.defers/\K .normal env' m.H) ops a
inductive Res where
 | ret (v:SV)
 | panic (v:SV)
def zbX(m:M):Res->Ending->Prop
 | .ret v,.returned x=>SRel m v x
 | .panic v,.panicked ch=>∃x,ch=[{ v:=x,recovered:=false }]/\SRel m v x
 | _,_=>False
def ARel(m:M)(args:List SV)(vs:Array Value):Prop:=vs.size=args.length/\∀(i:Nat) s x,args[i]?=some s->vs[i]?=some x->SRel m s x
def Callable(P:Program)(f:FuncId):Prop:=∃fn,P.funcs[f]?=some fn/\(fn.name == "runtime.NumGoroutine")=false/\fn.body.isNone=false
def Sound(P:Program)(f:FuncId)(args:List SV)(H:Heap)(R:Res->Heap->Prop):Prop:=
 Callable P f/\∀(m:M) (vs:Array Value),m.H=H->HRel m->ARel m args vs->Calls P f vs m.w fun e w'=>∃(m':M) (r:Res),m'.w=w'/\Step m m'/\HRel m'/\zbX m' r e/\R r m'.H
theorem TRel.mono{A A':Foot}{w w':World}(hA:∀b o,A b o->A' b o)(hw:∀b o,A b o->w'.cell? ⟨b,o,none⟩=w.cell? ⟨b,o,none⟩):
  ∀ {t:T} {x:Value},TRel A w t x->TRel A' w' t x:=by
 intro t x h
 induction h with
 | v x=>exact .v x
 | ag cs arr hs h1 _ ih=>exact .ag cs arr hs h1 ih
 | nil sz=>exact .nil sz
 | empty sz a=>exact .empty sz a
 | sl sz es b off cap f hcap hsz hA' hw' h1 _ ih=>
   exact .sl sz es b off cap f hcap hsz (fun i j hi hj=>hA _ _ (hA' i j hi hj)) (fun i j hi hj=>by rw[hw _ _ (hA' i j hi hj)];exact hw' i j hi hj) h1 ih
theorem Step.Acell{m m':M}(hm:HRel m)(s:Step m m')(b o:Nat)(h:m.A b o):m'.w.cell? ⟨b,o,none⟩=m.w.cell? ⟨b,o,none⟩:=
 s.cell b o (hm.inA b o h) (hm.still b o h)
theorem Step.glob{m m':M}(hm:HRel m)(s:Step m m'):Glob m'.A m'.w:=fun b cs h=>by
 obtain⟨g1,e,f,g2⟩:=hm.glob b cs h
 exact⟨fun o=>s.more b o (g1 o),e,f,by rw[s.block b (qaj.1 g2).1 fun o=>hm.still b o (g1 o)];exact g2⟩
theorem Step.trel{m m':M}(hm:HRel m)(s:Step m m'){t:T}{x:Value}(h:TRel m.A m.w t x):TRel m'.A m'.w t x:=
 h.mono s.more (s.Acell hm)
theorem zaZ.zcM{h h':Option Blk}{p p':Place}(s:zaZ h h' p p')(hn:∀n,tlOf h≠some n):p'=p/\∀n,tlOf h'≠some n:=by
 unfold zaZ at s
 split at s
 ·rename_i n e;exact absurd e (hn n)
 ·exact s
theorem zaZ.trans{a b c:Option Blk}{p q r:Place}(h:zaZ a b p q)(k:zaZ b c q r)(hb:∀n,tlOf a=some n->(∀n',tlOf b≠some n')->∀n',tlOf c≠some n'):zaZ a c p r:=by
 unfold zaZ at h⊢
 split at h
 ·rename_i n e
  intro n' hc
  by_cases hx:∃n1,tlOf b=some n1
  ·obtain⟨n1,hn1⟩:=hx
   simp only[zaZ,hn1]at k
   have h1:=h n1 hn1
   have h2:=k n' hc
   refine⟨by omega,fun e=>?_⟩
   rw[h2.2 (by omega),h1.2 (by omega)]
  ·exact absurd hc (hb n e (fun n' e=>hx ⟨n',e⟩) n')
 ·have h2:=k.zcM h.2
  exact⟨by rw[h2.1,h.1],h2.2⟩
theorem Step.srel{m m':M}(hm:HRel m)(s:Step m m'):∀ {v:SV} {x:Value},SRel m v x->SRel m' v x:=by
 intro v x h
 induction h with
 | t t x h=>exact .t t x (s.trel hm h)
 | sl sz es id x p h hp ho=>
   obtain⟨p',hp',hi⟩:=s.ids id p hp
   refine .sl sz es id x p' (s.trel hm h) hp' fun n hn=>?_
   unfold zaZ at hi
   split at hi
   ·exact zwcs
   ·exact absurd hn (hi.2 n)
 | rw id len x p hp hx ho=>
   obtain⟨p',hp',hi⟩:=s.ids id p hp
   refine .rw id len x p' hp' hx fun n hn=>?_
   unfold zaZ at hi
   split at hi
   ·exact zwcs
   ·exact absurd hn (hi.2 n)
 | tref e n id off p hp hn h0 hs=>
   obtain⟨p',hp',hi⟩:=s.ids id p hp
   obtain⟨rfl,h2⟩:=hi.zcM hn
   exact .tref e n id off p' hp' h2 h0 (s.shape _ _ hs)
 | ms sz id off len cap p hp hn hc hh=>
   obtain⟨p',hp',hi⟩:=s.ids id p hp
   obtain⟨rfl,h2⟩:=hi.zcM hn
   exact .ms sz id off len cap p' hp' h2 hc hh
 | cp cs off b o f h1 hA hw h=>
   exact .cp cs off b o f h1 (fun j hj=>s.more _ _ (hA j hj)) (fun j hj=>by rw[s.Acell hm _ _ (hA j hj)];exact hw j hj) (fun j c hc=>s.trel hm (h j c hc))
 | ref id off p hp hn=>
   obtain⟨p',hp',hi⟩:=s.ids id p hp
   obtain⟨rfl,h2⟩:=hi.zcM hn
   exact .ref id off p' hp' h2
 | mp id p hp hn=>
   obtain⟨p',hp',hi⟩:=s.ids id p hp
   obtain⟨rfl,h2⟩:=hi.zcM hn
   exact .mp id p' hp' h2
 | yl id p hp hn=>
   obtain⟨p',hp',hi⟩:=s.ids id p hp
   obtain⟨rfl,h2⟩:=hi.zcM hn
   exact .yl id p' hp' h2
 | ag cs arr hs h1 _ ih=>exact .ag cs arr hs h1 ih
 | tup cs arr hs _ ih=>exact .tup cs arr hs ih
 | fn f cs arr hs _ ih=>exact .fn f cs arr hs ih
 | bnd f cs arr hs _ ih=>exact .bnd f cs arr hs ih
 | ifc ty s x _ ih=>exact .ifc ty s x ih
 | any x=>exact .any x
theorem zaZ.refl(h:Option Blk)(p:Place):zaZ h h p p:=by
 unfold zaZ
 split
 ·rename_i n h0;intro n' e;rw[h0]at e;cases e;exact⟨qae _,fun _=>rfl⟩
 ·rename_i hn;exact⟨rfl,fun n e=>by rw[hn]at e;cases e⟩
theorem Step.refl(m:M):Step m m:=
 ⟨rfl,rfl,rfl,qae _,fun _ _ h=>h,fun _ _ h=>.inl h,fun _ _ h=>.inl h,fun _ _ _ _=>rfl,fun _ _ _ _ _=>rfl,fun _ _ _=>rfl,fun _ _ h=>h,fun _ L h=>⟨L,h⟩,fun _ _ _ h=>h,fun i p hp=>⟨p,hp,zaZ.refl _ _⟩⟩
theorem Step.trans{a b c:M}(h:Step a b)(k:Step b c):Step a c where
 os:=k.os.trans h.os
 tape:=k.tape.trans h.tape
 output:=k.output.trans h.output
 size:=qaq h.size k.size
 more:=fun x o hx=>k.more _ _ (h.more _ _ hx)
 fromA:=fun x o hx=>by
  rcases k.fromA x o hx with h1|h1|h1
  ·exact h.fromA x o h1
  ·rcases h.fromO x o h1 with h2|h2
   ·exact .inr (.inl h2)
   ·exact .inr (.inr h2)
  ·exact .inr (.inr (qaq h.size h1))
 fromO:=fun x o hx=>by
  rcases k.fromO x o hx with h1|h1
  ·exact h.fromO x o h1
  ·exact .inr (qaq h.size h1)
 cell:=fun x o hx hn=>by
  rw[k.cell x o (qa0 hx h.size) (fun ho=>?_),h.cell x o hx hn]
  rcases h.fromO x o ho with h1|h1
  ·exact hn h1
  ·omega
 frozen:=fun x o hx hn hc=>by
  rw[k.frozen x o (qa0 hx h.size) (fun ho=>?_) (h.isSome x o hx hc),h.frozen x o hx hn hc]
  rcases h.fromO x o ho with h1|h1
  ·exact hn h1
  ·omega
 block:=fun x hx hn=>by
  rw[k.block x (qa0 hx h.size) (fun o ho=>?_),h.block x hx hn]
  rcases h.fromO x o ho with h1|h1
  ·exact hn o h1
  ·omega
 shape:=fun b s hs=>k.shape b s (h.shape b s hs)
 loop:=fun b L hL=>let ⟨L1,h1⟩:=h.loop b L hL;k.loop b L1 h1
 isSome:=fun x o hx hs=>k.isSome x o (qa0 hx h.size) (h.isSome x o hx hs)
 ids:=fun i p hp=>by
  obtain⟨p1,hp1,h1⟩:=h.ids i p hp
  obtain⟨p2,hp2,h2⟩:=k.ids i p1 hp1
  refine⟨p2,hp2,h1.trans h2 fun n hn hb=>?_⟩
  exact(h2.zcM hb).2
theorem Env.zat(i:Nat)(v:SV)(r:Env):Env.look ((i,v)::r) i=some v:=by simp[Env.look]
theorem Env.zak{i j:Nat}(v:SV)(r:Env)(h:j≠i):Env.look ((j,v)::r) i=r.look i:=by
 have:Nat.beq j i=false:=by
  cases hb:Nat.beq j i with
  | false=>rfl
  | true=>exact absurd (qbf hb) h
 simp[Env.look,this]
theorem ERel.step{m m':M}{n:Nat}{env:Env}{tmps:Array Value}(h:ERel m n env tmps)(hm:HRel m)(s:Step m m'):ERel m' n env tmps:=
 ⟨h.1,fun i v hv=>let ⟨x,h1,h2⟩:=h.2 i v hv;⟨x,h1,s.srel hm h2⟩⟩
theorem ERel.put{m:M}{n:Nat}{env:Env}{a:Act}{v:SV}{x:Value}(d:Nat)(h:ERel m n env a.tmps)(hd:d<n)(hv:SRel m v x):ERel m n ((d,v)::env) (a.put (some d) x).tmps:=by
 refine⟨by simp[Act.put,h.1],fun i u hu=>?_⟩
 by_cases hi:d=i
 ·subst hi
  rw[Env.zat]at hu
  cases hu
  exact⟨x,by simp[Act.put,h.1,hd],hv⟩
 ·rw[Env.zak _ _ hi]at hu
  obtain⟨y,h1,h2⟩:=h.2 i u hu
  exact⟨y,by simp[Act.put,qaK,hi,h1],h2⟩
theorem ERel.sub{m:M}{n:Nat}{env env':Env}{tmps:Array Value}(h:ERel m n env tmps)(hs:∀i v,env'.look i=some v->env.look i=some v):ERel m n env' tmps:=
 ⟨h.1,fun i v hv=>h.2 i v (hs i v hv)⟩
def Env.sub(env:Env):Env->Prop
 | []=>True
 | (i,v)::r=>env.look i=some v/\Env.sub env r
theorem Env.zg0{env:Env}:∀ {env':Env},env.sub env'->∀i v,env'.look i=some v->env.look i=some v
 | [],_,i,v,h=>by simp[Env.look]at h
 | (k,u)::r,hs,i,v,h=>by
   by_cases hi:k=i
   ·subst hi
    rw[Env.zat]at h
    cases h
    exact hs.1
   ·rw[Env.zak _ _ hi]at h
    exact Env.zg0 hs.2 i v h
section wpr
variable {P:Program}{r:Option Nat}{Q Q':Exit->Act->World->Prop}{a:Act}{w:World}
theorem zgi{I I':Machine->Prop}{m:Machine}{b:Frame}{k:List Item}{cs:List Frame}{e:Exit}(hI:∀m,I m->I' m)(h:ArrivesIn I P m b k cs e a w):ArrivesIn I' P m b k cs e a w:=by
 cases e with
 | normal=>exact StepsIn.mono hI h
 | exit id=>exact⟨fun k' hk=>(h.1 k' hk).mono hI,fun hr hk=>let ⟨k₁,h1,h2⟩:=h.2 hr hk;⟨k₁,h1,h2.mono hI⟩⟩
 | goto l=>exact⟨fun k' hk=>(h.1 k' hk).mono hI,fun hr hk=>let ⟨k₁,h1,h2⟩:=h.2 hr hk;⟨k₁,h1,h2.mono hI⟩⟩
 | ret=>exact⟨fun hr=>let ⟨t,h1⟩:=h.1 hr;⟨t,h1.mono hI⟩,fun hr=>let ⟨t,h1⟩:=h.2 hr;⟨t,h1.mono hI⟩⟩
 | panic ch=>obtain⟨t,h1⟩:=h;exact⟨t,StepsIn.mono hI h1⟩
 | outgrown=>exact h
theorem zbs{c:Code}(h:c.wpIn (Fr r) 0 P Q a w):Code.wpr P r c Q a w:=by
 intro b k cs hro hfn
 obtain⟨e,a',w',h1,h2⟩:=h b k cs hro trivial (room_wide _)
 exact⟨e,a',w',h1,zgi (fun _ _=>trivial) h2⟩
theorem zbk{c:Code}(h:Code.wpr P r c Q a w)(hq:∀e a w,Q e a w->Q' e a w):Code.wpr P r c Q' a w:=
 fun b k cs h1 h2=>let ⟨e,a',w',q,s⟩:=h b k cs h1 h2;⟨e,a',w',hq _ _ _ q,s⟩
theorem zmK{x y:Code}(h:Code.wpr P r x (Exit.then (Code.wpr P r y Q) Q) a w):Code.wpr P r (.seq x y) Q a w:=by
 intro b k cs hro hfn
 obtain⟨e,a1,w1,hq,harr⟩:=h b (.code y::k) cs hro hfn
 have go:∀(e:Exit),e≠ .normal->Q e a1 w1->ArrivesIn (fun _=>True) P (lone (b.atR a (.code x:: .code y::k)) cs w) b (.code y::k) cs e a1 w1->
   ∃e a' w',Q e a' w'/\ArrivesIn (fun _=>True) P (lone (b.atR a (.code (.seq x y)::k)) cs w) b k cs e a' w':=fun e he hq harr=>
  ⟨e,a1,w1,hq,.of_steps (.one trivial stepR_seq) (.pass (x:=.code y) rfl (fun _ _=>.inl he) harr)⟩
 cases e with
 | normal=>
   obtain⟨e2,a2,w2,hq2,harr2⟩:=hq b k cs hro hfn
   exact⟨e2,a2,w2,hq2,.of_steps (.head trivial stepR_seq harr) harr2⟩
 | exit id=>exact go _ (by simp) hq harr
 | goto l=>exact go _ (by simp) hq harr
 | ret=>exact go _ (by simp) hq harr
 | panic ch=>exact go _ (by simp) hq harr
 | outgrown=>exact go _ (by simp) hq harr
theorem ziw{c:Operand}{x y:Code}{t:Bool}(hc:a.eval c= .bool t)(ht:t=true->Code.wpr P r x Q a w)(hf:t=false->Code.wpr P r y Q a w):Code.wpr P r (.cond c x y) Q a w:=by
 intro b k cs hro hfn
 have h:Code.wpr P r (if t then x else y) Q a w:=by
  cases t
  ·exact hf rfl
  ·exact ht rfl
 obtain⟨e,a',w',q,s⟩:=h b k cs hro hfn
 exact⟨e,a',w',q,.of_steps (.one trivial (stepR_cond hc)) s⟩
theorem zrf{id:Nat}{c:Code}(h:Code.wpr P r c (Exit.inBlock id Q) a w):Code.wpr P r (.block id c) Q a w:=by
 intro b k cs hro hfn
 obtain⟨e,a1,w1,hq,harr⟩:=h b (.inBlock id::k) cs hro hfn
 have s0:StepsIn (fun _=>True) P (lone (b.atR a (.code (.block id c)::k)) cs w) (lone (b.atR a (.code c:: .inBlock id::k)) cs w):=.one trivial stepR_block
 cases e with
 | normal=>exact⟨.normal,a1,w1,hq,s0.trans (StepsIn.trans harr (.one trivial stepR_inBlock))⟩
 | exit id'=>
   by_cases hid:id'=id
   ·simp only[Exit.inBlock,hid,if_true]at hq
    exact⟨.normal,a1,w1,hq,s0.trans (harr.1 k (by simp[exitTo,hid]))⟩
   ·simp only[Exit.inBlock,hid,if_false]at hq
    have hb:(id == id')=false:=by simp;exact fun h=>hid h.symm
    have hx:exitTo id' (.inBlock id::k)=exitTo id' k:=by simp[exitTo,hb]
    exact⟨.exit id',a1,w1,hq,fun k' hk=>s0.trans (harr.1 k' (by rw[hx];exact hk)),fun hr hk=>let ⟨k1,q1,q2⟩:=harr.2 hr (by rw[hx];exact hk);⟨k1,q1,s0.trans q2⟩⟩
 | goto l=>
   have hx:gotoIn l (.inBlock id::k)=gotoIn l k:=by simp[gotoIn]
   exact⟨.goto l,a1,w1,hq,fun k' hk=>s0.trans (harr.1 k' (by rw[hx];exact hk)),fun hr hk=>let ⟨k1,q1,q2⟩:=harr.2 hr (by rw[hx];exact hk);⟨k1,q1,s0.trans q2⟩⟩
 | ret=>exact⟨.ret,a1,w1,hq,.of_steps s0 harr⟩
 | panic ch=>exact⟨.panic ch,a1,w1,hq,.of_steps (e:=.panic ch) s0 harr⟩
 | outgrown=>exact⟨.outgrown,a1,w1,hq,.of_steps (e:=.outgrown) (b:=b) (k:=k) (cs:=cs) s0 harr⟩
end wpr
section rules
variable {P:Program}{n:Nat}{env:Env}{H:Heap}{K:TK}
theorem Post.step{φ:Fm}{m m':M}{K:TK}(s:Step m m'){e:Exit}{a:Act}{w:World}(h:Post φ m' n K e a w):Post φ m n K e a w:=
 let ⟨m2,env2,te,h1,h2,h3⟩:=h;⟨m2,env2,te,h1,s.trans h2,h3⟩
theorem Post.mono{φ:Fm}{m:M}{K K':TK}(hk:∀te env H,K te env H->K' te env H){e:Exit}{a:Act}{w:World}(h:Post φ m n K e a w):Post φ m n K' e a w:=
 let ⟨m2,env2,te,h1,h2,h3,h4,h5,h6,h7⟩:=h;⟨m2,env2,te,h1,h2,h3,h4,h5,h6,hk _ _ _ h7⟩
theorem TR.mono{c:Code}{K':TK}(h:TR P n c env H K)(hk:∀te env H,K te env H->K' te env H):TR P n c env H K':=
 fun φ m a h1 h2 h3 h4=>zbk (h φ m a h1 h2 h3 h4) fun _ _ _ hp=>hp.mono hk
theorem TR.sub{c:Code}(env':Env)(hs:env.sub env')(h:TR P n c env' H K):TR P n c env H K:=
 fun φ m a h1 h2 h3 h4=>h φ m a h1 h2 (h3.sub (Env.zg0 hs)) h4
theorem TR.skip(h:K .normal env H):TR P n .skip env H K:=
 fun φ m a h1 h2 h3 h4=>zbs (wpIn_skip ⟨m,env,.normal,rfl,.refl m,h2,h3,h4,trivial,h1 ▸ h⟩)
theorem TR.exit{id:Nat}(h:K (.exit id) env H):TR P n (.exit id) env H K:=
 fun φ m a h1 h2 h3 h4=>zbs (wpIn_exit ⟨m,env,.exit id,rfl,.refl m,h2,h3,h4,rfl,h1 ▸ h⟩)
theorem TR.ret(h:K .ret env H):TR P n .ret env H K:=
 fun φ m a h1 h2 h3 h4=>zbs (wpIn_ret ⟨m,env,.ret,rfl,.refl m,h2,h3,h4,trivial,h1 ▸ h⟩)
def Then(P:Program)(n:Nat)(c:Code)(K:TK):TK
 | .normal,env,H=>TR P n c env H K
 | e,env,H=>K e env H
theorem zbu.normal{m:M}{te:zdJ}(h:zbu m te .normal):te= .normal:=by
 cases te <;> simp[zbu]at h;rfl
theorem Post.then{φ:Fm}{m:M}{c:Code}{e:Exit}{a:Act}{w:World}(h:Post φ m n (Then P n c K) e a w):Exit.then (Code.wpr P φ.r c (Post φ m n K)) (Post φ m n K) e a w:=by
 obtain⟨m2,env2,te,h1,h2,h3,h4,h5,h6,h7⟩:=h
 cases e with
 | normal=>
   cases zbu.normal h6
   show Code.wpr P φ.r c (Post φ m n K) a w
   rw[<-h1]
   exact zbk (h7 φ m2 a rfl h3 h4 h5) fun _ _ _ hp=>hp.step h2
 | _=>
   refine⟨m2,env2,te,h1,h2,h3,h4,h5,h6,?_⟩
   cases te <;> simp[zbu]at h6 <;> exact h7
theorem TR.seq{x y:Code}(h:TR P n x env H (Then P n y K)):TR P n (.seq x y) env H K:=
 fun φ m a h1 h2 h3 h4=>zmK (zbk (h φ m a h1 h2 h3 h4) fun _ _ _ hp=>hp.then)
def Env.val(env:Env):Operand->Option SV
 | .tmp i=>env.look i
 | .const (.agg _)=>none
 | .const v=>some (.t (.v v))
 | .func f=>some (.fn f [])
 | .global _=>none
theorem ERel.val{m:M}{a:Act}(h:ERel m n env a.tmps){x:Operand}{v:SV}(hx:env.val x=some v):SRel m v (a.eval x):=by
 cases x with
 | tmp i=>
   obtain⟨y,h1,h2⟩:=h.2 i v hx
   simp only[Act.eval]
   rw[qbh,h1]
   exact h2
 | const c=>
   have:v= .t (.v c):=by cases c <;> simp[Env.val]at hx <;> exact hx.symm
   subst this
   exact .t _ _ (.v c)
 | func f=>
   simp only[Env.val,qaE]at hx
   subst hx
   exact .fn f [] #[] rfl (by simp)
 | global g=>simp[Env.val]at hx
theorem SRel.v_eq{m:M}{x y:Value}(h:SRel m (.t (.v x)) y):y=x:=by
 cases h with
 | t _ _ h=>cases h;rfl
theorem TR.cond{c:Operand}{x y:Code}{b:Bool}(hc:env.val c=some (.t (.v (.bool b))))(ht:b=true->TR P n x env H K)(hf:b=false->TR P n y env H K):
  TR P n (.cond c x y) env H K:=
 fun φ m a h1 h2 h3 h4=>ziw (h3.val hc).v_eq (fun e=>ht e φ m a h1 h2 h3 h4) (fun e=>hf e φ m a h1 h2 h3 h4)
def zag(id:Nat)(K:TK):TK
 | .exit j,env,H=>if j=id then K .normal env H else K (.exit j) env H
 | e,env,H=>K e env H
theorem TR.block{id:Nat}{c:Code}(h:TR P n c env H (zag id K)):TR P n (.block id c) env H K:=by
 intro φ m a h1 h2 h3 h4
 refine zrf (zbk (h φ m a h1 h2 h3 h4) ?_)
 rintro e a' w' ⟨m2,env2,te,g1,g2,g3,g4,g5,g6,g7⟩
 cases te with
 | exit j=>
   cases e <;> simp[zbu]at g6
   subst g6
   simp only[Exit.inBlock]
   simp only[zag]at g7
   split
   ·rename_i hj;rw[if_pos hj]at g7;exact⟨m2,env2,.normal,g1,g2,g3,g4,g5,trivial,g7⟩
   ·rename_i hj;rw[if_neg hj]at g7;exact⟨m2,env2,.exit j,g1,g2,g3,g4,g5,rfl,g7⟩
 | normal=>cases e <;> simp[zbu]at g6;exact⟨m2,env2,.normal,g1,g2,g3,g4,g5,trivial,g7⟩
 | ret=>cases e <;> simp[zbu]at g6;exact⟨m2,env2,.ret,g1,g2,g3,g4,g5,trivial,g7⟩
 | panic v=>
   cases e with
   | panic ch=>exact⟨m2,env2,.panic v,g1,g2,g3,g4,g5,g6,g7⟩
   | _=>simp[zbu]at g6
theorem Steps.behind{m1 m2 t:Machine}(h:step P m1= .next m2)(s:Steps P m1 t)(hne:t≠m1):Steps P m2 t:=by
 obtain⟨k,hk⟩:=s
 cases k with
 | zero=>simp only[runN,Stepped.next.injEq]at hk;exact absurd hk.symm hne
 | succ k=>simp only[runN,h]at hk;exact⟨k,hk⟩
theorem zfP{m1 m2 t:Machine}(h:step P m1= .next m2)(s:StepsIn (fun _=>True) P m1 t)(hne:t≠m1):StepsIn (fun _=>True) P m2 t:=
 steps_iff.1 (Steps.behind h (steps_iff.2 s) hne)
theorem zeh{id:Nat}:∀ {k k':List Item},exitTo id k=some k'->k'.length≤k.length
 | [],_,h=>by simp[exitTo]at h
 | x::r,k',h=>by
   cases x <;> simp only[exitTo]at h <;> first
    | (split at h
       ·cases h;simp
       ·have:=zeh h;simp;omega)
    | (have:=zeh h;simp;omega)
    | (cases h)
theorem zfB{b:Frame}{a a':Act}{k k':List Item}{cs:List Frame}{w w':World}(h:lone (b.atR a k) cs w=lone (b.atR a' k') cs w'):k=k':=by
 simp only[lone,Machine.mk.injEq,Frame.atR]at h
 have h1:=h.2.1
 simp at h1
 exact h1.2.1
theorem TR.loop{c:Code}(h:TR P n c env H (Then P n (.loop c) K)):TR P n (.loop c) env H K:=by
 intro φ m a h1 h2 h3 h4
 have h':Code.wpr P φ.r c (Exit.then (Code.wpr P φ.r (Code.loop c) (Post φ m n K)) (Post φ m n K)) a m.w:=zbk (h φ m a h1 h2 h3 h4) fun _ _ _ hp=>hp.then
 intro b k cs hro hfn
 obtain⟨e,a',w',hq,harr⟩:=h' b (.inLoop c::k) cs hro hfn
 have pass:∀(e:Exit),e≠ .normal->Post φ m n K e a' w'->ArrivesIn (fun _=>True) P (lone (b.atR a (.code c:: .inLoop c::k)) cs m.w) b (.inLoop c::k) cs e a' w'->
   ∃e a' w',Post φ m n K e a' w'/\ArrivesIn (fun _=>True) P (lone (b.atR a (.code (.loop c)::k)) cs m.w) b k cs e a' w':=fun e he hq harr=>
  ⟨e,a',w',hq,.of_steps (.one trivial stepR_loop) (.pass (x:=.inLoop c) rfl (fun _ _=>.inl he) harr)⟩
 cases e with
 | normal=>
   obtain⟨e2,a2,w2,hq2,harr2⟩:=hq b k cs hro hfn
   refine⟨e2,a2,w2,hq2,?_⟩
   have s1:StepsIn (fun _=>True) P (lone (b.atR a (.code (.loop c)::k)) cs m.w) (lone (b.atR a' (.code c:: .inLoop c::k)) cs w'):=
    StepsIn.trans (.one trivial stepR_loop) (StepsIn.trans harr (.one trivial stepR_inLoop))
   have hs:step P (lone (b.atR a' (.code (.loop c)::k)) cs w')= .next (lone (b.atR a' (.code c:: .inLoop c::k)) cs w'):=stepR_loop
   obtain⟨m2,env2,te,_,_,_,_,_,g6,_⟩:=hq2
   cases e2 with
   | normal=>exact s1.trans (zfP hs harr2 fun he=>by have:=congrArg List.length (zfB he);simp at this)
   | exit id=>exact⟨fun k' hk=>s1.trans (zfP hs (harr2.1 k' hk) fun he=>by have:=congrArg List.length (zfB he);have:=zeh hk;simp at *;omega),fun hr hk=>by
      obtain⟨k1,q1,q2⟩:=harr2.2 hr hk
      exact⟨k1,q1,s1.trans (zfP hs q2 fun he=>by have:=zfB he;simp at this)⟩⟩
   | ret=>
     refine⟨fun hr=>?_,fun hr=>?_⟩
     ·obtain⟨todo,hst⟩:=harr2.1 hr
      exact⟨todo,s1.trans (zfP hs hst fun he=>by simp[lone,Frame.atR]at he)⟩
     ·obtain⟨k1,hst⟩:=harr2.2 hr
      exact⟨k1,s1.trans (zfP hs hst fun he=>by have:=zfB he;simp at this)⟩
   | panic ch=>
     obtain⟨todo,hst⟩:=harr2
     exact⟨todo,s1.trans (zfP hs hst fun he=>by simp[lone,Frame.atR]at he)⟩
   | goto l=>cases te <;> simp[zbu]at g6
   | outgrown=>cases te <;> simp[zbu]at g6
 | exit id=>exact pass _ (by simp) hq harr
 | goto l=>exact pass _ (by simp) hq harr
 | ret=>exact pass _ (by simp) hq harr
 | panic ch=>exact pass _ (by simp) hq harr
 | outgrown=>exact pass _ (by simp) hq harr
end rules
abbrev Str:=List UInt8
abbrev str (l:Str):Value:=.string ⟨l.toArray⟩
abbrev SV.i (n:Int):SV:=.t (.v (.int .i64 n))
abbrev SV.b (x:Bool):SV:=.t (.v (.bool x))
abbrev SV.s (l:Str):SV:=.t (.v (str l))
abbrev T.i (n:Int):T:=.v (.int .i64 n)
abbrev T.b (x:Bool):T:=.v (.bool x)
abbrev T.s (l:Str):T:=.v (str l)
inductive TK' where
 | scalar
 | bool
 | int (k:IntKind)
 | str
 | slice (e:TypeId)
 | struct (fs:List (Nat×TypeId))
 | ptr (e:TypeId)
 | map (k e:TypeId)
 | array (n:Nat) (e:TypeId)
 | iface
structure TyI where
 k:TK'
 size:Nat
 bytes:Nat
 zero:List T
inductive Tab where
 | leaf
 | node (l:Tab) (k:Nat) (v:TyI) (r:Tab)
def Tab.get:Tab->TypeId->Option TyI
 | .leaf,_=>none
 | .node l k v r,i=>bif Nat.beq i k then some v else bif Nat.blt i k then Tab.get l i else Tab.get r i
def Tab.every(f:TypeId->TyI->Bool):Tab->Bool
 | .leaf=>true
 | .node l k v r=>f k v && (Tab.every f l && Tab.every f r)
def TK'.fits:TK'->TypeDesc->Bool
 | .scalar,.bool| .scalar,.int _| .str,.string| .bool,.bool=>true
 | .int k,.int l=>k == l
 | .slice e,.slice f=>e == f
 | .struct fs,.struct gs=>fs == gs.toList.map fun f=>(f.offset,f.type)
 | .ptr e,.pointer f=>e == f
 | .map k e,.map l f=>k == l && e == f
 | .array n e,.array m f=>n == m && e == f
 | .iface,.interface _=>true
 | .scalar,.func .. =>true
 | _,_=>false
def T.fits:T->Value->Bool
 | .v (.bool a),.bool b=>a == b
 | .v (.int k a),.int l b=>k == l && a == b
 | .v (.string a),.string b=>a.data == b.data
 | .v (.pointer none),.pointer none=>true
 | .v (.map none),.map none=>true
 | .v .nilFunc,.nilFunc=>true
 | .v .nilIface,.nilIface=>true
 | .sl _ [],.slice none 0 0=>true
 | .v (.slice none 0 0),.slice none 0 0=>true
 | _,_=>false
def zdR:List T->List Value->Bool
 | [],[]=>true
 | t::ts,v::vs=>t.fits v && zdR ts vs
 | _,_=>false
def TK'.agg:TK'->Bool
 | .struct _| .array _ _=>true
 | _=>false
def zti(P:Program)(t:TypeId)(i:TyI):Bool:=
 match P.underlying t,P.info? t with
 | some d,some ti=>i.k.fits d && ti.size == i.size && (ti.bytes == i.bytes && i.zero.length == i.size) && (match ti.zero with
   | some z=>zdR i.zero z.cells.toList && (match i.k,z with| .struct _,.agg _| .array _ _,.agg _=>true| .struct _,_| .array _ _,_=>false|_,.agg _=>false|_,.tuple _=>false|_,_=>true)
   | none=>false)
 | _,_=>false
def zss(P:Program)(tab:Tab):Bool:=tab.every (zti P)
structure Fit (P:Program) (t:TypeId) (i:TyI):Prop where
 len:i.zero.length=i.size
 ex:∃d ti z,P.underlying t=some d/\P.info? t=some ti/\i.k.fits d=true/\ti.size=i.size/\ti.bytes=i.bytes/\ti.zero=some z/\zdR i.zero z.cells.toList=true/\
  (i.k.agg=true->∃cs,z= .agg cs)/\(i.k.agg=false->z.oneCell'=true)
def zaw(P:Program)(tab:Tab):Prop:=∀t i,tab.get t=some i->Fit P t i
theorem Tab.zhu{f:TypeId->TyI->Bool}:∀ {tab:Tab} {t:TypeId} {i:TyI},tab.every f=true->tab.get t=some i->f t i=true
 | .leaf,_,_,_,h=>by simp[Tab.get]at h
 | .node l k v r,t,i,he,h=>by
   simp only[Tab.every,qau]at he
   simp only[Tab.get]at h
   cases hb:Nat.beq t k with
   | true=>
     rw[hb]at h
     simp only[cond_true,qaE]at h
     have:=qbf hb
     subst this;subst h;exact he.1
   | false=>
     rw[hb]at h
     cases hl:Nat.blt t k with
     | true=>rw[hl]at h;exact Tab.zhu he.2.1 h
     | false=>rw[hl]at h;exact Tab.zhu he.2.2 h
theorem ziu{P:Program}{tab:Tab}(h:zss P tab=true):zaw P tab:=by
 intro t i hi
 have:=Tab.zhu h hi
 unfold zti at this
 split at this
 ·rename_i d ti h1 h2
  simp only[qau,beq_iff_eq]at this
  obtain⟨⟨⟨h3,h4⟩,h5,h5'⟩,h6⟩:=this
  split at h6
  ·rename_i z hz
   simp only[qau]at h6
   obtain⟨h7,h8⟩:=h6
   refine⟨h5',d,ti,z,h1,h2,h3,h4,h5,hz,h7,fun ha=>?_,fun ha=>?_⟩
   ·cases hk:i.k <;> simp[hk,TK'.agg]at ha <;> (cases z <;> simp[hk]at h8 <;> exact⟨_,rfl⟩)
   ·cases hk:i.k <;> simp[hk,TK'.agg]at ha <;> (cases z <;> simp[hk,Value.oneCell']at h8⊢)
  ·cases h6
 ·cases this
section rules
variable {P:Program}{n:Nat}{env:Env}{H:Heap}{K:TK}{all:Array Oper}{rest:List Oper}{q:Bool}
theorem TR.region{id:Nat}{l:List Oper}(h:TO false P n l.toArray l env H K):TR P n (.region id l.toArray false) env H K:=
 fun φ m a h1 h2 h3 h4=>zbs (wpIn_region_lit (h φ m a h1 h2 h3 h4))
theorem zdp{C:World->Prop}{Q Q':Act->Prop}(hq:∀a,Q a->Q' a):∀(l:List Oper) (a:Act),wpQuiet P all C Q l a->wpQuiet P all C Q' l a
 | [],a,h=>hq a h
 | o::r,a,h=>by
   unfold wpQuiet at h⊢
   split
   ·rename_i hw;rw[if_pos hw]at h;exact Oper.quiet_mono (fun a' h'=>zdp hq r a' h') h
   ·rename_i hw;rw[if_neg hw]at h;exact zdp hq r _ h
theorem zgW{w:World}{b:Nat}{s:TypeId×Nat}(h:w.shape? b=some s):b<w.heap.size:=by
 unfold World.shape? at h
 cases hq:w.heap[b]? with
 | none=>rw[hq]at h;cases h
 | some o=>exact(qaj.1 hq).1
theorem zbE{w w':World}{b:Nat}(h:w'.heap[b]?=w.heap[b]?):w'.shape? b=w.shape? b:=by simp[World.shape?,h]
theorem zeF{w w':World}(k:Keeps w w'){b:Nat}{s:TypeId×Nat}(h:w.shape? b=some s):w'.shape? b=some s:=by
 rw[zbE (k.block b (zgW h))];exact h
theorem zfi{r:Option Nat}{f:FuncId}{args:Array Value}{w:World}{R:Ending->World->Prop}(h:Calls P f args w R):CallsIn (Fr r) 0 P f args w R:=callsIn_wide.2 h
theorem zhi{r:Option Nat}{f:FuncId}{args:Array Value}{w:World}{R:Ending->World->Prop}(h:CallsIn (Fr r) 0 P f args w R):Calls P f args w R:=callsIn_wide.1 h
def Op.plain:Op->Bool
 | .defer _=>false
 | _=>true
theorem Op.zsc{o:Op}(h:Op.plain o=true):∀c,o≠ .defer c:=by
 intro c e;subst e;simp[Op.plain]at h
theorem za6{r:Option Nat}{ρ:Operand->Value}{o:Oper}{w:World}{x:Next}{w':World}(h:(execOp ρ o).run P w= .ok x w')(hx:∀d,x≠ .defer d):(o.semAt r ρ).run P w= .ok x w':=by
 by_cases hd:∃c,o.op= .defer c
 ·obtain⟨c,hc⟩:=hd
  exfalso
  unfold execOp at h
  rw[hc]at h
  simp only[Sem.run_bind]at h
  cases hr:(resolve ρ c o.type).run P w with
  | ok d w1=>rw[hr]at h;simp at h;exact hx d h.1.symm
  | halt e w1=>rw[hr]at h;simp at h
 ·rw[Oper.semAt_eq _ _ _ (fun c hc=>hd ⟨c,hc⟩)];exact h
theorem ziY{r:Option Nat}{ρ:Operand->Value}{o:Oper}{w:World}(h:Op.plain o.op=true):(o.semAt r ρ).run P w=(execOp ρ o).run P w:=by
 rw[Oper.semAt_eq _ _ _ (Op.zsc h)]
theorem zgU{r:Option Nat}{C:World->Prop}{Q:Act->Prop}:∀(l:List Oper) (a:Act),wpQuiet P all C Q l a->wpQuietIn (Fr r) 0 P all C Q l a
 | [],a,h=>h
 | o::l,a,h=>by
   unfold wpQuiet at h
   unfold wpQuietIn
   refine⟨fun _ _ _ _=>trivial,?_⟩
   split
   ·rename_i hw
    rw[if_pos hw]at h
    obtain⟨v,h1,h2⟩:=h
    refine⟨v,fun w hw=>?_,zgU l _ h2⟩
    have h3:=h1 w hw
    unfold Oper.quietAt at h3
    unfold Oper.quietAtIn
    generalize (execOp a.eval o).run P w=z at h3⊢
    cases z with
    | ok x w'=>
      cases x <;> simp only[Oper.quietUpon]at h3 <;> simp only[Oper.quietUponIn] <;> first
       | exact h3
       | exact⟨h3.1,fun h=>(by simp[Fence.wide]at h),zfi h3.2⟩
    | halt x w'=>simp only[Oper.quietUpon]at h3
   ·rename_i hw
    rw[if_neg hw]at h
    exact zgU l _ h
theorem zhE{r:Option Nat}{C:World->Prop}{o:Oper}{a:Act}{K:Act->Prop}{K':Act->World->Prop}{Q':Exit->Act->World->Prop}{w:World}(hp:Op.plain o.op=true)(hw:C w)(h:∀a w',C w'->K a->K' a w')
  (hh:o.quietIn (Fr r) 0 P a C K):o.wpIn (Fr r) 0 P a w K' Q':=by
 obtain⟨v,h1,h2⟩:=hh
 have h3:=h1 w hw
 unfold Oper.quietAtIn at h3
 unfold Oper.wpIn
 refine⟨fun _ _=>trivial,?_⟩
 rw[ziY hp]
 generalize (execOp a.eval o).run P w=z at h3⊢
 cases z with
 | ok x w'=>
   cases x <;> simp only[Oper.quietUponIn]at h3 <;> simp only[Oper.uponIn]
   case value u=>
    obtain⟨rfl,rfl⟩:=h3
    exact h _ _ hw h2
   case skip=>
    obtain⟨rfl,rfl⟩:=h3
    exact h _ _ hw h2
   case enter f args=>
    obtain⟨rfl,hd,hc⟩:=h3
    refine⟨hd,zfi (Calls.mono (zhi hc) ?_)⟩
    rintro e w2 ⟨rfl,hw2⟩
    exact h _ _ hw2 h2
 | halt x w'=>simp only[Oper.quietUponIn]at h3
theorem zdb{r:Option Nat}{C:World->Prop}{md:Region.Mode}{Q:Act->Prop}{Q':Exit->Act->World->Prop}(hp:∀(i:Nat) o,all[i]?=some o->Op.plain o.op=true)(hQ:∀a w,C w->Q a->Q' .normal a w):∀(fuel:Nat) (listed:Array Bool) (a:Act) (w:World),C w->
  wpAnyQIn (Fr r) 0 P md all C Q fuel listed a->wpAnyIn (Fr r) 0 P md all Q' fuel listed a w
 | 0,_,_,_,hw,h=>⟨h.1,hQ _ _ hw h.2⟩
 | fuel+1,listed,a,w,hw,h=>⟨fun h0=>hQ _ _ hw (h.1 h0),fun i hi=>by
    have h2:=h.2 i hi
    unfold qOpIn at h2
    unfold wpOpIn
    cases ho:all[i]? with
    | none=>simp only[ho]at h2⊢;exact zdb hp hQ fuel _ _ _ hw h2
    | some o=>
      simp only[ho]at h2⊢
      obtain⟨_,h2⟩:=h2
      split
      ·rename_i hwt
       rw[if_pos hwt]at h2
       exact zhE (hp i o ho) hw (fun a' w' hw' hk=>zdb hp hQ fuel _ a' w' hw' hk) h2
      ·rename_i hwt
       rw[if_neg hwt]at h2
       exact⟨fun _ _=>trivial,zdb hp hQ fuel _ _ _ hw h2⟩⟩
theorem zk6{r:Option Nat}{C:World->Prop}{id:Nat}{l:List Oper}{Q:Exit->Act->World->Prop}{a:Act}{w:World}(hm:P.follows .mixedOrders=true)(hB:Region.lexB .any l.toArray=true)(hp:l.all (fun o=>Op.plain o.op)=true)
  (hC:C { w with drawn:=w.drawn+1 })(h:wpQuiet P l.toArray C (fun a'=>∀w',C w'->Q .normal a' w') l a):(Code.region id l.toArray true).wpIn (Fr r) 0 P Q a w:=by
 simp only[Region.lexB,qau]at hB
 refine wpIn_region_any hm (zdb (Q:=fun a'=>∀w',C w'->Q .normal a' w') (fun i o ho=>?_) (fun _ w' hw' h=>h w' hw') _ _ _ _ hC ?_)
 ·exact qaw.1 hp o (qas (by simpa using ho))
 ·have:=wpAnyQIn_lex (F:=Fr r) (n:=0) (P:=P) (C:=C) (md:=.any) (Q:=fun a'=>∀w',C w'->Q .normal a' w') hB.1 l 0 (Array.replicate l.toArray.size false) a (by simp) (by simpa using hB.2) (zgU l a h)
  simpa using this
theorem zue{m:M}(hm:HRel m){k:Nat}{x:Option (List Deferred)}(h:m.w.heap[k]?=some (.deferred x))(o:Nat):¬Own m k o:=by
 rintro⟨i,p,kk,h1,h2,h3,rfl,h5,h6⟩
 have hb:=hm.blk i p kk h1 h2
 have hn:∀o,m.w.cell? ⟨p.b,o,none⟩=none:=fun o=>by simp[World.cell?,h]
 cases kk with
 | cells cs=>have:=(hb.2.1 o h5 h6).1;rw[hn]at this;cases this
 | tail n=>have:=(hb o h5 h6).1;rw[hn]at this;cases this
 | row e cs=>have:=(hb.2.1 o h5 h6).1;rw[hn]at this;cases this
 | map kt vt es=>obtain⟨_,_,a,c,g,_⟩:=hb;rw[h]at g;cases g
 | loop fn st pe n env ps aas bo=>obtain⟨_,_,L,g,_⟩:=hb;rw[h]at g;cases g
 | dead=>simp[Blk.live]at h3
theorem zdv.step{φ:Fm}{m m':M}(hm:HRel m)(s:Step m m'){l:List Deferred}(h:zdv φ m.w l):zdv φ m'.w l:=by
 obtain⟨⟨ks,h1,h2,h4,h3⟩,h5,h6⟩:=h
 refine⟨⟨ks,h1,h2,h4,fun k hk=>?_⟩,qaq h5 s.size,fun l hl=>let ⟨L,hL⟩:=h6 l hl;s.loop l L hL⟩
 obtain⟨g2,g3⟩:=h3 k hk
 exact⟨g2,by rw[s.block k (qaj.1 g3).1 (zue hm g3)];exact g3⟩
theorem TR.zqs{id:Nat}{l:List Oper}(hm:P.follows .mixedOrders=true)(hB:Region.lexB .any l.toArray=true)(hp:l.all (fun o=>Op.plain o.op)=true)(h:TO true P n l.toArray l env H K):TR P n (.region id l.toArray true) env H K:=by
 intro φ m a h1 h2 h3 h4
 have hq:=h φ m a h1 h2 h3 h4
 have keepStep:∀w',Keeps m.w w'->Step m ⟨m.A,m.β,m.H,w'⟩/\HRel ⟨m.A,m.β,m.H,w'⟩:=by
  intro w' k
  have hc:∀b o,b<m.w.heap.size->w'.cell? ⟨b,o,none⟩=m.w.cell? ⟨b,o,none⟩:=fun b o hb=>by simp[World.cell?,k.block b hb]
  have hf:∀b o,b<m.w.heap.size->w'.frozen? ⟨b,o,none⟩=m.w.frozen? ⟨b,o,none⟩:=fun b o hb=>by simp[World.frozen?,k.block b hb]
  have s:Step m ⟨m.A,m.β,m.H,w'⟩:=⟨k.os,k.tape,k.output,k.size,fun _ _ h=>h,fun _ _ h=>.inl h,fun _ _ h=>.inl h,fun b o hb _=>hc b o hb,fun b o hb _ _=>hf b o hb,fun b hb _=>k.block b hb,fun b s hs=>zeF k hs,fun b L hL=>⟨L,by show w'.heap[b]?=_;rw[k.block b (qaj.1 hL).1];exact hL⟩,fun b o hb h=>by rw[hc b o hb];exact h,(Step.refl m).ids⟩
  refine⟨s,h2.len,fun i p kk g1 g2=>?_,h2.apart,h2.still,fun b o h=>qa0 (h2.inA b o h) k.size,fun i p kk g1 g2 g3 g4=>qa0 (h2.inO i p kk g1 g2 g3 g4) k.size,s.glob h2⟩
  have hb:=h2.blk i p kk g1 g2
  cases kk with
  | cells cs=>
    obtain⟨b1,b2,b3⟩:=hb
    refine⟨b1,fun o ho ho'=>?_,fun j c hc'=>?_⟩
    ·exact zwcz
    ·obtain⟨y,y1,y0,y2⟩:=b3 j c hc'
     have hj:=(qaa.1 hc').1
     have hlt:=h2.inO i p _ g1 g2 rfl (by omega)
     exact⟨y,by rw[hc _ _ hlt];exact y1,y0,s.srel h2 y2⟩
  | tail t=>
    intro o ho ho'
    have:=hb o ho ho'
    have hlt:=h2.inO i p _ g1 g2 rfl (by omega)
    unfold Free at this⊢
    rw[hc _ _ hlt,hf _ _ hlt];exact this
  | row e cs=>
    obtain⟨b1,b2,b3⟩:=hb
    refine⟨⟨b1.1,b1.2.1,fun h=>zeF k (b1.2.2 h)⟩,fun o ho ho'=>?_,fun j c hc'=>?_⟩
    ·exact zwcz
    ·obtain⟨y,y1,y0,y2⟩:=b3 j c hc'
     have hj:=(qaa.1 hc').1
     have hlt:=h2.inO i p _ g1 g2 rfl (by omega)
     exact⟨y,by rw[hc _ _ hlt];exact y1,y0,s.trel h2 y2⟩
  | map kt vt es=>
    obtain⟨b1,b2,a,clock,b3,b4,b5⟩:=hb
    have hlt:=h2.inO i p _ g1 g2 rfl (by omega)
    exact⟨b1,b2,a,clock,by rw[k.block _ hlt];exact b3,b4,fun i k t e he ha=>⟨(b5 i k t e he ha).1,s.trel h2 (b5 i k t e he ha).2.1,(b5 i k t e he ha).2.2⟩⟩
  | loop fn st pe n' env' ps aas bo=>
    obtain⟨b1,b2,L,b3,b4,b5⟩:=hb
    have hlt:=h2.inO i p _ g1 g2 rfl (by omega)
    exact⟨b1,b2,L,by rw[k.block _ hlt];exact b3,b4,b5.step h2 s⟩
  | dead=>trivial
 refine zbs (zk6 (C:=Keeps m.w) hm hB hp ⟨rfl,rfl,rfl,qae _,fun _ _=>rfl⟩ ?_)
 refine zdp ?_ l a hq
 rintro a' ⟨env',g1,g2,g3⟩ w' hw'
 obtain⟨s,hm'⟩:=keepStep w' hw'
 exact⟨_,env',.normal,rfl,s,hm',g1.step h2 s,g2.step h2 s,trivial,g3⟩
theorem TO.nil(h:K .normal env H):TO q P n all [] env H K:=by
 intro φ m a h1 h2 h3 h4
 cases q with
 | false=>exact wpListIn_nil ⟨m,env,.normal,rfl,.refl m,h2,h3,h4,trivial,h1 ▸ h⟩
 | true=>exact⟨env,h3,h4,h1 ▸ h⟩
theorem zaX{F:Fence}{n:Nat}{Q Q':Exit->Act->World->Prop}(hq:∀e a w,Q e a w->Q' e a w)(hout:∀a w,¬Q .outgrown a w):∀(l:List Oper) (a:Act) (w:World),wpListIn F n P all Q l a w->wpListIn F n P all Q' l a w
 | [],a,w,h=>hq _ _ _ h
 | o::r,a,w,h=>by
   unfold wpListIn at h⊢
   split
   ·rename_i hw
    rw[if_pos hw]at h
    unfold Oper.wpIn at h⊢
    refine⟨h.1,?_⟩
    revert h
    generalize (o.semAt F.round a.eval).run P w=r'
    rintro⟨_,h⟩
    cases r' with
    | ok x w'=>
      cases x <;> simp only[Oper.uponIn]at h⊢ <;> first
       | exact zaX hq hout r _ _ h
       | (refine⟨h.1,CallsIn.mono h.2 fun e w2 h2=>?_⟩
          cases e with
          | returned v=>exact zaX hq hout r _ _ h2
          | panicked ch=>exact hq _ _ _ h2
          | outgrown=>obtain⟨a0,w0,h0⟩:=h2;exact absurd h0 (hout _ _))
       | (exact⟨h.1,RowsIn.mono h.2 fun v w2 h2=>zaX hq hout r _ _ h2⟩)
       | (refine⟨h.1,RoundIn.mono h.2 fun e w2 h2=>?_⟩
          cases e with
          | returned v=>exact zaX hq hout r _ _ h2
          | panicked ch=>exact hq _ _ _ h2
          | outgrown=>obtain⟨a0,w0,h0⟩:=h2;exact absurd h0 (hout _ _))
    | halt x w'=>
      cases x <;> simp only[Oper.uponIn]at h⊢
      exact hq _ _ _ h
   ·rename_i hw
    rw[if_neg hw]at h
    exact⟨h.1,zaX hq hout r _ _ h.2⟩
theorem Post.zcG{φ:Fm}{m:M}{a:Act}{w:World}:¬Post φ m n K .outgrown a w:=by
 rintro⟨m2,env2,te,_,_,_,_,_,h,_⟩
 cases te <;> simp[zbu]at h
theorem TO.zeM{φ:Fm}{r:Option Nat}{ops:List Oper}{m m':M}{a:Act}(s:Step m m')(h:wpListIn (Fr r) 0 P all (Post φ m' n K) ops a m'.w):wpListIn (Fr r) 0 P all (Post φ m n K) ops a m'.w:=
 zaX (fun _ _ _ hp=>hp.step s) (fun _ _=>Post.zcG) ops a m'.w h
def zlx(all:Array Oper)(env:Env)(g:Option (Nat×Bool)):Option Bool:=
 match g with
 | none=>some true
 | some (j,want)=>match (all[j]?).bind (·.dst) with
   | some d=>match env.look d with
     | some (.t (.v (.bool b)))=>some (b == want)
     | some (.t (.v (.tuple _)))=>some false
     | _=>none
   | none=>none
theorem zh9{m:M}{a:Act}{o:Oper}{c:Bool}(he:ERel m n env a.tmps)(h:zlx all env o.guard=some c):Region.wanted o (yielded all a.tmps)=c:=by
 unfold Region.wanted
 cases hg:o.guard with
 | none=>rw[hg]at h;simp[zlx]at h;simp[h]
 | some g=>
   obtain⟨j,want⟩:=g
   rw[hg]at h
   simp only[zlx]at h
   simp only[yielded]
   cases hd:(all[j]?).bind (·.dst) with
   | none=>rw[hd]at h;cases h
   | some d=>
     rw[hd]at h
     simp only[]at h
     cases hv:env.look d with
     | none=>rw[hv]at h;cases h
     | some v=>
       rw[hv]at h
       obtain⟨x,h1,h2⟩:=he.2 d v hv
       split at h
       ·rename_i b heq
        cases heq
        have:=h2.v_eq
        subst this
        simp only[qaE]at h
        subst h
        simp[h1]
       ·rename_i arr heq
        cases heq
        have:=h2.v_eq
        subst this
        simp only[qaE]at h
        subst h
        simp[h1]
       ·cases h
theorem TO.want{d:Option Tmp}{op:Op}{ty:TypeId}{pos:String}{aft:Array Edge}{g:Nat×Bool}(hw:zlx all env (some g)=some true)
  (k:TO q P n all (⟨d,op,ty,pos,aft,none⟩::rest) env H K):TO q P n all (⟨d,op,ty,pos,aft,some g⟩::rest) env H K:=by
 intro φ m a h1 h2 h3 h4
 have h:=k φ m a h1 h2 h3 h4
 have hw':=zh9 (o:=⟨d,op,ty,pos,aft,some g⟩) (all:=all) h3 hw
 cases q with
 | false=>
   simp only at h⊢
   unfold wpListIn at h⊢
   rw[if_pos hw']
   simp only[Region.wanted,if_true]at h
   exact h
 | true=>
   simp only at h⊢
   unfold wpQuiet at h⊢
   rw[if_pos hw']
   simp only[Region.wanted,if_true]at h
   exact h
theorem TO.pass{d:Nat}{op:Op}{ty:TypeId}{pos:String}{aft:Array Edge}{g:Nat×Bool}(hd:Nat.ble (d+1) n=true)(hw:zlx all env (some g)=some false)
  (k:TO q P n all rest ((d,.t (.v undef))::env) H K):TO q P n all (⟨some d,op,ty,pos,aft,some g⟩::rest) env H K:=by
 intro φ m a h1 h2 h3 h4
 have hw':=zh9 (o:=⟨some d,op,ty,pos,aft,some g⟩) (all:=all) h3 hw
 have hk:=k φ m _ h1 h2 (h3.put d (qag hd) (.t _ _ (.v undef))) (by simpa [Act.put]using h4)
 cases q with
 | false=>
   simp only at hk⊢
   unfold wpListIn
   rw[if_neg (by rw[hw'];exact qb4)]
   exact⟨fun _ _=>trivial,hk⟩
 | true=>
   simp only at hk⊢
   unfold wpQuiet
   rw[if_neg (by rw[hw'];exact qb4)]
   exact hk
theorem TO.zvE{op:Op}{ty:TypeId}{pos:String}{aft:Array Edge}{g:Nat×Bool}(hw:zlx all env (some g)=some false)
  (k:TO q P n all rest env H K):TO q P n all (⟨none,op,ty,pos,aft,some g⟩::rest) env H K:=by
 intro φ m a h1 h2 h3 h4
 have hw':=zh9 (o:=⟨none,op,ty,pos,aft,some g⟩) (all:=all) h3 hw
 have hk:=k φ m _ h1 h2 h3 h4
 cases q with
 | false=>
   simp only at hk⊢
   unfold wpListIn
   rw[if_neg (by rw[hw'];exact qb4)]
   exact⟨fun _ _=>trivial,hk⟩
 | true=>
   simp only at hk⊢
   unfold wpQuiet
   rw[if_neg (by rw[hw'];exact qb4)]
   exact hk
theorem TO.op{d:Nat}{op:Op}{ty:TypeId}{pos:String}{aft:Array Edge}{v:SV}(hd:Nat.ble (d+1) n=true)
  (h:∀(m:M) (a:Act),m.H=H->HRel m->ERel m n env a.tmps->∃x,(∀w',Keeps m.w w'->(execOp a.eval ⟨some d,op,ty,pos,aft,none⟩).run P w'= .ok (.value x) w')/\SRel m v x)
  (k:TO q P n all rest ((d,v)::env) H K):TO q P n all (⟨some d,op,ty,pos,aft,none⟩::rest) env H K:=by
 intro φ m a h1 h2 h3 h4
 obtain⟨x,hx,hr⟩:=h m a h1 h2 h3
 have hk:=k φ m _ h1 h2 (h3.put d (qag hd) hr) (by simpa [Act.put]using h4)
 cases q with
 | false=>
   refine wpListIn_plain rfl fun K' hK=>?_
   unfold Oper.wpIn
   refine⟨fun _ _=>trivial,?_⟩
   rw[za6 (hx m.w ⟨rfl,rfl,rfl,qae _,fun _ _=>rfl⟩) (by intro d e;cases e)]
   simp only[Oper.uponIn]
   exact hK _ _ hk
 | true=>
   simp only at hk⊢
   unfold wpQuiet
   simp only[Region.wanted,if_true]
   exact⟨x,fun w' hw'=>by unfold Oper.quietAt;rw[hx w' hw'];exact⟨rfl,rfl⟩,hk⟩
theorem Keeps.cell{w w':World}(k:Keeps w w'){b o:Nat}(hb:b<w.heap.size):w'.cell? ⟨b,o,none⟩=w.cell? ⟨b,o,none⟩:=by simp[World.cell?,k.block b hb]
variable {d:Nat}{ty:TypeId}{pos:String}{aft:Array Edge}
theorem TO.move{x:Operand}{v:SV}(hd:Nat.ble (d+1) n=true)(hx:env.val x=some v)(k:TO q P n all rest ((d,v)::env) H K):TO q P n all (⟨some d,.move x,ty,pos,aft,none⟩::rest) env H K:=
 TO.op hd (fun m a h1 h2 h3=>⟨_,fun _ _=>rfl,h3.val hx⟩) k
theorem TO.assign{x:Operand}{v:SV}(hd:Nat.ble (d+1) n=true)(hx:env.val x=some v)(k:TO q P n all rest ((d,v)::env) H K):TO q P n all (⟨some d,.assign x,ty,pos,aft,none⟩::rest) env H K:=
 TO.op hd (fun m a h1 h2 h3=>⟨_,fun _ _=>rfl,h3.val hx⟩) k
theorem TO.pick{c x y:Operand}{b:Bool}{v:SV}(hd:Nat.ble (d+1) n=true)(hc:env.val c=some (.t (.v (.bool b))))(hx:(bif b then env.val x else env.val y)=some v)
  (k:TO q P n all rest ((d,v)::env) H K):TO q P n all (⟨some d,.pick c x y,ty,pos,aft,none⟩::rest) env H K:=
 TO.op hd (fun m a h1 h2 h3=>by
  have h:=(h3.val hc).v_eq
  refine⟨if b then a.eval x else a.eval y,?_,?_⟩
  ·intro w' _;simp[execOp,h,asBool]
  ·cases b
   ·exact h3.val hx
   ·exact h3.val hx) k
def zbG:BinOp->Value->Value->Option Value
 | .add,.int .i64 a,.int .i64 b=>some (.int .i64 (IntKind.i64.wrap (a+b)))
 | .sub,.int .i64 a,.int .i64 b=>some (.int .i64 (IntKind.i64.wrap (a-b)))
 | .mul,.int .i64 a,.int .i64 b=>some (.int .i64 (IntKind.i64.wrap (a*b)))
 | .eql,.int k a,.int k' b=>if k=k' then some (.bool (a == b)) else none
 | .neq,.int k a,.int k' b=>if k=k' then some (.bool (a != b)) else none
 | .lss,.int k a,.int k' b=>if k=k' then some (.bool (decide (a<b))) else none
 | .leq,.int k a,.int k' b=>if k=k' then some (.bool (decide (a≤b))) else none
 | .gtr,.int k a,.int k' b=>if k=k' then some (.bool (decide (b<a))) else none
 | .geq,.int k a,.int k' b=>if k=k' then some (.bool (decide (b≤a))) else none
 | .add,.int k a,.int k' b=>if k=k' then some (.int k (k.wrap (a+b))) else none
 | .sub,.int k a,.int k' b=>if k=k' then some (.int k (k.wrap (a-b))) else none
 | .mul,.int k a,.int k' b=>if k=k' then some (.int k (k.wrap (a*b))) else none
 | .eql,.string a,.string b=>some (.bool (a.data.toList == b.data.toList))
 | .neq,.string a,.string b=>some (.bool (!(a.data.toList == b.data.toList)))
 | .lss,.string a,.string b=>some (.bool (Op.bytesLess a.data.toList b.data.toList))
 | .leq,.string a,.string b=>some (.bool (Op.bytesLess a.data.toList b.data.toList || a.data.toList == b.data.toList))
 | .gtr,.string a,.string b=>some (.bool (!(Op.bytesLess a.data.toList b.data.toList || a.data.toList == b.data.toList)))
 | .geq,.string a,.string b=>some (.bool (!(Op.bytesLess a.data.toList b.data.toList)))
 | _,_,_=>none
theorem zlJ{op:BinOp}{t:TypeId}{x y:Operand}{a b z:Value}{w:World}(h:zbG op a b=some z):
  ((do eqGuard op t x y a b;binOp op t a b):Sem Value).run P w= .ok z w:=by
 cases a <;> cases b <;> (try(cases op <;> simp[zbG]at h;done))
 ·rename_i k a k' b
  by_cases hk:k=k'
  ·subst hk
   cases op <;> (try(simp[zbG]at h;done)) <;> (try(cases k <;> simp[zbG]at h <;> subst h <;> simp[eqGuard,binOp,Op.intArith,Op.intCmp];done))
  ·cases op <;> (try(simp[zbG,hk]at h;done)) <;> (cases k <;> cases k' <;> simp[zbG]at h hk)
 ·cases op <;> (try(simp[zbG]at h;done)) <;> simp only[zbG,qaE]at h <;> subst h <;> simp[eqGuard,binOp,Op.stringOp,ByteArray.toList_eq]
end rules
end Go.TL
