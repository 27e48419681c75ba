import Derived.Test.YtdicfgideclbdaaGreatDoorAz
import Derived.WalkKit
import Derived.Deep.Quiet
import Derived.OrdersIn
import Derived.TacticsIn
import Derived.RangeFuncLeaves
import Derived.RangeFuncRecord
import Derived.Sort.QuietThIn
set_option maxHeartbeats 64000000
set_option linter.all false
namespace Go.TL
open Go
theorem leB{a b:Nat}(h:Nat.ble a b=true:=by exact rfl):a≤b:=qaj h
variable {w':World}{x y:Operand}{a:Act}{c:Code}{r:Option Nat}{j:Int}{tmps:Array Value}{k:List Item}{e:Exit}{k' ik:IntKind}{Q:Exit->Act->World->Prop}{f:FuncId}{R:Ending->World->Prop}{o:Oper}{ρ:Operand->Value}{C:World->Prop}{g:Nat×Bool}{t' ft ty:TypeId}{sz fi d:Nat}{fs:List (Nat×TypeId)}{lo hi:Option Operand}{P:Program}{all:Array Oper}{rest:List Oper}{q:Bool}{aft:Array Edge}
abbrev gPow:Nat:=1
def powA:Array Value:=([1,10,100,1000,10000,100000,1000000,10000000,100000000,1000000000,10000000000,100000000000,1000000000000,10000000000000,100000000000000,1000000000000000,10000000000000000,100000000000000000,1000000000000000000,10000000000000000000]:List Int).map (fun z=>Value.int .u64 z) |>.toArray
def gtab(b:Nat):Option (Array Value):=if b=gPow then some powA else none
theorem zxz{b:Nat}{cs:Array Value}(h:gtab b=some cs):b=gPow/\cs=powA:=by
 unfold gtab at h;split at h
 ·rename_i e;cases h;exact⟨e,rfl⟩
 ·cases h
theorem zux:gtab gPow=some powA:=oG rfl
inductive T where
 | v (x:Value)
 | sl (sz:Nat) (es:List T)
 | ag (cs:List T)
instance:Inhabited T:=⟨.v undef⟩
variable {es:List T}
def T.cells:T->List T
 | .ag cs=>cs
 | t=>[t]
abbrev Foot:=Nat->Nat->Prop
variable {A:Foot}
inductive TRel (A:Foot) (w:World):T->Value->Prop
 | v (x:Value):TRel A w (.v x) x
 | ag (cs:List T) (arr:Array Value) (hs:arr.size=cs.length) (h1:∀(i:Nat) y,arr[i]?=some y->y.oneCell'=true) (h:∀(i:Nat) c y,cs[i]?=some c->arr[i]?=some y->TRel A w c y):TRel A w (.ag cs) (.agg arr)
 | nil (sz:Nat):TRel A w (.sl sz []) (.slice none 0 0)
 | empty (sz:Nat) (a:Addr):TRel A w (.sl sz []) (.slice (some a) 0 0)
 | sl (sz:Nat) (es:List T) (b off cap:Nat) (f:Nat->Value) (hcap:es.length≤cap)
    (hsz:∀(i:Nat) e,es[i]?=some e->e.cells.length=sz)
    (hA:∀i j,i<es.length->j<sz->A b (off+(i*sz+j)))
    (hw:∀i j,i<es.length->j<sz->w.cell? ⟨b,off+(i*sz+j),none⟩=some (f (i*sz+j)))
    (h1:∀i j,i<es.length->j<sz->(f (i*sz+j)).oneCell'=true)
    (h:∀(i:Nat) e (j:Nat) c,es[i]?=some e->e.cells[j]?=some c->TRel A w c (f (i*sz+j))):TRel A w (.sl sz es) (.slice (some ⟨b,off,none⟩) es.length cap)
structure Place where
 b:Nat
 lo:Nat
 hi:Nat
inductive SV where
 | t (t:T)
 | sl (sz:Nat) (es:List T) (id:Nat)
 | ms (sz:Nat) (id off len:Nat)
 | cp (cs:List T) (off:Nat)
 | ref (id off:Nat)
 | tref (e:TypeId) (n id off:Nat)
 | rw(id len:Nat)
 | mp (id:Nat)
 | yl (id:Nat)
 | ag (cs:List SV)
 | tup (vs:List SV)
 | fn (f:FuncId) (caps:List SV)
 | bnd (f:FuncId) (bs:List SV)
 | ifc (ty:TypeId) (x:SV)
 | any
instance:Inhabited SV:=⟨.any⟩
variable {cs:List SV}
def SV.cells:SV->List SV
 | .ag cs=>cs
 | .t (.ag cs)=>cs.map .t
 | x=>[x]
inductive Blk where
 | cells (cs:List SV)
 | tail (n:Nat)
 | row (e:TypeId) (cs:List T)
 | map (kt vt:TypeId) (es:List (Value×T))
 | loop (fn:FuncId) (st:LoopState) (pe:Option Code) (n:Nat) (env:List (Nat×SV)) (ps:Array Tmp) (assign body:Code)
 | dead
instance:Inhabited Blk:=⟨.dead⟩
def Blk.obj:Blk->Bool
 | .map .. | .loop .. =>true
 | _=>false
abbrev Heap:=List Blk
variable {H:Heap}
def Blk.live:Blk->Bool
 | .dead=>false
 | _=>true
def zwZ(p:Place)(sz:Nat)(x:Value):Prop:=
 ∃ad len cap,x= .slice ad len cap/\len≤cap/\(match ad with
  | none=>len=0/\cap=0/\p.lo=p.hi
  | some a=>a.block=p.b/\p.lo=a.off+len*sz/\p.hi=a.off+cap*sz/\a.spot=none)
structure M where
 A:Foot
 β:List Place
 H:Heap
 w:World
variable {m m':M}
def tlOf:Option Blk->Option Nat
 | some (.tail n)=>some n
 | some (.row _ cs)=>some cs.length
 | _=>none
def zfH(H:Heap)(id:Nat):Prop:=∀n,tlOf H[id]? ≠some n
def zyv(p:Place)(len:Nat)(x:Value):Prop:=
 ∃ad cap,x= .slice ad len cap/\len≤cap/\p.lo=0/\p.hi=cap/\(match ad with
  | none=>cap=0
  | some a=>a=⟨p.b,0,none⟩/\0<cap)
inductive SRel (m:M):SV->Value->Prop
 | t (t:T) (x:Value) (h:TRel m.A m.w t x):SRel m (.t t) x
 | sl (sz:Nat) (es:List T) (id:Nat) (x:Value) (p:Place) (h:TRel m.A m.w (.sl sz es) x) (hp:m.β[id]?=some p)
    (ho:∀n,tlOf m.H[id]?=some n->es.length≤n/\(es.length=n->zwZ p sz x)):SRel m (.sl sz es id) x
 | ms (sz id off len cap:Nat) (p:Place) (hp:m.β[id]?=some p) (hn:zfH m.H id) (hc:len≤cap) (hh:p.lo+off+cap*sz=p.hi):
    SRel m (.ms sz id off len) (.slice (some ⟨p.b,p.lo+off,none⟩) len cap)
 | cp (cs:List T) (off b o:Nat) (f:Nat->Value) (h1:∀j,j<cs.length->(f j).oneCell'=true) (hA:∀j,j<cs.length->m.A b (o+j)) (hw:∀j,j<cs.length->m.w.cell? ⟨b,o+j,none⟩=some (f j))
    (h:∀(j:Nat) c,cs[j]?=some c->TRel m.A m.w c (f j)):SRel m (.cp cs off) (.pointer (some ⟨b,o+off,none⟩))
 | ref (id off:Nat) (p:Place) (hp:m.β[id]?=some p) (hn:zfH m.H id):SRel m (.ref id off) (.pointer (some ⟨p.b,p.lo+off,none⟩))
 | tref (e:TypeId) (n id off:Nat) (p:Place) (hp:m.β[id]?=some p) (hn:zfH m.H id) (h0:p.lo=0) (hs:m.w.shape? p.b=some (e,n)):SRel m (.tref e n id off) (.pointer (some ⟨p.b,p.lo+off,none⟩))
 | rw(id len:Nat) (x:Value) (p:Place) (hp:m.β[id]?=some p) (hx:∃ad n c,x= .slice ad n c) (ho:∀n,tlOf m.H[id]?=some n->len≤n/\(len=n->zyv p len x)):SRel m (.rw id len) x
 | mp (id:Nat) (p:Place) (hp:m.β[id]?=some p) (hn:zfH m.H id):SRel m (.mp id) (.map (some p.b))
 | yl (id:Nat) (p:Place) (hp:m.β[id]?=some p) (hn:zfH m.H id):SRel m (.yl id) (.func (.yield p.b) #[] #[])
 | ag (cs:List SV) (arr:Array Value) (hs:arr.size=cs.length) (h1:∀(i:Nat) y,arr[i]?=some y->y.oneCell'=true) (h:∀(i:Nat) c y,cs[i]?=some c->arr[i]?=some y->SRel m c y):SRel m (.ag cs) (.agg arr)
 | tup (cs:List SV) (arr:Array Value) (hs:arr.size=cs.length) (h:∀(i:Nat) c y,cs[i]?=some c->arr[i]?=some y->SRel m c y):SRel m (.tup cs) (.tuple arr)
 | fn (f:FuncId) (cs:List SV) (arr:Array Value) (hs:arr.size=cs.length) (h:∀(i:Nat) c y,cs[i]?=some c->arr[i]?=some y->SRel m c y):SRel m (.fn f cs) (.func (.func f) #[] arr)
 | bnd (f:FuncId) (cs:List SV) (arr:Array Value) (hs:arr.size=cs.length) (h:∀(i:Nat) c y,cs[i]?=some c->arr[i]?=some y->SRel m c y):SRel m (.bnd f cs) (.func (.func f) arr #[])
 | ifc (ty:TypeId) (s:SV) (x:Value) (h:SRel m s x):SRel m (.ifc ty s) (.iface ty x)
 | any (x:Value):SRel m .any x
def Own(m:M):Foot:=fun b o=>∃(i:Nat) (p:Place) (k:Blk),m.β[i]?=some p/\m.H[i]?=some k/\k.live=true/\p.b=b/\p.lo≤o/\o<p.hi
def Free(w:World)(b o:Nat):Prop:=(w.cell? ⟨b,o,none⟩).isSome=true/\w.frozen? ⟨b,o,none⟩=false
abbrev Env:=List (Nat×SV)
variable {env:Env}
def Env.look:Env->Nat->Option SV
 | [],_=>none
 | (k,v)::r,i=>bif Nat.beq k i then some v else Env.look r i
def ERel(m:M)(n:Nat)(env:Env)(tmps:Array Value):Prop:=
 tmps.size=n/\∀i v,env.look i=some v->∃x,tmps[i]?=some x/\SRel m v x
def zgm(m:M)(p:Place):Blk->Prop
 | .cells cs=>p.lo+cs.length≤p.hi/\(∀o,p.lo≤o->o<p.hi->Free m.w p.b o)/\∀(j:Nat) c,cs[j]?=some c->∃y,m.w.cell? ⟨p.b,p.lo+j,none⟩=some y/\y.oneCell'=true/\SRel m c y
 | .tail _=>∀o,p.lo≤o->o<p.hi->Free m.w p.b o
 | .row e cs=>(p.lo=0/\cs.length≤p.hi/\(0<p.hi->m.w.shape? p.b=some (e,p.hi)))/\(∀o,p.lo≤o->o<p.hi->Free m.w p.b o)/\∀(j:Nat) c,cs[j]?=some c->∃y,m.w.cell? ⟨p.b,p.lo+j,none⟩=some y/\y.oneCell'=true/\TRel m.A m.w c y
 | .map _ _ es=>p.lo=0/\p.hi=1/\∃(a:Array MapEntry) (clock:Nat),m.w.heap[p.b]?=some (.map a clock)/\a.size=es.length/\
    ∀(i:Nat) k t (e:MapEntry),es[i]?=some (k,t)->a[i]?=some e->e.key=k/\TRel m.A m.w t e.val/\e.born<clock
 | .loop fn st pe n env ps assign body=>p.lo=0/\p.hi=1/\∃L:Loop,m.w.heap[p.b]?=some (.loop L)/\(L.fn=fn/\L.state=st/\L.pending=pe/\L.params=ps/\L.assign=assign/\L.body=body)/\ERel m n env L.tmps
 | .dead=>True
def Place.apart(p q:Place):Prop:=p.b=q.b->p.hi≤q.lo\/q.hi≤p.lo\/p.hi≤p.lo\/q.hi≤q.lo
def Glob(A:Foot)(w:World):Prop:=∀b cs,gtab b=some cs->(∀o,A b o)/\∃e f,w.heap[b]?=some (.cells cs e f)
structure HRel (m:M):Prop where
 len:m.β.length=m.H.length
 blk:∀(i:Nat) p k,m.β[i]?=some p->m.H[i]?=some k->zgm m p k
 apart:∀(i j:Nat) p q k l,i≠j->m.β[i]?=some p->m.H[i]?=some k->m.β[j]?=some q->m.H[j]?=some l->k.live=true->l.live=true->p.apart q
 still:∀b o,m.A b o->¬Own m b o
 inA:∀b o,m.A b o->b<m.w.heap.size
 inO:∀(i:Nat) p k,m.β[i]?=some p->m.H[i]?=some k->k.live=true->p.lo<p.hi->p.b<m.w.heap.size
 glob:Glob m.A m.w
def zaZ(h h':Option Blk)(p p':Place):Prop:=
 match tlOf h with
 | some n=>∀n',tlOf h'=some n'->n≤n'/\(n=n'->p'=p)
 | none=>p'=p/\∀n',tlOf h'≠some n'
structure Step (m m':M):Prop where
 os:m'.w.os=m.w.os
 tape:m'.w.tape=m.w.tape
 output:m'.w.output=m.w.output
 size:m.w.heap.size≤m'.w.heap.size
 more:∀b o,m.A b o->m'.A b o
 fromA:∀b o,m'.A b o->m.A b o\/Own m b o\/m.w.heap.size≤b
 fromO:∀b o,Own m' b o->Own m b o\/m.w.heap.size≤b
 cell:∀b o,b<m.w.heap.size->¬Own m b o->m'.w.cell? ⟨b,o,none⟩=m.w.cell? ⟨b,o,none⟩
 frozen:∀b o,b<m.w.heap.size->¬Own m b o->(m.w.cell? ⟨b,o,none⟩).isSome=true->m'.w.frozen? ⟨b,o,none⟩=m.w.frozen? ⟨b,o,none⟩
 block:∀b,b<m.w.heap.size->(∀o,¬Own m b o)->m'.w.heap[b]?=m.w.heap[b]?
 shape:∀b s,m.w.shape? b=some s->m'.w.shape? b=some s
 loop:∀(b:Nat) (L:Loop),m.w.heap[b]?=some (Obj.loop L)->∃L':Loop,m'.w.heap[b]?=some (Obj.loop L')
 isSome:∀b o,b<m.w.heap.size->(m.w.cell? ⟨b,o,none⟩).isSome=true->(m'.w.cell? ⟨b,o,none⟩).isSome=true
 ids:∀(i:Nat) p,m.β[i]?=some p->∃p',m'.β[i]?=some p'/\zaZ m.H[i]? m'.H[i]? p p'
inductive zev where
 | normal
 | exit (id:Nat)
 | ret
 | panic (v:SV)
def zbe(m:M):zev->Exit->Prop
 | .normal,.normal=>True
 | .exit i,.exit j=>i=j
 | .ret,.ret=>True
 | .panic v,.panic ch=>∃x,ch=[{ v:=x,recovered:=false }]/\SRel m v x
 | _,_=>False
abbrev TK:=zev->Env->Heap->Prop
variable {K:TK}
structure Fm where
 r:Option Nat
 s0:Nat
 ds:List Deferred
variable {φ:Fm}
def mark(k:Nat):Deferred:={ target:=.collected k,args:=#[] }
def zdE(φ:Fm)(w:World)(l:List Deferred):Prop:=
 (∃ks:List Nat,l=ks.map mark++φ.ds/\(φ.r.isSome=true->ks=[])/\ks.Nodup/\∀k∈ks,φ.s0≤k/\w.heap[k]?=some (.deferred (some [])))/\(φ.s0≤w.heap.size)/\
   ∀l,φ.r=some l->∃L:Loop,w.heap[l]?=some (Obj.loop L)
abbrev Fr (r:Option Nat):Fence:={ Fence.wide with round:=r }
def Code.wpr(P:Program)(r:Option Nat)(c:Code)(Q:Exit->Act->World->Prop)(a:Act)(w:World):Prop:=
 ∀(b:Frame) (k:List Item) (cs:List Frame),b.roundOf=r->(P.funcs[b.fn]?).isSome=true->
  ∃e a' w',Q e a' w'/\ArrivesIn (fun _=>True) P (lone (b.atR a (.code c::k)) cs w) b k cs e a' w'
def Post(φ:Fm)(m:M)(n:Nat)(K:TK)(e:Exit)(a:Act)(w:World):Prop:=
 ∃(m':M) (env:Env) (te:zev),m'.w=w/\Step m m'/\HRel m'/\ERel m' n env a.tmps/\zdE φ m'.w a.defers/\zbe m' te e/\K te env m'.H
def TR(P:Program)(n:Nat)(c:Code)(env:Env)(H:Heap)(K:TK):Prop:=
 ∀(φ:Fm) (m:M) (a:Act),m.H=H->HRel m->ERel m n env a.tmps->zdE φ m.w a.defers->Code.wpr P φ.r c (Post φ m n K) a m.w
structure Keeps (w w':World):Prop where
 os:w'.os=w.os
 tape:w'.tape=w.tape
 output:w'.output=w.output
 size:w.heap.size≤w'.heap.size
 block:∀b,b<w.heap.size->w'.heap[b]?=w.heap[b]?
def TO(q:Bool)(P:Program)(n:Nat)(all:Array Oper)(ops:List Oper)(env:Env)(H:Heap)(K:TK):Prop:=
 ∀(φ:Fm) (m:M) (a:Act),m.H=H->HRel m->ERel m n env a.tmps->zdE φ m.w a.defers->
  match q with
  | false=>wpListIn (Fr φ.r) 0 P all (Post φ m n K) ops a m.w
  | true=>wpQuiet P all (Keeps m.w) (fun a'=>∃env',ERel m n env' a'.tmps/\zdE φ m.w a'.defers/\K .normal env' m.H) ops a
abbrev RV (q:Bool)(P:Program)(n:Nat)(all:Array Oper)(rest:List Oper)(env:Env)(H:Heap)(K:TK)(d:Nat)(o:Op)(v:SV):Prop:=
 ∀ {ty:TypeId} {pos:String} {aft:Array Edge},TO q P n all rest ((d,v)::env) H K->TO q P n all (⟨some d,o,ty,pos,aft,none⟩::rest) env H K
abbrev RW (q:Bool)(P:Program)(n:Nat)(all:Array Oper)(rest:List Oper)(env:Env)(H:Heap)(K:TK)(d:Nat)(o:Op)(v:SV)(H':Heap):Prop:=
 ∀ {ty:TypeId} {pos:String} {aft:Array Edge},TO q P n all rest ((d,v)::env) H' K->TO q P n all (⟨some d,o,ty,pos,aft,none⟩::rest) env H K
inductive Res where
 | ret (v:SV)
 | panic (v:SV)
def zbZ(m:M):Res->Ending->Prop
 | .ret v,.returned x=>SRel m v x
 | .panic v,.panicked ch=>∃x,ch=[{ v:=x,recovered:=false }]/\SRel m v x
 | _,_=>False
def ARel(m:M)(args:List SV)(vs:Array Value):Prop:=vs.size=args.length/\∀(i:Nat) s x,args[i]?=some s->vs[i]?=some x->SRel m s x
def Callable(P:Program)(f:FuncId):Prop:=∃fn,P.funcs[f]?=some fn/\(fn.name == "runtime.NumGoroutine")=false/\fn.body.isNone=false
def Sound(P:Program)(f:FuncId)(args:List SV)(H:Heap)(R:Res->Heap->Prop):Prop:=
 Callable P f/\∀(m:M) (vs:Array Value),m.H=H->HRel m->ARel m args vs->Calls P f vs m.w fun e w'=>∃(m':M) (r:Res),m'.w=w'/\Step m m'/\HRel m'/\zbZ m' r e/\R r m'.H
theorem TRel.mono{A':Foot}{w:World}(hA:∀b o,A b o->A' b o)(hw:∀b o,A b o->w'.cell? ⟨b,o,none⟩=w.cell? ⟨b,o,none⟩):
  ∀ {t:T} {x:Value},TRel A w t x->TRel A' w' t x:=by
 intro t x h
 induction h with
 | v x=>exact .v x
 | ag cs arr hs h1 _ ih=>exact .ag cs arr hs h1 ih
 | nil sz=>exact .nil sz
 | empty sz a=>exact .empty sz a
 | sl sz es b off cap f hcap hsz hA' hw' h1 _ ih=>
   exact .sl sz es b off cap f hcap hsz (fun i j hi hj=>hA _ _ (hA' i j hi hj)) (fun i j hi hj=>by rw[hw _ _ (hA' i j hi hj)];exact hw' i j hi hj) h1 ih
theorem Step.Acell(hm:HRel m)(s:Step m m')(b o:Nat)(h:m.A b o):m'.w.cell? ⟨b,o,none⟩=m.w.cell? ⟨b,o,none⟩:=
 s.cell b o (hm.inA b o h) (hm.still b o h)
theorem Step.glob{m m':M}(hm:HRel m)(s:Step m m'):Glob m'.A m'.w:=fun b cs h=>by
 obtain⟨g1,e,f,g2⟩:=hm.glob b cs h;exact⟨fun o=>s.more b o (g1 o),e,f,by rw[s.block b (qam.1 g2).1 fun o=>hm.still b o (g1 o)];exact g2⟩
theorem Step.trel(hm:HRel m)(s:Step m m'){t:T}{x:Value}(h:TRel m.A m.w t x):TRel m'.A m'.w t x:=
 h.mono s.more (s.Acell hm)
theorem zaZ.zcU{h h':Option Blk}{p p':Place}(s:zaZ h h' p p')(hn:∀n,tlOf h≠some n):p'=p/\∀n,tlOf h'≠some n:=by
 unfold zaZ at s;split at s
 ·rename_i n e;exact oI e (hn n)
 ·exact s
theorem zaZ.trans{a b c:Option Blk}{p q r:Place}(h:zaZ a b p q)(k:zaZ b c q r)(hb:∀n,tlOf a=some n->(∀n',tlOf b≠some n')->∀n',tlOf c≠some n'):zaZ a c p r:=by
 unfold zaZ at h⊢;split at h
 ·rename_i n e;intro n' hc;by_cases hx:∃n1,tlOf b=some n1
  ·obtain⟨n1,hn1⟩:=hx;simp only[zaZ,hn1]at k;have h1:=h n1 hn1;have h2:=k n' hc;refine⟨oA,fun e=>?_⟩;rw[h2.2 oA,h1.2 oA]
  ·exact oI hc (hb n e (fun n' e=>hx ⟨n',e⟩) n')
 ·have h2:=k.zcU h.2;exact⟨by rw[h2.1,h.1],h2.2⟩
theorem Step.srel(hm:HRel m)(s:Step m m'):∀ {v:SV} {x:Value},SRel m v x->SRel m' v x:=by
 intro v x h
 induction h with
 | t t x h=>exact .t t x (s.trel hm h)
 | sl sz es id x p h hp ho=>
   obtain⟨p',hp',hi⟩:=s.ids id p hp;refine .sl sz es id x p' (s.trel hm h) hp' fun n hn=>?_
   unfold zaZ at hi;split at hi
   ·exact zwby
   ·exact oI hn (hi.2 n)
 | rw id len x p hp hx ho=>
   obtain⟨p',hp',hi⟩:=s.ids id p hp;refine .rw id len x p' hp' hx fun n hn=>?_
   unfold zaZ at hi;split at hi
   ·exact zwby
   ·exact oI hn (hi.2 n)
 | tref e n id off p hp hn h0 hs=>
   obtain⟨p',hp',hi⟩:=s.ids id p hp;obtain⟨rfl,h2⟩:=hi.zcU hn;exact .tref e n id off p' hp' h2 h0 (s.shape _ _ hs)
 | ms sz id off len cap p hp hn hc hh=>
   obtain⟨p',hp',hi⟩:=s.ids id p hp;obtain⟨rfl,h2⟩:=hi.zcU hn;exact .ms sz id off len cap p' hp' h2 hc hh
 | cp cs off b o f h1 hA hw h=>
   exact .cp cs off b o f h1 (fun j hj=>s.more _ _ (hA j hj)) (fun j hj=>by rw[s.Acell hm _ _ (hA j hj)];exact hw j hj) (fun j c hc=>s.trel hm (h j c hc))
 | ref id off p hp hn=>
   obtain⟨p',hp',hi⟩:=s.ids id p hp;obtain⟨rfl,h2⟩:=hi.zcU hn;exact .ref id off p' hp' h2
 | mp id p hp hn=>
   obtain⟨p',hp',hi⟩:=s.ids id p hp;obtain⟨rfl,h2⟩:=hi.zcU hn;exact .mp id p' hp' h2
 | yl id p hp hn=>
   obtain⟨p',hp',hi⟩:=s.ids id p hp;obtain⟨rfl,h2⟩:=hi.zcU hn;exact .yl id p' hp' h2
 | ag cs arr hs h1 _ ih=>exact .ag cs arr hs h1 ih
 | tup cs arr hs _ ih=>exact .tup cs arr hs ih
 | fn f cs arr hs _ ih=>exact .fn f cs arr hs ih
 | bnd f cs arr hs _ ih=>exact .bnd f cs arr hs ih
 | ifc ty s x _ ih=>exact .ifc ty s x ih
 | any x=>exact .any x
theorem zaZ.refl(h:Option Blk)(p:Place):zaZ h h p p:=by
 unfold zaZ;split
 ·rename_i n h0;intro n' e;rw[h0]at e;cases e;exact⟨qag _,fun _=>rfl⟩
 ·rename_i hn;exact⟨rfl,fun n e=>by rw[hn]at e;cases e⟩
theorem Step.refl(m:M):Step m m:=
 ⟨rfl,rfl,rfl,qag _,fun _ _ h=>h,fun _ _ h=>.inl h,fun _ _ h=>.inl h,fun _ _ _ _=>rfl,fun _ _ _ _ _=>rfl,fun _ _ _=>rfl,fun _ _ h=>h,fun _ L h=>⟨L,h⟩,fun _ _ _ h=>h,fun i p hp=>⟨p,hp,zaZ.refl _ _⟩⟩
theorem Step.trans{a b c:M}(h:Step a b)(k:Step b c):Step a c where
 os:=k.os.trans h.os
 tape:=k.tape.trans h.tape
 output:=k.output.trans h.output
 size:=qax h.size k.size
 more:=fun x o hx=>k.more _ _ (h.more _ _ hx)
 fromA:=fun x o hx=>by
  exact zwbc
 fromO:=fun x o hx=>by
  exact zwdo
 cell:=fun x o hx hn=>by
  exact zwcc
 frozen:=fun x o hx hn hc=>by
  exact zwbm
 block:=fun x hx hn=>by
  exact zwca
 shape:=fun b s hs=>k.shape b s (h.shape b s hs)
 loop:=fun b L hL=>let ⟨L1,h1⟩:=h.loop b L hL;k.loop b L1 h1
 isSome:=fun x o hx hs=>k.isSome x o (qbc hx h.size) (h.isSome x o hx hs)
 ids:=fun i p hp=>by
  obtain⟨p1,hp1,h1⟩:=h.ids i p hp;obtain⟨p2,hp2,h2⟩:=k.ids i p1 hp1;exact zwfb
theorem Env.zap(i:Nat)(v:SV)(r:Env):Env.look ((i,v)::r) i=some v:=by simp[Env.look]
theorem Env.zah{i j:Nat}(v:SV)(r:Env)(h:j≠i):Env.look ((j,v)::r) i=r.look i:=by
 have:Nat.beq j i=false:=by
  cases hb:Nat.beq j i with
  | false=>rfl
  | true=>exact oI (qaY hb) h
 simp[Env.look,this]
theorem ERel.step{n:Nat}(h:ERel m n env tmps)(hm:HRel m)(s:Step m m'):ERel m' n env tmps:=
 ⟨h.1,fun i v hv=>let ⟨x,h1,h2⟩:=h.2 i v hv;⟨x,h1,s.srel hm h2⟩⟩
theorem ERel.put{m:M}{n:Nat}{env:Env}{a:Act}{v:SV}{x:Value}(d:Nat)(h:ERel m n env a.tmps)(hd:d<n)(hv:SRel m v x):ERel m n ((d,v)::env) (a.put (some d) x).tmps:=by
 refine⟨by simp[Act.put,h.1],fun i u hu=>?_⟩;by_cases hi:d=i
 ·subst hi;rw[Env.zap]at hu;cases hu;exact⟨x,by simp[Act.put,h.1,hd],hv⟩
 ·rw[Env.zah _ _ hi]at hu;obtain⟨y,h1,h2⟩:=h.2 i u hu;exact⟨y,by simp[Act.put,qaQ,hi,h1],h2⟩
theorem ERel.sub{n:Nat}{env':Env}(h:ERel m n env tmps)(hs:∀i v,env'.look i=some v->env.look i=some v):ERel m n env' tmps:=
 ⟨h.1,fun i v hv=>h.2 i v (hs i v hv)⟩
def Env.sub(env:Env):Env->Prop
 | []=>True
 | (i,v)::r=>env.look i=some v/\Env.sub env r
theorem Env.zgh{env:Env}:∀ {env':Env},env.sub env'->∀i v,env'.look i=some v->env.look i=some v
 | [],_,i,v,h=>by simp[Env.look]at h
 | (k,u)::r,hs,i,v,h=>by
   by_cases hi:k=i
   ·subst hi;rw[Env.zap]at h;cases h;exact hs.1
   ·rw[Env.zah _ _ hi]at h;exact Env.zgh hs.2 i v h
section wpr
variable {r:Option Nat}{Q Q':Exit->Act->World->Prop}{a:Act}{w:World}
theorem zgV{I I':Machine->Prop}{m:Machine}{b:Frame}{cs:List Frame}(hI:∀m,I m->I' m)(h:ArrivesIn I P m b k cs e a w):ArrivesIn I' P m b k cs e a w:=by
 cases e with
 | normal=>exact StepsIn.mono hI h
 | exit id=>exact⟨fun k' hk=>(h.1 k' hk).mono hI,fun hr hk=>let ⟨k₁,h1,h2⟩:=h.2 hr hk;⟨k₁,h1,h2.mono hI⟩⟩
 | goto l=>exact⟨fun k' hk=>(h.1 k' hk).mono hI,fun hr hk=>let ⟨k₁,h1,h2⟩:=h.2 hr hk;⟨k₁,h1,h2.mono hI⟩⟩
 | ret=>exact⟨fun hr=>let ⟨t,h1⟩:=h.1 hr;⟨t,h1.mono hI⟩,fun hr=>let ⟨t,h1⟩:=h.2 hr;⟨t,h1.mono hI⟩⟩
 | panic ch=>obtain⟨t,h1⟩:=h;exact⟨t,StepsIn.mono hI h1⟩
 | outgrown=>exact h
theorem zcP(h:c.wpIn (Fr r) 0 P Q a w):Code.wpr P r c Q a w:=by
 intro b k cs hro hfn;obtain⟨e,a',w',h1,h2⟩:=h b k cs hro trivial (room_wide _);exact⟨e,a',w',h1,zgV (fun _ _=>trivial) h2⟩
theorem za5(h:Code.wpr P r c Q a w)(hq:∀e a w,Q e a w->Q' e a w):Code.wpr P r c Q' a w:=
 fun b k cs h1 h2=>let ⟨e,a',w',q,s⟩:=h b k cs h1 h2;⟨e,a',w',hq _ _ _ q,s⟩
theorem zol{x y:Code}(h:Code.wpr P r x (Exit.then (Code.wpr P r y Q) Q) a w):Code.wpr P r (.seq x y) Q a w:=by
 intro b k cs hro hfn;obtain⟨e,a1,w1,hq,harr⟩:=h b (.code y::k) cs hro hfn
 have go:∀(e:Exit),e≠ .normal->Q e a1 w1->ArrivesIn (fun _=>True) P (lone (b.atR a (.code x:: .code y::k)) cs w) b (.code y::k) cs e a1 w1->
   ∃e a' w',Q e a' w'/\ArrivesIn (fun _=>True) P (lone (b.atR a (.code (.seq x y)::k)) cs w) b k cs e a' w':=fun e he hq harr=>
  ⟨e,a1,w1,hq,.of_steps (.one trivial stepR_seq) (.pass (x:=.code y) rfl (fun _ _=>.inl he) harr)⟩
 cases e with
 | normal=>
   obtain⟨e2,a2,w2,hq2,harr2⟩:=hq b k cs hro hfn;exact⟨e2,a2,w2,hq2,.of_steps (.head trivial stepR_seq harr) harr2⟩
 | exit id=>exact go _ oC hq harr
 | goto l=>exact go _ oC hq harr
 | ret=>exact go _ oC hq harr
 | panic ch=>exact go _ oC hq harr
 | outgrown=>exact go _ oC hq harr
theorem zjj{c:Operand}{x y:Code}{t:Bool}(hc:a.eval c= .bool t)(ht:t=true->Code.wpr P r x Q a w)(hf:t=false->Code.wpr P r y Q a w):Code.wpr P r (.cond c x y) Q a w:=by
 intro b k cs hro hfn
 have h:Code.wpr P r (if t then x else y) Q a w:=by
  cases t
  ·exact hf rfl
  ·exact ht rfl
 obtain⟨e,a',w',q,s⟩:=h b k cs hro hfn;exact⟨e,a',w',q,.of_steps (.one trivial (stepR_cond hc)) s⟩
theorem ztY{id:Nat}(h:Code.wpr P r c (Exit.inBlock id Q) a w):Code.wpr P r (.block id c) Q a w:=by
 intro b k cs hro hfn;obtain⟨e,a1,w1,hq,harr⟩:=h b (.inBlock id::k) cs hro hfn;have s0:StepsIn (fun _=>True) P (lone (b.atR a (.code (.block id c)::k)) cs w) (lone (b.atR a (.code c:: .inBlock id::k)) cs w):=.one trivial stepR_block;cases e with
 | normal=>exact⟨.normal,a1,w1,hq,s0.trans (StepsIn.trans harr (.one trivial stepR_inBlock))⟩
 | exit id'=>
   by_cases hid:id'=id
   ·simp only[Exit.inBlock,hid,if_true]at hq;exact⟨.normal,a1,w1,hq,s0.trans (harr.1 k (by simp[exitTo,hid]))⟩
   ·simp only[Exit.inBlock,hid,if_false]at hq;have hb:(id == id')=false:=by simp;exact fun h=>hid h.symm
    have hx:exitTo id' (.inBlock id::k)=exitTo id' k:=by simp[exitTo,hb]
    exact⟨.exit id',a1,w1,hq,fun k' hk=>s0.trans (harr.1 k' (by rw[hx];exact hk)),fun hr hk=>let ⟨k1,q1,q2⟩:=harr.2 hr (by rw[hx];exact hk);⟨k1,q1,s0.trans q2⟩⟩
 | goto l=>
   have hx:gotoIn l (.inBlock id::k)=gotoIn l k:=by simp[gotoIn]
   exact⟨.goto l,a1,w1,hq,fun k' hk=>s0.trans (harr.1 k' (by rw[hx];exact hk)),fun hr hk=>let ⟨k1,q1,q2⟩:=harr.2 hr (by rw[hx];exact hk);⟨k1,q1,s0.trans q2⟩⟩
 | ret=>exact⟨.ret,a1,w1,hq,.of_steps s0 harr⟩
 | panic ch=>exact⟨.panic ch,a1,w1,hq,.of_steps (e:=.panic ch) s0 harr⟩
 | outgrown=>exact⟨.outgrown,a1,w1,hq,.of_steps (e:=.outgrown) (b:=b) (k:=k) (cs:=cs) s0 harr⟩
end wpr
section rules
variable {n:Nat}
theorem Post.step(s:Step m m'){w:World}(h:Post φ m' n K e a w):Post φ m n K e a w:=
 let ⟨m2,env2,te,h1,h2,h3⟩:=h;⟨m2,env2,te,h1,s.trans h2,h3⟩
theorem Post.mono{K':TK}(hk:∀te env H,K te env H->K' te env H){w:World}(h:Post φ m n K e a w):Post φ m n K' e a w:=
 let ⟨m2,env2,te,h1,h2,h3,h4,h5,h6,h7⟩:=h;⟨m2,env2,te,h1,h2,h3,h4,h5,h6,hk _ _ _ h7⟩
theorem TR.mono{c:Code}{K':TK}(h:TR P n c env H K)(hk:∀te env H,K te env H->K' te env H):TR P n c env H K':=
 fun φ m a h1 h2 h3 h4=>za5 (h φ m a h1 h2 h3 h4) fun _ _ _ hp=>hp.mono hk
theorem TR.sub{c:Code}(env':Env)(hs:env.sub env')(h:TR P n c env' H K):TR P n c env H K:=
 fun φ m a h1 h2 h3 h4=>h φ m a h1 h2 (h3.sub (Env.zgh hs)) h4
theorem TR.skip(h:K .normal env H):TR P n .skip env H K:=
 fun φ m a h1 h2 h3 h4=>zcP (wpIn_skip ⟨m,env,.normal,rfl,.refl m,h2,h3,h4,trivial,h1 ▸ h⟩)
theorem TR.exit{id:Nat}(h:K (.exit id) env H):TR P n (.exit id) env H K:=
 fun φ m a h1 h2 h3 h4=>zcP (wpIn_exit ⟨m,env,.exit id,rfl,.refl m,h2,h3,h4,rfl,h1 ▸ h⟩)
theorem TR.ret(h:K .ret env H):TR P n .ret env H K:=
 fun φ m a h1 h2 h3 h4=>zcP (wpIn_ret ⟨m,env,.ret,rfl,.refl m,h2,h3,h4,trivial,h1 ▸ h⟩)
def Then(P:Program)(n:Nat)(c:Code)(K:TK):TK
 | .normal,env,H=>TR P n c env H K
 | e,env,H=>K e env H
theorem zbe.normal{m:M}{te:zev}(h:zbe m te .normal):te= .normal:=by
 cases te <;> simp[zbe]at h;rfl
theorem Post.then{φ:Fm}{m:M}{c:Code}{e:Exit}{a:Act}{w:World}(h:Post φ m n (Then P n c K) e a w):Exit.then (Code.wpr P φ.r c (Post φ m n K)) (Post φ m n K) e a w:=by
 obtain⟨m2,env2,te,h1,h2,h3,h4,h5,h6,h7⟩:=h;cases e with
 | normal=>
   cases zbe.normal h6;show Code.wpr P φ.r c (Post φ m n K) a w;rw[<-h1];exact za5 (h7 φ m2 a rfl h3 h4 h5) fun _ _ _ hp=>hp.step h2
 | _=>
   refine⟨m2,env2,te,h1,h2,h3,h4,h5,h6,?_⟩;cases te <;> simp[zbe]at h6 <;> exact h7
theorem TR.seq{x y:Code}(h:TR P n x env H (Then P n y K)):TR P n (.seq x y) env H K:=
 fun φ m a h1 h2 h3 h4=>zol (za5 (h φ m a h1 h2 h3 h4) fun _ _ _ hp=>hp.then)
def Env.val(env:Env):Operand->Option SV
 | .tmp i=>env.look i
 | .const (.agg _)=>none
 | .const v=>some (.t (.v v))
 | .func f=>some (.fn f [])
 | .global _=>none
theorem ERel.val{m:M}{a:Act}(h:ERel m n env a.tmps){x:Operand}{v:SV}(hx:env.val x=some v):SRel m v (a.eval x):=by
 cases x with
 | tmp i=>
   obtain⟨y,h1,h2⟩:=h.2 i v hx;simp only[Act.eval];rw[qbp,h1];exact h2
 | const c=>
   have:v= .t (.v c):=by cases c <;> simp[Env.val]at hx <;> exact hx.symm
   subst this;exact .t _ _ (.v c)
 | func f=>
   simp only[Env.val,qaI]at hx;subst hx;exact .fn f [] #[] rfl oC
 | global g=>simp[Env.val]at hx
theorem SRel.v_eq{x y:Value}(h:SRel m (.t (.v x)) y):y=x:=by
 cases h with
 | t _ _ h=>cases h;rfl
theorem TR.cond{c:Operand}{x y:Code}{b:Bool}(hc:env.val c=some (.t (.v (.bool b))))(ht:b=true->TR P n x env H K)(hf:b=false->TR P n y env H K):
  TR P n (.cond c x y) env H K:=
 fun φ m a h1 h2 h3 h4=>zjj (h3.val hc).v_eq (fun e=>ht e φ m a h1 h2 h3 h4) (fun e=>hf e φ m a h1 h2 h3 h4)
def zaj(id:Nat)(K:TK):TK
 | .exit j,env,H=>if j=id then K .normal env H else K (.exit j) env H
 | e,env,H=>K e env H
theorem TR.block{id:Nat}{c:Code}(h:TR P n c env H (zaj id K)):TR P n (.block id c) env H K:=by
 intro φ m a h1 h2 h3 h4;refine ztY (za5 (h φ m a h1 h2 h3 h4) ?_);rintro e a' w' ⟨m2,env2,te,g1,g2,g3,g4,g5,g6,g7⟩;cases te with
 | exit j=>
   cases e <;> simp[zbe]at g6
   subst g6;simp only[Exit.inBlock];simp only[zaj]at g7;split
   ·rename_i hj;rw[oG hj]at g7;exact⟨m2,env2,.normal,g1,g2,g3,g4,g5,trivial,g7⟩
   ·rename_i hj;rw[oH hj]at g7;exact⟨m2,env2,.exit j,g1,g2,g3,g4,g5,rfl,g7⟩
 | normal=>cases e <;> simp[zbe]at g6;exact⟨m2,env2,.normal,g1,g2,g3,g4,g5,trivial,g7⟩
 | ret=>cases e <;> simp[zbe]at g6;exact⟨m2,env2,.ret,g1,g2,g3,g4,g5,trivial,g7⟩
 | panic v=>
   cases e with
   | panic ch=>exact⟨m2,env2,.panic v,g1,g2,g3,g4,g5,g6,g7⟩
   | _=>simp[zbe]at g6
theorem Steps.behind{m1 m2 t:Machine}(h:step P m1= .next m2)(s:Steps P m1 t)(hne:t≠m1):Steps P m2 t:=by
 obtain⟨k,hk⟩:=s;cases k with
 | zero=>simp only[runN,Stepped.next.injEq]at hk;exact oI hk.symm hne
 | succ k=>simp only[runN,h]at hk;exact⟨k,hk⟩
theorem zgp{m1 m2 t:Machine}(h:step P m1= .next m2)(s:StepsIn (fun _=>True) P m1 t)(hne:t≠m1):StepsIn (fun _=>True) P m2 t:=
 steps_iff.1 (Steps.behind h (steps_iff.2 s) hne)
theorem zeJ{id:Nat}:∀ {k k':List Item},exitTo id k=some k'->k'.length≤k.length
 | [],_,h=>by simp[exitTo]at h
 | x::r,k',h=>by
   cases x <;> simp only[exitTo]at h <;> first
    | (split at h
       ·cases h;simp
       ·have:=zeJ h;simp;omega)
    | (have:=zeJ h;simp;omega)
    | (cases h)
theorem zf6{b:Frame}{a':Act}{k':List Item}{cs:List Frame}{w:World}(h:lone (b.atR a k) cs w=lone (b.atR a' k') cs w'):k=k':=by
 simp only[lone,Machine.mk.injEq,Frame.atR]at h;have h1:=h.2.1;simp at h1;exact h1.2.1
theorem zp2{w:World}(hQ:∀e a w,Q e a w->(∀l,e≠ .goto l)/\e≠ .outgrown)(h:Code.wpr P r c (Exit.then (Code.wpr P r (Code.loop c) Q) Q) a w):Code.wpr P r (.loop c) Q a w:=by
 intro b k cs hro hfn;obtain⟨e,a',w',hq,harr⟩:=h b (.inLoop c::k) cs hro hfn
 have pass:∀(e:Exit),e≠ .normal->Q e a' w'->ArrivesIn (fun _=>True) P (lone (b.atR a (.code c:: .inLoop c::k)) cs w) b (.inLoop c::k) cs e a' w'->
   ∃e a' w',Q e a' w'/\ArrivesIn (fun _=>True) P (lone (b.atR a (.code (.loop c)::k)) cs w) b k cs e a' w':=fun e he hq harr=>
  ⟨e,a',w',hq,.of_steps (.one trivial stepR_loop) (.pass (x:=.inLoop c) rfl (fun _ _=>.inl he) harr)⟩
 cases e with
 | normal=>
   obtain⟨e2,a2,w2,hq2,harr2⟩:=hq b k cs hro hfn;refine⟨e2,a2,w2,hq2,?_⟩
   have s1:StepsIn (fun _=>True) P (lone (b.atR a (.code (.loop c)::k)) cs w) (lone (b.atR a' (.code c:: .inLoop c::k)) cs w'):=
    StepsIn.trans (.one trivial stepR_loop) (StepsIn.trans harr (.one trivial stepR_inLoop))
   have hs:step P (lone (b.atR a' (.code (.loop c)::k)) cs w')= .next (lone (b.atR a' (.code c:: .inLoop c::k)) cs w'):=stepR_loop;have hg:=hQ _ _ _ hq2;cases e2 with
   | normal=>exact s1.trans (zgp hs harr2 fun he=>by have:=oJ List.length (zf6 he);simp at this)
   | exit id=>exact⟨fun k' hk=>s1.trans (zgp hs (harr2.1 k' hk) fun he=>by have:=oJ List.length (zf6 he);have:=zeJ hk;simp at *;omega),fun hr hk=>by
      obtain⟨k1,q1,q2⟩:=harr2.2 hr hk;exact⟨k1,q1,s1.trans (zgp hs q2 fun he=>by have:=zf6 he;simp at this)⟩⟩
   | ret=>
     refine⟨fun hr=>?_,fun hr=>?_⟩
     ·obtain⟨todo,hst⟩:=harr2.1 hr;exact⟨todo,s1.trans (zgp hs hst fun he=>by simp[lone,Frame.atR]at he)⟩
     ·obtain⟨k1,hst⟩:=harr2.2 hr;exact⟨k1,s1.trans (zgp hs hst fun he=>by have:=zf6 he;simp at this)⟩
   | panic ch=>
     obtain⟨todo,hst⟩:=harr2;exact⟨todo,s1.trans (zgp hs hst fun he=>by simp[lone,Frame.atR]at he)⟩
   | goto l=>exact oI rfl (hg.1 l)
   | outgrown=>exact oI rfl hg.2
 | exit id=>exact pass _ oC hq harr
 | goto l=>exact pass _ oC hq harr
 | ret=>exact pass _ oC hq harr
 | panic ch=>exact pass _ oC hq harr
 | outgrown=>exact pass _ oC hq harr
theorem zuU{n:Nat}{w:World}(hq:Post φ m n K e a w):(∀l,e≠ .goto l)/\e≠ .outgrown:=by
 obtain⟨_,_,te,_,_,_,_,_,g6,_⟩:=hq;refine⟨fun l h=>?_,fun h=>?_⟩ <;> (subst h;cases te <;> simp[zbe]at g6)
theorem TR.loop{c:Code}(h:TR P n c env H (Then P n (.loop c) K)):TR P n (.loop c) env H K:=fun φ m a h1 h2 h3 h4=>
 zp2 (fun _ _ _ hq=>zuU hq) (za5 (h φ m a h1 h2 h3 h4) fun _ _ _ hp=>hp.then)
end rules
abbrev Str:=List UInt8
variable {l:Str}
abbrev str (l:Str):Value:=.string ⟨l.toArray⟩
abbrev SV.i (n:Int):SV:=.t (.v (.int .i64 n))
abbrev SV.b (x:Bool):SV:=.t (.v (.bool x))
abbrev SV.s (l:Str):SV:=.t (.v (str l))
abbrev T.i (n:Int):T:=.v (.int .i64 n)
abbrev T.b (x:Bool):T:=.v (.bool x)
abbrev T.s (l:Str):T:=.v (str l)
inductive TK' where
 | scalar
 | bool
 | int (k:IntKind)
 | str
 | slice (e:TypeId)
 | struct (fs:List (Nat×TypeId))
 | ptr (e:TypeId)
 | map (k e:TypeId)
 | array (n:Nat) (e:TypeId)
 | iface
structure TyI where
 k:TK'
 size:Nat
 bytes:Nat
 zero:List T
variable {ie it:TyI}
inductive Tab where
 | leaf
 | node (l:Tab) (k:Nat) (v:TyI) (r:Tab)
def Tab.get:Tab->TypeId->Option TyI
 | .leaf,_=>none
 | .node l k v r,i=>bif Nat.beq i k then some v else bif Nat.blt i k then Tab.get l i else Tab.get r i
def Tab.every(f:TypeId->TyI->Bool):Tab->Bool
 | .leaf=>true
 | .node l k v r=>f k v && (Tab.every f l && Tab.every f r)
def TK'.fits:TK'->TypeDesc->Bool
 | .scalar,.bool| .scalar,.int _| .str,.string| .bool,.bool=>true
 | .int k,.int l=>k == l
 | .slice e,.slice f=>e == f
 | .struct fs,.struct gs=>fs == gs.toList.map fun f=>(f.offset,f.type)
 | .ptr e,.pointer f=>e == f
 | .map k e,.map l f=>k == l && e == f
 | .array n e,.array m f=>n == m && e == f
 | .iface,.interface _=>true
 | .scalar,.func .. =>true
 | _,_=>false
def T.fits:T->Value->Bool
 | .v (.bool a),.bool b=>a == b
 | .v (.int k a),.int l b=>k == l && a == b
 | .v (.string a),.string b=>a.data == b.data
 | .v (.pointer none),.pointer none=>true
 | .v (.map none),.map none=>true
 | .v .nilFunc,.nilFunc=>true
 | .v .nilIface,.nilIface=>true
 | .sl _ [],.slice none 0 0=>true
 | .v (.slice none 0 0),.slice none 0 0=>true
 | _,_=>false
def zee:List T->List Value->Bool
 | [],[]=>true
 | t::ts,v::vs=>t.fits v && zee ts vs
 | _,_=>false
def TK'.agg:TK'->Bool
 | .struct _| .array _ _=>true
 | _=>false
def zwN(P:Program)(t:TypeId)(i:TyI):Bool:=
 match P.underlying t,P.info? t with
 | some d,some ti=>i.k.fits d && ti.size == i.size && (ti.bytes == i.bytes && i.zero.length == i.size) && (match ti.zero with
   | some z=>zee i.zero z.cells.toList && (match i.k,z with| .struct _,.agg _| .array _ _,.agg _=>true| .struct _,_| .array _ _,_=>false|_,.agg _=>false|_,.tuple _=>false|_,_=>true)
   | none=>false)
 | _,_=>false
def zvd(P:Program)(tab:Tab):Bool:=tab.every (zwN P)
structure Fit (P:Program) (t:TypeId) (i:TyI):Prop where
 len:i.zero.length=i.size
 ex:∃d ti z,P.underlying t=some d/\P.info? t=some ti/\i.k.fits d=true/\ti.size=i.size/\ti.bytes=i.bytes/\ti.zero=some z/\zee i.zero z.cells.toList=true/\
  (i.k.agg=true->∃cs,z= .agg cs)/\(i.k.agg=false->z.oneCell'=true)
def zas(P:Program)(tab:Tab):Prop:=∀t i,tab.get t=some i->Fit P t i
theorem Tab.zic{f:TypeId->TyI->Bool}:∀ {tab:Tab} {t:TypeId} {i:TyI},tab.every f=true->tab.get t=some i->f t i=true
 | .leaf,_,_,_,h=>by simp[Tab.get]at h
 | .node l k v r,t,i,he,h=>by
   simp only[Tab.every,qar]at he;simp only[Tab.get]at h;cases hb:Nat.beq t k with
   | true=>
     rw[hb]at h;simp only[cond_true,qaI]at h
     have:=qaY hb
     subst this;subst h;exact he.1
   | false=>
     rw[hb]at h;cases hl:Nat.blt t k with
     | true=>rw[hl]at h;exact Tab.zic he.2.1 h
     | false=>rw[hl]at h;exact Tab.zic he.2.2 h
theorem zjh{tab:Tab}(h:zvd P tab=true):zas P tab:=by
 intro t i hi
 have:=Tab.zic h hi
 unfold zwN at this;split at this
 ·rename_i d ti h1 h2;simp only[qar,beq_iff_eq]at this;obtain⟨⟨⟨h3,h4⟩,h5,h5'⟩,h6⟩:=this;split at h6
  ·rename_i z hz;simp only[qar]at h6;obtain⟨h7,h8⟩:=h6;refine⟨h5',d,ti,z,h1,h2,h3,h4,h5,hz,h7,fun ha=>?_,fun ha=>?_⟩
   ·cases hk:i.k <;> simp[hk,TK'.agg]at ha <;> (cases z <;> simp[hk]at h8 <;> exact⟨_,rfl⟩)
   ·cases hk:i.k <;> simp[hk,TK'.agg]at ha <;> (cases z <;> simp[hk,Value.oneCell']at h8⊢)
  ·cases h6
 ·cases this
section rules
variable {n:Nat}
theorem TR.region{id:Nat}{l:List Oper}(h:TO false P n l.toArray l env H K):TR P n (.region id l.toArray false) env H K:=
 fun φ m a h1 h2 h3 h4=>zcP (wpIn_region_lit (h φ m a h1 h2 h3 h4))
theorem zdD{C:World->Prop}{Q Q':Act->Prop}(hq:∀a,Q a->Q' a):∀(l:List Oper) (a:Act),wpQuiet P all C Q l a->wpQuiet P all C Q' l a
 | [],a,h=>hq a h
 | o::r,a,h=>by
   unfold wpQuiet at h⊢;split
   ·rename_i hw;rw[oG hw]at h;exact Oper.quiet_mono (fun a' h'=>zdD hq r a' h') h
   ·rename_i hw;rw[oH hw]at h;exact zdD hq r _ h
theorem zhC{w:World}{b:Nat}{s:TypeId×Nat}(h:w.shape? b=some s):b<w.heap.size:=by
 unfold World.shape? at h;cases hq:w.heap[b]? with
 | none=>rw[hq]at h;cases h
 | some o=>exact(qam.1 hq).1
theorem zbC{w:World}{b:Nat}(h:w'.heap[b]?=w.heap[b]?):w'.shape? b=w.shape? b:=by simp[World.shape?,h]
theorem zfc{w:World}(k:Keeps w w'){b:Nat}{s:TypeId×Nat}(h:w.shape? b=some s):w'.shape? b=some s:=by
 rw[zbC (k.block b (zhC h))];exact h
theorem zfN{args:Array Value}{w:World}(h:Calls P f args w R):CallsIn (Fr r) 0 P f args w R:=callsIn_wide.2 h
theorem zhZ{args:Array Value}{w:World}(h:CallsIn (Fr r) 0 P f args w R):Calls P f args w R:=callsIn_wide.1 h
def Op.plain:Op->Bool
 | .defer _=>false
 | _=>true
theorem Op.zuT{o:Op}(h:Op.plain o=true):∀c,o≠ .defer c:=by
 intro c e;subst e;simp[Op.plain]at h
theorem za9{w:World}{x:Next}(h:(execOp ρ o).run P w= .ok x w')(hx:∀d,x≠ .defer d):(o.semAt r ρ).run P w= .ok x w':=by
 by_cases hd:∃c,o.op= .defer c
 ·obtain⟨c,hc⟩:=hd;exfalso;unfold execOp at h;rw[hc]at h;simp only[Sem.run_bind]at h;cases hr:(resolve ρ c o.type).run P w with
  | ok d w1=>rw[hr]at h;simp at h;exact hx d h.1.symm
  | halt e w1=>rw[hr]at h;simp at h
 ·rw[Oper.semAt_eq _ _ _ (fun c hc=>hd ⟨c,hc⟩)];exact h
theorem zjX{w:World}(h:Op.plain o.op=true):(o.semAt r ρ).run P w=(execOp ρ o).run P w:=by
 rw[Oper.semAt_eq _ _ _ (Op.zuT h)]
theorem zhB{r:Option Nat}{C:World->Prop}{Q:Act->Prop}:∀(l:List Oper) (a:Act),wpQuiet P all C Q l a->wpQuietIn (Fr r) 0 P all C Q l a
 | [],a,h=>h
 | o::l,a,h=>by
   unfold wpQuiet at h;unfold wpQuietIn;refine⟨fun _ _ _ _=>trivial,?_⟩;split
   ·rename_i hw;rw[oG hw]at h;obtain⟨v,h1,h2⟩:=h;refine⟨v,fun w hw=>?_,zhB l _ h2⟩;have h3:=h1 w hw;unfold Oper.quietAt at h3;unfold Oper.quietAtIn;generalize (execOp a.eval o).run P w=z at h3⊢;cases z with
    | ok x w'=>
      cases x <;> simp only[Oper.quietUpon]at h3 <;> simp only[Oper.quietUponIn] <;> first
       | exact h3
       | exact⟨h3.1,fun h=>(by simp[Fence.wide]at h),zfN h3.2⟩
    | halt x w'=>simp only[Oper.quietUpon]at h3
   ·rename_i hw;rw[oH hw]at h;exact zhB l _ h
theorem ziq{K:Act->Prop}{K':Act->World->Prop}{Q':Exit->Act->World->Prop}{w:World}(hp:Op.plain o.op=true)(hw:C w)(h:∀a w',C w'->K a->K' a w')
  (hh:o.quietIn (Fr r) 0 P a C K):o.wpIn (Fr r) 0 P a w K' Q':=by
 obtain⟨v,h1,h2⟩:=hh;have h3:=h1 w hw;unfold Oper.quietAtIn at h3;unfold Oper.wpIn;refine⟨fun _ _=>trivial,?_⟩;rw[zjX hp];generalize (execOp a.eval o).run P w=z at h3⊢;cases z with
 | ok x w'=>
   cases x <;> simp only[Oper.quietUponIn]at h3 <;> simp only[Oper.uponIn]
   case value u=>
    obtain⟨rfl,rfl⟩:=h3;exact h _ _ hw h2
   case skip=>
    obtain⟨rfl,rfl⟩:=h3;exact h _ _ hw h2
   case enter f args=>
    obtain⟨rfl,hd,hc⟩:=h3;refine⟨hd,zfN (Calls.mono (zhZ hc) ?_)⟩;rintro e w2 ⟨rfl,hw2⟩;exact h _ _ hw2 h2
 | halt x w'=>simp only[Oper.quietUponIn]at h3
theorem zdp{r:Option Nat}{C:World->Prop}{md:Region.Mode}{Q:Act->Prop}{Q':Exit->Act->World->Prop}(hp:∀(i:Nat) o,all[i]?=some o->Op.plain o.op=true)(hQ:∀a w,C w->Q a->Q' .normal a w):∀(fuel:Nat) (listed:Array Bool) (a:Act) (w:World),C w->
  wpAnyQIn (Fr r) 0 P md all C Q fuel listed a->wpAnyIn (Fr r) 0 P md all Q' fuel listed a w
 | 0,_,_,_,hw,h=>⟨h.1,hQ _ _ hw h.2⟩
 | fuel+1,listed,a,w,hw,h=>⟨fun h0=>hQ _ _ hw (h.1 h0),fun i hi=>by
    have h2:=h.2 i hi;unfold qOpIn at h2;unfold wpOpIn;cases ho:all[i]? with
    | none=>simp only[ho]at h2⊢;exact zdp hp hQ fuel _ _ _ hw h2
    | some o=>
      simp only[ho]at h2⊢;obtain⟨_,h2⟩:=h2;split
      ·rename_i hwt;rw[oG hwt]at h2;exact ziq (hp i o ho) hw (fun a' w' hw' hk=>zdp hp hQ fuel _ a' w' hw' hk) h2
      ·rename_i hwt;rw[oH hwt]at h2;exact⟨fun _ _=>trivial,zdp hp hQ fuel _ _ _ hw h2⟩⟩
theorem zmp{id:Nat}{l:List Oper}{w:World}(hm:P.follows .mixedOrders=true)(hB:Region.lexB .any l.toArray=true)(hp:l.all (fun o=>Op.plain o.op)=true)
  (hC:C { w with drawn:=w.drawn+1 })(h:wpQuiet P l.toArray C (fun a'=>∀w',C w'->Q .normal a' w') l a):(Code.region id l.toArray true).wpIn (Fr r) 0 P Q a w:=by
 simp only[Region.lexB,qar]at hB;refine wpIn_region_any hm (zdp (Q:=fun a'=>∀w',C w'->Q .normal a' w') (fun i o ho=>?_) (fun _ w' hw' h=>h w' hw') _ _ _ _ hC ?_)
 ·exact qaB.1 hp o (qau (by simpa using ho))
 ·have:=wpAnyQIn_lex (F:=Fr r) (n:=0) (P:=P) (C:=C) (md:=.any) (Q:=fun a'=>∀w',C w'->Q .normal a' w') hB.1 l 0 (Array.replicate l.toArray.size false) a oC (by simpa using hB.2) (zhB l a h)
  simpa using this
theorem zxR(hm:HRel m){k:Nat}{x:Option (List Deferred)}(h:m.w.heap[k]?=some (.deferred x))(o:Nat):¬Own m k o:=by
 rintro⟨i,p,kk,h1,h2,h3,rfl,h5,h6⟩;have hb:=hm.blk i p kk h1 h2;have hn:∀o,m.w.cell? ⟨p.b,o,none⟩=none:=fun o=>by simp[World.cell?,h]
 cases kk with
 | cells cs=>have:=(hb.2.1 o h5 h6).1;rw[hn]at this;cases this
 | tail n=>have:=(hb o h5 h6).1;rw[hn]at this;cases this
 | row e cs=>have:=(hb.2.1 o h5 h6).1;rw[hn]at this;cases this
 | map kt vt es=>obtain⟨_,_,a,c,g,_⟩:=hb;rw[h]at g;cases g
 | loop fn st pe n env ps aas bo=>obtain⟨_,_,L,g,_⟩:=hb;rw[h]at g;cases g
 | dead=>simp[Blk.live]at h3
theorem zdE.step(hm:HRel m)(s:Step m m'){l:List Deferred}(h:zdE φ m.w l):zdE φ m'.w l:=by
 obtain⟨⟨ks,h1,h2,h4,h3⟩,h5,h6⟩:=h;refine⟨⟨ks,h1,h2,h4,fun k hk=>?_⟩,qax h5 s.size,fun l hl=>let ⟨L,hL⟩:=h6 l hl;s.loop l L hL⟩;obtain⟨g2,g3⟩:=h3 k hk;exact⟨g2,by rw[s.block k (qam.1 g3).1 (zxR hm g3)];exact g3⟩
theorem TR.zsX{id:Nat}{l:List Oper}(hm:P.follows .mixedOrders=true)(hB:Region.lexB .any l.toArray=true)(hp:l.all (fun o=>Op.plain o.op)=true)(h:TO true P n l.toArray l env H K):TR P n (.region id l.toArray true) env H K:=by
 intro φ m a h1 h2 h3 h4;have hq:=h φ m a h1 h2 h3 h4
 have keepStep:∀w',Keeps m.w w'->Step m ⟨m.A,m.β,m.H,w'⟩/\HRel ⟨m.A,m.β,m.H,w'⟩:=by
  intro w' k;have hc:∀b o,b<m.w.heap.size->w'.cell? ⟨b,o,none⟩=m.w.cell? ⟨b,o,none⟩:=fun b o hb=>by simp[World.cell?,k.block b hb]
  have hf:∀b o,b<m.w.heap.size->w'.frozen? ⟨b,o,none⟩=m.w.frozen? ⟨b,o,none⟩:=fun b o hb=>by simp[World.frozen?,k.block b hb]
  have s:Step m ⟨m.A,m.β,m.H,w'⟩:=⟨k.os,k.tape,k.output,k.size,fun _ _ h=>h,fun _ _ h=>.inl h,fun _ _ h=>.inl h,fun b o hb _=>hc b o hb,fun b o hb _ _=>hf b o hb,fun b hb _=>k.block b hb,fun b s hs=>zfc k hs,fun b L hL=>⟨L,by show w'.heap[b]?=_;rw[k.block b (qam.1 hL).1];exact hL⟩,fun b o hb h=>by rw[hc b o hb];exact h,(Step.refl m).ids⟩;refine⟨s,h2.len,fun i p kk g1 g2=>?_,h2.apart,h2.still,fun b o h=>qbc (h2.inA b o h) k.size,fun i p kk g1 g2 g3 g4=>qbc (h2.inO i p kk g1 g2 g3 g4) k.size,s.glob h2⟩;have hb:=h2.blk i p kk g1 g2;cases kk with
  | cells cs=>
    obtain⟨b1,b2,b3⟩:=hb;refine⟨b1,fun o ho ho'=>?_,fun j c hc'=>?_⟩
    ·exact zwcj
    ·obtain⟨y,y1,y0,y2⟩:=b3 j c hc';have hj:=(qaa.1 hc').1;have hlt:=h2.inO i p _ g1 g2 rfl oA;exact⟨y,by rw[hc _ _ hlt];exact y1,y0,s.srel h2 y2⟩
  | tail t=>
    intro o ho ho'
    have:=hb o ho ho'
    have hlt:=h2.inO i p _ g1 g2 rfl oA;unfold Free at this⊢;rw[hc _ _ hlt,hf _ _ hlt];exact this
  | row e cs=>
    obtain⟨b1,b2,b3⟩:=hb;refine⟨⟨b1.1,b1.2.1,fun h=>zfc k (b1.2.2 h)⟩,fun o ho ho'=>?_,fun j c hc'=>?_⟩
    ·exact zwcj
    ·obtain⟨y,y1,y0,y2⟩:=b3 j c hc';have hj:=(qaa.1 hc').1;have hlt:=h2.inO i p _ g1 g2 rfl oA;exact⟨y,by rw[hc _ _ hlt];exact y1,y0,s.trel h2 y2⟩
  | map kt vt es=>
    obtain⟨b1,b2,a,clock,b3,b4,b5⟩:=hb;have hlt:=h2.inO i p _ g1 g2 rfl oA;exact⟨b1,b2,a,clock,by rw[k.block _ hlt];exact b3,b4,fun i k t e he ha=>⟨(b5 i k t e he ha).1,s.trel h2 (b5 i k t e he ha).2.1,(b5 i k t e he ha).2.2⟩⟩
  | loop fn st pe n' env' ps aas bo=>
    obtain⟨b1,b2,L,b3,b4,b5⟩:=hb;have hlt:=h2.inO i p _ g1 g2 rfl oA;exact⟨b1,b2,L,by rw[k.block _ hlt];exact b3,b4,b5.step h2 s⟩
  | dead=>trivial
 refine zcP (zmp (C:=Keeps m.w) hm hB hp ⟨rfl,rfl,rfl,qag _,fun _ _=>rfl⟩ ?_);refine zdD ?_ l a hq;rintro a' ⟨env',g1,g2,g3⟩ w' hw';obtain⟨s,hm'⟩:=keepStep w' hw';exact⟨_,env',.normal,rfl,s,hm',g1.step h2 s,g2.step h2 s,trivial,g3⟩
theorem TO.nil(h:K .normal env H):TO q P n all [] env H K:=by
 intro φ m a h1 h2 h3 h4;cases q with
 | false=>exact wpListIn_nil ⟨m,env,.normal,rfl,.refl m,h2,h3,h4,trivial,h1 ▸ h⟩
 | true=>exact⟨env,h3,h4,h1 ▸ h⟩
theorem TO.sub(env':Env)(hs:env.sub env'){ops:List Oper}(h:TO q P n all ops env' H K):TO q P n all ops env H K:=
 fun φ m a h1 h2 h3 h4=>h φ m a h1 h2 (h3.sub (Env.zgh hs)) h4
theorem za4{F:Fence}{n:Nat}{Q Q':Exit->Act->World->Prop}(hq:∀e a w,Q e a w->Q' e a w)(hout:∀a w,¬Q .outgrown a w):∀(l:List Oper) (a:Act) (w:World),wpListIn F n P all Q l a w->wpListIn F n P all Q' l a w
 | [],a,w,h=>hq _ _ _ h
 | o::r,a,w,h=>by
   unfold wpListIn at h⊢;split
   ·rename_i hw;rw[oG hw]at h;unfold Oper.wpIn at h⊢;refine⟨h.1,?_⟩;revert h;generalize (o.semAt F.round a.eval).run P w=r';rintro⟨_,h⟩;cases r' with
    | ok x w'=>
      cases x <;> simp only[Oper.uponIn]at h⊢ <;> first
       | exact za4 hq hout r _ _ h
       | (refine⟨h.1,CallsIn.mono h.2 fun e w2 h2=>?_⟩
          cases e with
          | returned v=>exact za4 hq hout r _ _ h2
          | panicked ch=>exact hq _ _ _ h2
          | outgrown=>obtain⟨a0,w0,h0⟩:=h2;exact oI h0 (hout _ _))
       | (exact⟨h.1,RowsIn.mono h.2 fun v w2 h2=>za4 hq hout r _ _ h2⟩)
       | (refine⟨h.1,RoundIn.mono h.2 fun e w2 h2=>?_⟩
          cases e with
          | returned v=>exact za4 hq hout r _ _ h2
          | panicked ch=>exact hq _ _ _ h2
          | outgrown=>obtain⟨a0,w0,h0⟩:=h2;exact oI h0 (hout _ _))
    | halt x w'=>
      cases x <;> simp only[Oper.uponIn]at h⊢
      exact hq _ _ _ h
   ·rename_i hw;rw[oH hw]at h;exact⟨h.1,za4 hq hout r _ _ h.2⟩
theorem Post.zdv{w:World}:¬Post φ m n K .outgrown a w:=by
 rintro⟨m2,env2,te,_,_,_,_,_,h,_⟩;cases te <;> simp[zbe]at h
theorem TO.zfF{ops:List Oper}(s:Step m m')(h:wpListIn (Fr r) 0 P all (Post φ m' n K) ops a m'.w):wpListIn (Fr r) 0 P all (Post φ m n K) ops a m'.w:=
 za4 (fun _ _ _ hp=>hp.step s) (fun _ _=>Post.zdv) ops a m'.w h
def zmX(all:Array Oper)(env:Env)(g:Option (Nat×Bool)):Option Bool:=
 match g with
 | none=>some true
 | some (j,want)=>match (all[j]?).bind (·.dst) with
   | some d=>match env.look d with
     | some (.t (.v (.bool b)))=>some (b == want)
     | some (.t (.v (.tuple _)))=>some false
     | _=>none
   | none=>none
theorem ziV{c:Bool}(he:ERel m n env a.tmps)(h:zmX all env o.guard=some c):Region.wanted o (yielded all a.tmps)=c:=by
 unfold Region.wanted;cases hg:o.guard with
 | none=>rw[hg]at h;simp[zmX]at h;simp[h]
 | some g=>
   obtain⟨j,want⟩:=g;rw[hg]at h;simp only[zmX]at h;simp only[yielded];cases hd:(all[j]?).bind (·.dst) with
   | none=>rw[hd]at h;cases h
   | some d=>
     rw[hd]at h;simp only[]at h;cases hv:env.look d with
     | none=>rw[hv]at h;cases h
     | some v=>
       rw[hv]at h;obtain⟨x,h1,h2⟩:=he.2 d v hv;split at h
       ·rename_i b heq;cases heq
        have:=h2.v_eq
        subst this;simp only[qaI]at h;subst h;simp[h1]
       ·rename_i arr heq;cases heq
        have:=h2.v_eq
        subst this;simp only[qaI]at h;subst h;simp[h1]
       ·cases h
theorem TO.want{d:Option Tmp}{op:Op}{pos:String}(hw:zmX all env (some g)=some true)
  (k:TO q P n all (⟨d,op,ty,pos,aft,none⟩::rest) env H K):TO q P n all (⟨d,op,ty,pos,aft,some g⟩::rest) env H K:=by
 intro φ m a h1 h2 h3 h4;have h:=k φ m a h1 h2 h3 h4;have hw':=ziV (o:=⟨d,op,ty,pos,aft,some g⟩) (all:=all) h3 hw;cases q with
 | false=>
   simp only at h⊢;unfold wpListIn at h⊢;rw[oG hw'];simp only[Region.wanted,if_true]at h;exact h
 | true=>
   simp only at h⊢;unfold wpQuiet at h⊢;rw[oG hw'];simp only[Region.wanted,if_true]at h;exact h
theorem TO.pass{op:Op}{pos:String}(hd:Nat.ble (d+1) n=true)(hw:zmX all env (some g)=some false)
  (k:TO q P n all rest ((d,.t (.v undef))::env) H K):TO q P n all (⟨some d,op,ty,pos,aft,some g⟩::rest) env H K:=by
 intro φ m a h1 h2 h3 h4;have hw':=ziV (o:=⟨some d,op,ty,pos,aft,some g⟩) (all:=all) h3 hw;have hk:=k φ m _ h1 h2 (h3.put d (qaj hd) (.t _ _ (.v undef))) (by simpa [Act.put]using h4);cases q with
 | false=>
   simp only at hk⊢;unfold wpListIn;rw[oH (by rw[hw'];exact qce)];exact⟨fun _ _=>trivial,hk⟩
 | true=>
   simp only at hk⊢;unfold wpQuiet;rw[oH (by rw[hw'];exact qce)];exact hk
theorem TO.zzM{op:Op}{pos:String}(hw:zmX all env (some g)=some false)
  (k:TO q P n all rest env H K):TO q P n all (⟨none,op,ty,pos,aft,some g⟩::rest) env H K:=by
 intro φ m a h1 h2 h3 h4;have hw':=ziV (o:=⟨none,op,ty,pos,aft,some g⟩) (all:=all) h3 hw;have hk:=k φ m _ h1 h2 h3 h4;cases q with
 | false=>
   simp only at hk⊢;unfold wpListIn;rw[oH (by rw[hw'];exact qce)];exact⟨fun _ _=>trivial,hk⟩
 | true=>
   simp only at hk⊢;unfold wpQuiet;rw[oH (by rw[hw'];exact qce)];exact hk
theorem TO.op{d:Nat}{op:Op}{ty:TypeId}{pos:String}{aft:Array Edge}{v:SV}(hd:Nat.ble (d+1) n=true)
  (h:∀(m:M) (a:Act),m.H=H->HRel m->ERel m n env a.tmps->∃x,(∀w',Keeps m.w w'->(execOp a.eval ⟨some d,op,ty,pos,aft,none⟩).run P w'= .ok (.value x) w')/\SRel m v x)
  (k:TO q P n all rest ((d,v)::env) H K):TO q P n all (⟨some d,op,ty,pos,aft,none⟩::rest) env H K:=by
 intro φ m a h1 h2 h3 h4;obtain⟨x,hx,hr⟩:=h m a h1 h2 h3;have hk:=k φ m _ h1 h2 (h3.put d (qaj hd) hr) (by simpa [Act.put]using h4);cases q with
 | false=>
   refine wpListIn_plain rfl fun K' hK=>?_
   unfold Oper.wpIn;refine⟨fun _ _=>trivial,?_⟩;rw[za9 (hx m.w ⟨rfl,rfl,rfl,qag _,fun _ _=>rfl⟩) (by intro d e;cases e)];simp only[Oper.uponIn];exact hK _ _ hk
 | true=>
   simp only at hk⊢;unfold wpQuiet;simp only[Region.wanted,if_true];exact⟨x,fun w' hw'=>by unfold Oper.quietAt;rw[hx w' hw'];exact⟨rfl,rfl⟩,hk⟩
theorem Keeps.cell{w w':World}(k:Keeps w w'){b o:Nat}(hb:b<w.heap.size):w'.cell? ⟨b,o,none⟩=w.cell? ⟨b,o,none⟩:=by simp[World.cell?,k.block b hb]
variable {pos:String}
theorem TO.move{x:Operand}{v:SV}(hd:Nat.ble (d+1) n=true)(hx:env.val x=some v):RV q P n all rest env H K d (.move x) v:=
 TO.op hd (fun m a h1 h2 h3=>⟨_,fun _ _=>rfl,h3.val hx⟩)
theorem TO.assign{x:Operand}{v:SV}(hd:Nat.ble (d+1) n=true)(hx:env.val x=some v):RV q P n all rest env H K d (.assign x) v:=
 TO.op hd (fun m a h1 h2 h3=>⟨_,fun _ _=>rfl,h3.val hx⟩)
theorem TO.pick{c x y:Operand}{b:Bool}{v:SV}(hd:Nat.ble (d+1) n=true)(hc:env.val c=some (.t (.v (.bool b))))(hx:(bif b then env.val x else env.val y)=some v):RV q P n all rest env H K d (.pick c x y) v:=
 TO.op hd (fun m a h1 h2 h3=>by
  have h:=(h3.val hc).v_eq;refine⟨if b then a.eval x else a.eval y,?_,?_⟩
  ·intro w' _;simp[execOp,h,asBool]
  ·cases b
   ·exact h3.val hx
   ·exact h3.val hx)
def zbE:BinOp->Value->Value->Option Value
 | .add,.int .i64 a,.int .i64 b=>some (.int .i64 (IntKind.i64.wrap (a+b)))
 | .sub,.int .i64 a,.int .i64 b=>some (.int .i64 (IntKind.i64.wrap (a-b)))
 | .mul,.int .i64 a,.int .i64 b=>some (.int .i64 (IntKind.i64.wrap (a*b)))
 | .eql,.int k a,.int k' b=>if k=k' then some (.bool (a == b)) else none
 | .neq,.int k a,.int k' b=>if k=k' then some (.bool (a != b)) else none
 | .lss,.int k a,.int k' b=>if k=k' then some (.bool (decide (a<b))) else none
 | .leq,.int k a,.int k' b=>if k=k' then some (.bool (decide (a≤b))) else none
 | .gtr,.int k a,.int k' b=>if k=k' then some (.bool (decide (b<a))) else none
 | .geq,.int k a,.int k' b=>if k=k' then some (.bool (decide (b≤a))) else none
 | .add,.int k a,.int k' b=>if k=k' then some (.int k (k.wrap (a+b))) else none
 | .sub,.int k a,.int k' b=>if k=k' then some (.int k (k.wrap (a-b))) else none
 | .mul,.int k a,.int k' b=>if k=k' then some (.int k (k.wrap (a*b))) else none
 | .eql,.string a,.string b=>some (.bool (a.data.toList == b.data.toList))
 | .neq,.string a,.string b=>some (.bool (!(a.data.toList == b.data.toList)))
 | .lss,.string a,.string b=>some (.bool (Op.bytesLess a.data.toList b.data.toList))
 | .leq,.string a,.string b=>some (.bool (Op.bytesLess a.data.toList b.data.toList || a.data.toList == b.data.toList))
 | .gtr,.string a,.string b=>some (.bool (!(Op.bytesLess a.data.toList b.data.toList || a.data.toList == b.data.toList)))
 | .geq,.string a,.string b=>some (.bool (!(Op.bytesLess a.data.toList b.data.toList)))
 | _,_,_=>none
theorem znd{op:BinOp}{t:TypeId}{a b z:Value}{w:World}(h:zbE op a b=some z):
  ((do eqGuard op t x y a b;binOp op t a b):Sem Value).run P w= .ok z w:=by
 cases a <;> cases b <;> (try(cases op <;> simp[zbE]at h;done))
 ·rename_i k a k' b;by_cases hk:k=k'
  ·subst hk;cases op <;> (try(simp[zbE]at h;done)) <;> (try(cases k <;> simp[zbE]at h <;> subst h <;> simp[eqGuard,binOp,Op.intArith,Op.intCmp];done))
  ·cases op <;> (try(simp[zbE,hk]at h;done)) <;> (cases k <;> cases k' <;> simp[zbE]at h hk)
 ·cases op <;> (try(simp[zbE]at h;done)) <;> simp only[zbE,qaI]at h <;> subst h <;> simp[eqGuard,binOp,Op.stringOp,ByteArray.toList_eq]
end rules
theorem zbh(b o k:Nat):(⟨b,o,none⟩:Addr).add k=⟨b,o+k,none⟩:=by
 unfold Addr.add;split
 ·rename_i h;subst h;rfl
 ·rfl
section rules
variable {n:Nat}{tab:Tab}
variable {pos:String}
theorem TO.bin{op:BinOp}{t:TypeId}{a b z:Value}(hd:Nat.ble (d+1) n=true)(hx:env.val x=some (.t (.v a)))(hy:env.val y=some (.t (.v b)))
  (hz:zbE op a b=some z):RV q P n all rest env H K d (.binOp op t x y t') (.t (.v z)):=
 TO.op hd (fun m ac h1 h2 h3=>⟨z,fun w' hw'=>by
  have ex:=(h3.val hx).v_eq;have ey:=(h3.val hy).v_eq
  have:=znd (P:=P) (t:=t) (x:=x) (y:=y) (w:=w') hz
  simp only[execOp,ex,ey];rw[Sem.run_bind,this];rfl,.t _ _ (.v z)⟩)
theorem ze2{x:Int}(h1:-9223372036854775808≤x)(h2:x≤9223372036854775807):IntKind.i64.wrap x=x:=IntWalk.i64_in x oA
theorem TO.add{t t':TypeId}{x y:Operand}{a b:Int}(hd:Nat.ble (d+1) n=true)(hx:env.val x=some (.t (.v (.int .i64 a))))(hy:env.val y=some (.t (.v (.int .i64 b))))
  (h1:-9223372036854775808≤a+b)(h2:a+b≤9223372036854775807):RV q P n all rest env H K d (.binOp .add t x y t') (.t (.v (.int .i64 (a+b)))):=
 TO.bin hd hx hy (by rw[show zbE .add (.int .i64 a) (.int .i64 b)=some (.int .i64 (IntKind.i64.wrap (a+b))) from rfl,ze2 h1 h2])
theorem TO.zoa{t:TypeId}{a b:Int}(hd:Nat.ble (d+1) n=true)(hx:env.val x=some (.t (.v (.int .i64 a))))(hy:env.val y=some (.t (.v (.int .i64 b))))
  (h1:-9223372036854775808≤a-b)(h2:a-b≤9223372036854775807):RV q P n all rest env H K d (.binOp .sub t x y t') (.t (.v (.int .i64 (a-b)))):=
 TO.bin hd hx hy (by rw[show zbE .sub (.int .i64 a) (.int .i64 b)=some (.int .i64 (IntKind.i64.wrap (a-b))) from rfl,ze2 h1 h2])
theorem TO.bquo{t:TypeId}{a b:Int}(hd:Nat.ble (d+1) n=true)(hx:env.val x=some (.t (.v (.int k' a))))(hy:env.val y=some (.t (.v (.int k' b))))
  (hb:b≠0)(k:TO q P n all rest ((d,.t (.v (.int k' (k'.wrap (a.tdiv b)))))::env) H K):TO q P n all (⟨some d,.binOp .quo t x y t',ty,pos,aft,none⟩::rest) env H K:=
 TO.op hd (fun m ac h1 h2 h3=>⟨_,fun w' hw'=>by
  have ex:=(h3.val hx).v_eq;have ey:=(h3.val hy).v_eq;simp[execOp,ex,ey,eqGuard,binOp,Op.intDiv,hb],.t _ _ (.v _)⟩) k
theorem TO.brem{t:TypeId}{a b:Int}(hd:Nat.ble (d+1) n=true)(hx:env.val x=some (.t (.v (.int k' a))))(hy:env.val y=some (.t (.v (.int k' b))))
  (hb:b≠0)(k:TO q P n all rest ((d,.t (.v (.int k' (a.tmod b))))::env) H K):TO q P n all (⟨some d,.binOp .rem t x y t',ty,pos,aft,none⟩::rest) env H K:=
 TO.op hd (fun m ac h1 h2 h3=>⟨_,fun w' hw'=>by
  have ex:=(h3.val hx).v_eq;have ey:=(h3.val hy).v_eq;simp[execOp,ex,ey,eqGuard,binOp,Op.intDiv,hb],.t _ _ (.v _)⟩) k
theorem TO.cat{t:TypeId}{a b:Str}(hd:Nat.ble (d+1) n=true)(hx:env.val x=some (.t (.v (str a))))(hy:env.val y=some (.t (.v (str b))))
  (hl:a.length+b.length≤9223372036854775807):RV q P n all rest env H K d (.binOp .add t x y t') (.t (.v (str (a++b)))):=
 TO.op hd (fun m ac h1 h2 h3=>⟨_,fun w' hw'=>by
  have ex:=(h3.val hx).v_eq;have ey:=(h3.val hy).v_eq
  have hs:¬(((⟨a.toArray⟩:ByteArray).size+(⟨b.toArray⟩:ByteArray).size:Nat):Int) > IntKind.i64.max:=by
   show ¬(((a.length+b.length:Nat)):Int) > 9223372036854775807;omega
  have hc:(⟨a.toArray⟩:ByteArray)++(⟨b.toArray⟩:ByteArray)=⟨(a++b).toArray⟩:=by
   apply ByteArray.ext;simp
  have hr:(Op.stringOp .add (⟨a.toArray⟩:ByteArray) (⟨b.toArray⟩:ByteArray)).run P w'= .ok (str (a++b)) w':=by
   unfold Op.stringOp;simp only[oH hs,hc];rfl
  simp only[execOp,ex,ey];simp[eqGuard,binOp,hr],.t _ _ (.v _)⟩)
theorem TO.not{t:TypeId}{x:Operand}{b:Bool}(hd:Nat.ble (d+1) n=true)(hx:env.val x=some (.t (.v (.bool b)))):RV q P n all rest env H K d (.unOp .not t x) (.t (.v (.bool (!b)))):=
 TO.op hd (fun m ac h1 h2 h3=>⟨.bool (!b),fun w' hw'=>by simp[execOp,(h3.val hx).v_eq,Op.unary],.t _ _ (.v _)⟩)
theorem TO.neg{t:TypeId}{x:Operand}{ik:IntKind}{b:Int}(hd:Nat.ble (d+1) n=true)(hx:env.val x=some (.t (.v (.int ik b)))):RV q P n all rest env H K d (.unOp .neg t x) (.t (.v (.int ik (ik.wrap (0-b))))):=
 TO.op hd (fun m ac h1 h2 h3=>⟨.int ik (ik.wrap (0-b)),fun w' hw'=>by simp[execOp,(h3.val hx).v_eq,Op.unary,Op.intArith],.t _ _ (.v _)⟩)
theorem Fit.str{t:TypeId}{i:TyI}(h:Fit P t i)(hk:i.k= .str):P.underlying t=some .string:=by
 obtain⟨dd,ti,z,h1,h2,h3,_⟩:=h.ex;rw[hk]at h3;cases dd <;> simp[TK'.fits]at h3
 exact h1
theorem Fit.slice{t e:TypeId}{i:TyI}(h:Fit P t i)(hk:i.k= .slice e):P.underlying t=some (.slice e):=by
 exact zwdg
theorem Fit.info{t:TypeId}{i:TyI}(h:Fit P t i):∃ti,P.info? t=some ti/\ti.size=i.size/\ti.bytes=i.bytes:=by
 obtain⟨dd,ti,z,h1,h2,h3,h4,h5,_⟩:=h.ex;exact⟨ti,h2,h4,h5⟩
theorem Fit.isAgg{t:TypeId}{i:TyI}(h:Fit P t i)(w:World):(isAgg t).run P w= .ok i.k.agg w:=by
 obtain⟨dd,ti,z,h1,h2,h3,h4,h5,_⟩:=h.ex;simp only[Go.isAgg,underlying];simp[h1];cases hk:i.k <;> rw[hk]at h3 <;> cases dd <;> simp[TK'.fits]at h3 <;> simp[TK'.agg]
theorem Fit.sizeOf{t:TypeId}{i:TyI}(h:Fit P t i)(w:World):(sizeOf t).run P w= .ok i.size w:=by
 obtain⟨ti,h2,h4,h5⟩:=h.info;simp[Go.sizeOf,typeInfo,h2,h4]
theorem Fit.struct{t:TypeId}{i:TyI}{fs:List (Nat×TypeId)}(h:Fit P t i)(hk:i.k= .struct fs):∃gs,P.underlying t=some (.struct gs)/\fs=gs.toList.map fun f=>(f.offset,f.type):=by
 obtain⟨dd,ti,z,h1,h2,h3,_⟩:=h.ex;rw[hk]at h3;cases dd <;> simp[TK'.fits]at h3
 exact⟨_,h1,h3⟩
theorem TRel.zca{w:World}{x:Value}(h:TRel A w (.sl sz es) x):∃ad cap,x= .slice ad es.length cap:=by
 cases h with
 | nil=>exact⟨none,0,rfl⟩
 | empty _ a=>exact⟨some a,0,rfl⟩
 | sl _ _ b off cap f=>exact⟨_,cap,rfl⟩
def SV.elems(sz:Nat):SV->Option (List T)
 | .t (.sl s es)=>bif Nat.beq s sz then some es else none
 | .sl s es _=>bif Nat.beq s sz then some es else none
 | .t (.v (.slice none 0 0))=>some []
 | _=>none
theorem zox{α:Type}{a b:Nat}{x y:α}(h:(bif Nat.beq a b then some x else none)=some y):a=b/\x=y:=by
 cases hb:Nat.beq a b with
 | true=>rw[hb]at h;cases h;exact⟨qaY hb,rfl⟩
 | false=>rw[hb]at h;cases h
theorem SRel.elems{m:M}{v:SV}{x:Value}{sz:Nat}{es:List T}(h:SRel m v x)(hv:v.elems sz=some es):TRel m.A m.w (.sl sz es) x:=by
 unfold SV.elems at hv;split at hv
 ·obtain⟨rfl,rfl⟩:=zox hv;cases h with|t _ _ h=>exact h
 ·obtain⟨rfl,rfl⟩:=zox hv;cases h with|sl _ _ _ _ _ h=>exact h
 ·cases hv;have:=h.v_eq;subst this;exact .nil sz
 ·cases hv
theorem TO.zsr(hT:zas P tab){t:TypeId}{i:TyI}(hd:Nat.ble (d+1) n=true)(ht:tab.get t=some i)(hk:i.k= .str)(hx:env.val x=some (.t (.v (str l))))
  (k:TO q P n all rest ((d,.t (.v (.int .i64 l.length)))::env) H K):TO q P n all (⟨some d,.call { callee:=.builtin .len,args:=#[x],argTypes:=#[t] },ty,pos,aft,none⟩::rest) env H K:=
 TO.op hd (fun m ac h1 h2 h3=>⟨.int .i64 l.length,fun w' hw'=>by
  simp[execOp,resolve,invoke,builtin,Builtin.len_,underlying,(hT t i ht).str hk,(h3.val hx).v_eq,goInt];rfl,.t _ _ (.v _)⟩) k
theorem TO.zv0(hT:zas P tab){t e:TypeId}{i:TyI}{v:SV}(hd:Nat.ble (d+1) n=true)(ht:tab.get t=some i)(hk:i.k= .slice e)(he:tab.get e=some ie)(hs:ie.size=sz)(hx:env.val x=some v)
  (hv:v.elems sz=some es)(k:TO q P n all rest ((d,.t (.v (.int .i64 es.length)))::env) H K):TO q P n all (⟨some d,.call { callee:=.builtin .len,args:=#[x],argTypes:=#[t] },ty,pos,aft,none⟩::rest) env H K:=
 TO.op hd (fun m ac h1 h2 h3=>⟨.int .i64 es.length,fun w' hw'=>by
  obtain⟨ad,cap,hx'⟩:=((h3.val hx).elems hv).zca;simp[execOp,resolve,invoke,builtin,Builtin.len_,underlying,(hT t i ht).slice hk,hx',goInt],.t _ _ (.v _)⟩) k
theorem TO.zvZ(hT:zas P tab){t e:TypeId}{i:TyI}{id off len:Nat}(hd:Nat.ble (d+1) n=true)(ht:tab.get t=some i)(hk:i.k= .slice e)(hx:env.val x=some (.ms sz id off len))
  (k:TO q P n all rest ((d,.t (.v (.int .i64 len)))::env) H K):TO q P n all (⟨some d,.call { callee:=.builtin .len,args:=#[x],argTypes:=#[t] },ty,pos,aft,none⟩::rest) env H K:=
 TO.op hd (fun m ac h1 h2 h3=>⟨.int .i64 len,fun w' hw'=>by
  have h:=h3.val hx;generalize hy:ac.eval x=y at h;cases h;simp[execOp,resolve,invoke,builtin,Builtin.len_,underlying,(hT t i ht).slice hk,hy,goInt],.t _ _ (.v _)⟩) k
theorem TO.zf1(hT:zas P tab){t:TypeId}{i:TyI}{c:UInt8}(hd:Nat.ble (d+1) n=true)(ht:tab.get t=some i)(hk:i.k= .str)(hx:env.val x=some (.t (.v (str l))))
  (hy:env.val y=some (.t (.v (.int ik j))))(h0:0≤j)(hc:l[j.toNat]?=some c)(k:TO q P n all rest ((d,.t (.v (.int .u8 c.toNat)))::env) H K):TO q P n all (⟨some d,.index t x y,ty,pos,aft,none⟩::rest) env H K:=
 TO.op hd (fun m ac h1 h2 h3=>⟨.int .u8 c.toNat,fun w' hw'=>by
  have hj:(⟨l.toArray⟩:ByteArray)[j.toNat]?=some c:=by
   rw[<-hc];show(l.toArray)[j.toNat]?=_;simp
  simp[execOp,Instr.index,asIntOf,underlying,(hT t i ht).str hk,(h3.val hx).v_eq,(h3.val hy).v_eq,h0,hj],.t _ _ (.v _)⟩) k
theorem TO.indexAddr(hT:zas P tab){t e:TypeId}{i ie:TyI}{x y:Operand}{v:SV}{sz:Nat}{es:List T}{ik:IntKind}{j:Int}{el:T}(hd:Nat.ble (d+1) n=true)(ht:tab.get t=some i)(hk:i.k= .slice e)
  (he:tab.get e=some ie)(hs:ie.size=sz)(hx:env.val x=some v)(hv:v.elems sz=some es)(hy:env.val y=some (.t (.v (.int ik j))))(h0:0≤j)(hj:es[j.toNat]?=some el)
  (k:TO q P n all rest ((d,.cp el.cells 0)::env) H K):TO q P n all (⟨some d,.indexAddr t x y,ty,pos,aft,none⟩::rest) env H K:=
 TO.op hd (fun m ac h1 h2 h3=>by
  have h:=(h3.val hx).elems hv;have hjl:j.toNat<es.length:=(qaa.1 hj).1;generalize hz:ac.eval x=z at h;cases h with
  | nil=>simp at hjl
  | empty=>simp at hjl
  | sl _ _ b off cap f hcap hsz hA hw ho hr=>
    refine⟨.pointer (some ⟨b,off+j.toNat*sz+0,none⟩),?_,?_⟩
    ·intro w' hw';have hlt:j<(es.length:Int):=oA
     simp[execOp,Instr.indexAt,asIntOf,underlying,(hT t i ht).slice hk,(h3.val hy).v_eq,hz,h0,hlt,(hT e ie he).sizeOf,zbh,hs]
    ·have hl:=hsz _ _ hj;refine .cp _ 0 b (off+j.toNat*sz) (fun q=>f (j.toNat*sz+q)) (fun q hq=>ho _ _ hjl oA) (fun q hq=>?_) (fun q hq=>?_) (fun q c hc=>hr _ _ _ _ hj hc)
     ·rw[qa1];exact hA _ _ hjl oA
     ·rw[qa1];exact hw _ _ hjl oA) k
theorem TO.zg6(hT:zas P tab){t e:TypeId}{i:TyI}{id off len:Nat}(hd:Nat.ble (d+1) n=true)(ht:tab.get t=some i)(hk:i.k= .slice e)
  (he:tab.get e=some ie)(hs:ie.size=sz)(hx:env.val x=some (.ms sz id off len))(hy:env.val y=some (.t (.v (.int ik j))))(h0:0≤j)(hj:j<len)
  (k:TO q P n all rest ((d,.ref id (off+j.toNat*sz))::env) H K):TO q P n all (⟨some d,.indexAddr t x y,ty,pos,aft,none⟩::rest) env H K:=
 TO.op hd (fun m ac h1 h2 h3=>by
  have h:=h3.val hx;generalize hz:ac.eval x=z at h;cases h with
  | ms _ _ _ _ cap p hp hn hc hh=>
    refine⟨.pointer (some ⟨p.b,p.lo+(off+j.toNat*sz),none⟩),fun w' hw'=>?_,.ref _ _ p hp hn⟩;simp[execOp,Instr.indexAt,asIntOf,underlying,(hT t i ht).slice hk,(h3.val hy).v_eq,hz,h0,hj,(hT e ie he).sizeOf,zbh,hs,qa1]) k
theorem zec(hT:zas P tab){t:TypeId}{i:TyI}{o:Nat}(ht:tab.get t=some i)(hk:i.k= .struct fs)
  (hf:fs[fi]?=some (o,ft))(hft:tab.get ft=some it)(hz:it.size≠0)(b off:Nat)(w:World):
  (Instr.fieldAt t (.pointer (some ⟨b,off,none⟩)) fi).run P w= .ok (.pointer (some ⟨b,off+o,none⟩)) w:=by
 obtain⟨gs,hu,hfs⟩:=(hT t i ht).struct hk
 have hg:∃g,gs[fi]?=some g/\g.offset=o/\g.type=ft:=by
  exact zwbk
 obtain⟨g,hg1,hg2,hg3⟩:=hg;simp[Instr.fieldAt,underlying,hu,hg1,Instr.sureAddr,fieldPlace,hg2,hg3,(hT ft it hft).sizeOf,hz,zbh]
theorem TO.fieldAddr(hT:zas P tab){t:TypeId}{i it:TyI}{fs:List (Nat×TypeId)}{x:Operand}{cs:List T}{off fi o:Nat}{ft:TypeId}(hd:Nat.ble (d+1) n=true)(ht:tab.get t=some i)(hk:i.k= .struct fs)
  (hf:fs[fi]?=some (o,ft))(hft:tab.get ft=some it)(hz:it.size≠0)(hx:env.val x=some (.cp cs off))(k:TO q P n all rest ((d,.cp cs (off+o))::env) H K):TO q P n all (⟨some d,.fieldAddr t x fi,ty,pos,aft,none⟩::rest) env H K:=
 TO.op hd (fun m ac h1 h2 h3=>by
  have h:=h3.val hx;generalize hq:ac.eval x=z at h;cases h with
  | cp _ _ b ob f ho hA hw hr=>
    refine⟨.pointer (some ⟨b,ob+(off+o),none⟩),fun w' hw'=>?_,.cp _ _ b ob f ho hA hw hr⟩
    have:=zec hT ht hk hf hft hz b (ob+off) w'
    simp[execOp,hq,this,qa1]) k
theorem TO.zfV(hT:zas P tab){t:TypeId}{i:TyI}{id off o:Nat}(hd:Nat.ble (d+1) n=true)(ht:tab.get t=some i)(hk:i.k= .struct fs)
  (hf:fs[fi]?=some (o,ft))(hft:tab.get ft=some it)(hz:it.size≠0)(hx:env.val x=some (.ref id off))(k:TO q P n all rest ((d,.ref id (off+o))::env) H K):TO q P n all (⟨some d,.fieldAddr t x fi,ty,pos,aft,none⟩::rest) env H K:=
 TO.op hd (fun m ac h1 h2 h3=>by
  have h:=h3.val hx;generalize hq:ac.eval x=z at h;cases h with
  | ref _ _ p hp hn=>
    refine⟨.pointer (some ⟨p.b,p.lo+(off+o),none⟩),fun w' hw'=>?_,.ref _ _ p hp hn⟩
    have:=zec hT ht hk hf hft hz p.b (p.lo+off) w'
    simp[execOp,hq,this,qa1]) k
theorem zf3(hT:zas P tab){t:TypeId}{i:TyI}(ht:tab.get t=some i)(hk:i.k.agg=false){b o:Nat}{w:World}{x:Value}(hc:w.cell? ⟨b,o,none⟩=some x):
  (Instr.loadAt t (.pointer (some ⟨b,o,none⟩))).run P w= .ok x w:=by
 simp[Instr.loadAt,Instr.sureAddr,loadVar,(hT t i ht).isAgg,hk,hc]
theorem zgA(hT:zas P tab){t:TypeId}{i:TyI}(ht:tab.get t=some i)(hk:i.k.agg=true){b o:Nat}{w:World}{f:Nat->Value}(hc:∀j,j<i.size->w.cell? ⟨b,o+j,none⟩=some (f j)):
  (Instr.loadAt t (.pointer (some ⟨b,o,none⟩))).run P w= .ok (.agg ((List.range i.size).map f).toArray) w:=by
 have:=run_loadCells (P:=P) w ⟨b,o,none⟩ i.size f (fun j hj=>by rw[zbh];exact hc j hj)
 simp[Instr.loadAt,Instr.sureAddr,loadVar,(hT t i ht).isAgg,hk,(hT t i ht).sizeOf,this]
theorem TO.load(hT:zas P tab){t:TypeId}{i:TyI}{x:Operand}{cs:List T}{off:Nat}{c:T}(hd:Nat.ble (d+1) n=true)(ht:tab.get t=some i)(hk:i.k.agg=false)
  (hx:env.val x=some (.cp cs off))(hc:cs[off]?=some c)(k:TO q P n all rest ((d,.t c)::env) H K):TO q P n all (⟨some d,.load t x,ty,pos,aft,none⟩::rest) env H K:=
 TO.op hd (fun m ac h1 h2 h3=>by
  have h:=h3.val hx;generalize hq:ac.eval x=z at h;cases h with
  | cp _ _ b ob f ho hA hw hr=>
    have hl:=(qaa.1 hc).1;refine⟨f off,fun w' hw'=>?_,.t _ _ (hr _ _ hc)⟩;have hcc:w'.cell? ⟨b,ob+off,none⟩=some (f off):=by rw[hw'.cell (h2.inA _ _ (hA off hl))];exact hw off hl
    simp[execOp,hq,zf3 hT ht hk hcc]) k
theorem TO.zpa(hT:zas P tab){t:TypeId}{i:TyI}{cs:List T}{off:Nat}(hd:Nat.ble (d+1) n=true)(ht:tab.get t=some i)(hk:i.k.agg=true)
  (hx:env.val x=some (.cp cs off))(hc:off+i.size≤cs.length)(k:TO q P n all rest ((d,.t (.ag ((cs.drop off).take i.size)))::env) H K):TO q P n all (⟨some d,.load t x,ty,pos,aft,none⟩::rest) env H K:=
 TO.op hd (fun m ac h1 h2 h3=>by
  have h:=h3.val hx;generalize hq:ac.eval x=z at h;cases h with
  | cp _ _ b ob f ho hA hw hr=>
    refine⟨.agg ((List.range i.size).map fun j=>f (off+j)).toArray,?_,.t _ _ (.ag _ _ oF (fun j y hy=>?_) fun j c y hc hy=>?_)⟩
    ·intro w' hw'
     have:=zgA hT ht hk (b:=b) (o:=ob+off) (w:=w') (f:=fun j=>f (off+j)) (fun j hj=>by rw[qa1,hw'.cell (h2.inA _ _ (hA (off+j) oA))];exact hw (off+j) oA)
     simp[execOp,hq,this]
    ·simp at hy;obtain⟨r,hr',rfl⟩:=hy
     have:=qau hr'
     simp at this;exact ho _ oA
    ·rw[qa6]at hc;split at hc
     ·rename_i hj;rw[qbb]at hc;simp[hj]at hy;subst hy;exact hr _ _ hc
     ·cases hc) k
theorem TO.zf4(hT:zas P tab){t:TypeId}{i:TyI}{id off:Nat}{c:SV}(hd:Nat.ble (d+1) n=true)(ht:tab.get t=some i)(hk:i.k.agg=false)
  (hx:env.val x=some (.ref id off))(hH:H[id]?=some (.cells cs))(hc:cs[off]?=some c)(k:TO q P n all rest ((d,c)::env) H K):TO q P n all (⟨some d,.load t x,ty,pos,aft,none⟩::rest) env H K:=
 TO.op hd (fun m ac h1 h2 h3=>by
  have h:=h3.val hx;generalize hq:ac.eval x=z at h;cases h with
  | ref _ _ p hp hn=>
    have hb:=h2.blk id p (.cells cs) hp (by rw[h1];exact hH);obtain⟨y,hy1,_,hy2⟩:=hb.2.2 off c hc;have hlt:=h2.inO id p _ hp (by rw[h1];exact hH) rfl (by have:=hb.1;have:=(qaa.1 hc).1;omega)
    exact⟨y,fun w' hw'=>by
     have hcc:w'.cell? ⟨p.b,p.lo+off,none⟩=some y:=by rw[hw'.cell hlt];exact hy1
     simp[execOp,hq,zf3 hT ht hk hcc],hy2⟩) k
theorem TO.zeR(hT:zas P tab){t:TypeId}{i:TyI}{id off:Nat}(hd:Nat.ble (d+1) n=true)(ht:tab.get t=some i)(hk:i.k.agg=true)
  (hx:env.val x=some (.ref id off))(hH:H[id]?=some (.cells cs))(hc:off+i.size≤cs.length)(k:TO q P n all rest ((d,.ag ((cs.drop off).take i.size))::env) H K):TO q P n all (⟨some d,.load t x,ty,pos,aft,none⟩::rest) env H K:=
 TO.op hd (fun m ac h1 h2 h3=>by
  have h:=h3.val hx;generalize hq:ac.eval x=z at h;cases h with
  | ref _ _ p hp hn=>
    have hb:=h2.blk id p (.cells cs) hp (by rw[h1];exact hH)
    have hex:∀j,∃y,j<i.size->m.w.cell? ⟨p.b,p.lo+off+j,none⟩=some y/\y.oneCell'=true/\∀c,cs[off+j]?=some c->SRel m c y:=by
     intro j;by_cases hj:j<i.size
     ·have hl:off+j<cs.length:=oA
      obtain⟨y,hy1,hy0,hy2⟩:=hb.2.2 (off+j) cs[off+j] (qad hl);exact⟨y,fun _=>⟨by rw[qa1];exact hy1,hy0,fun c hc=>by rw[qad hl]at hc;cases hc;exact hy2⟩⟩
     ·exact⟨undef,fun h=>oI h hj⟩
    obtain⟨f,hf⟩:=qby hex;refine⟨.agg ((List.range i.size).map f).toArray,?_,.ag _ _ oF (fun j y hy=>?_) fun j c y hc hy=>?_⟩
    ·intro w' hw'
     have hcc:∀j,j<i.size->w'.cell? ⟨p.b,p.lo+off+j,none⟩=some (f j):=fun j hj=>by
      have hlt:=h2.inO id p _ hp (by rw[h1];exact hH) rfl (by have:=hb.1;omega);rw[hw'.cell hlt];exact(hf j hj).1
     simp[execOp,hq,zgA hT ht hk hcc]
    ·exact zwdd
    ·rw[qa6]at hc;split at hc
     ·rename_i hj;rw[qbb]at hc;simp[hj]at hy;subst hy;exact(hf j hj).2.2 c hc
     ·cases hc) k
def SV.znF:SV->Bool
 | .cp _ _| .ref _ _| .tref _ _ _ _=>true
 | _=>false
theorem TO.nilCheck{x:Operand}{v:SV}(hd:Nat.ble (d+1) n=true)(hx:env.val x=some v)(hv:v.znF=true):RV q P n all rest env H K d (.nilCheck x) v:=
 TO.op hd (fun m ac h1 h2 h3=>by
  have h:=h3.val hx;refine⟨ac.eval x,fun w' hw'=>?_,h⟩;generalize hq:ac.eval x=z at h;cases v <;> simp[SV.znF]at hv <;> cases h <;> simp[execOp,hq])
theorem TO.zio(hd:Nat.ble (d+1) n=true)(hx:env.val x=some (.fn f cs)):RV q P n all rest env H K d (.nilCheck x) (.fn f cs):=
 TO.op hd (fun m ac h1 h2 h3=>by
  have h:=h3.val hx;refine⟨ac.eval x,fun w' hw'=>?_,h⟩;generalize hq:ac.eval x=z at h;cases h;simp[execOp,hq])
theorem TO.extract{x:Operand}{vs:List SV}{i:Nat}{v:SV}(hd:Nat.ble (d+1) n=true)(hx:env.val x=some (.tup vs))(hv:vs[i]?=some v):RV q P n all rest env H K d (.extract x i) v:=
 TO.op hd (fun m ac h1 h2 h3=>by
  have h:=h3.val hx;generalize hq:ac.eval x=z at h;cases h with
  | tup _ arr hs hr=>
    have hl:=(qaa.1 hv).1;have ha:arr[i]?=some (arr[i]' oA):=qaq oA;exact⟨_,fun w' hw'=>by simp[execOp,hq,Instr.extract,ha],hr _ _ _ hv ha⟩)
theorem znU(hT:zas P tab){t:TypeId}{i:TyI}(ht:tab.get t=some i)(cs:Array Value)(off:Nat)(w:World)(hk:i.k.agg=false){x:Value}(hx:cs[off]?=some x):
  (part t cs off).run P w= .ok x w:=by
 simp[part,(hT t i ht).isAgg,hk,hx]
def SV.parts:SV->Option (List SV)
 | .ag cs=>some cs
 | .t (.ag cs)=>some (cs.map .t)
 | _=>none
theorem SRel.parts{m:M}{v:SV}{x:Value}{cs:List SV}(h:SRel m v x)(hv:v.parts=some cs):∃arr,x= .agg arr/\arr.size=cs.length/\(∀(i:Nat) y,arr[i]?=some y->y.oneCell'=true)/\∀(i:Nat) c y,cs[i]?=some c->arr[i]?=some y->SRel m c y:=by
 cases v with
 | ag l=>simp only[SV.parts,qaI]at hv;subst hv;cases h with|ag _ arr hs h1 hr=>exact⟨arr,rfl,hs,h1,hr⟩
 | t t=>
   cases t with
   | ag l=>
     simp only[SV.parts,qaI]at hv;subst hv
     cases h with
     | t _ _ h=>
       cases h with
       | ag _ arr hs h1 hr=>
         refine⟨arr,rfl,by simpa using hs,h1,fun i c y hc hy=>?_⟩;rw[qan]at hc;cases hq:l[i]? with
         | none=>rw[hq]at hc;cases hc
         | some u=>rw[hq]at hc;cases hc;exact .t _ _ (hr _ _ _ hq hy)
   | _=>simp[SV.parts]at hv
 | _=>simp[SV.parts]at hv
theorem zr0(hT:zas P tab){t:TypeId}{i:TyI}{o:Nat}(ht:tab.get t=some i)(hk:i.k= .struct fs)
  (hf:fs[fi]?=some (o,ft))(arr:Array Value)(w:World):(Instr.field t (.agg arr) fi).run P w=(part ft arr o).run P w:=by
 obtain⟨gs,hu,hfs⟩:=(hT t i ht).struct hk
 have hg:∃g,gs[fi]?=some g/\g.offset=o/\g.type=ft:=by
  exact zwbk
 obtain⟨g,hg1,hg2,hg3⟩:=hg;simp[Instr.field,underlying,hu,hg1,asAgg,hg2,hg3]
theorem TO.field(hT:zas P tab){t:TypeId}{i it:TyI}{fs:List (Nat×TypeId)}{x:Operand}{v c:SV}{cs:List SV}{fi o:Nat}{ft:TypeId}(hd:Nat.ble (d+1) n=true)(ht:tab.get t=some i)(hk:i.k= .struct fs)
  (hf:fs[fi]?=some (o,ft))(hft:tab.get ft=some it)(ha:it.k.agg=false)(hx:env.val x=some v)(hv:v.parts=some cs)(hc:cs[o]?=some c)
  (k:TO q P n all rest ((d,c)::env) H K):TO q P n all (⟨some d,.field t x fi,ty,pos,aft,none⟩::rest) env H K:=
 TO.op hd (fun m ac h1 h2 h3=>by
  obtain⟨arr,hq,hs,_,hr⟩:=(h3.val hx).parts hv;have hl:=(qaa.1 hc).1;have hy:arr[o]?=some (arr[o]' oA):=qaq oA;refine⟨_,fun w' hw'=>?_,hr _ _ _ hc hy⟩;simp[execOp,hq,zr0 hT ht hk hf,znU hT hft _ _ _ ha hy]) k
theorem zjf(q:IntKind)(a y:Nat)(code:BoundsCode)(w:World)(h:a≤y):(Instr.sliceBound (.int q (a:Int)) y code).run P w= .ok a w:=by
 have h1:(a:Int)≤(y:Int):=oA
 simp[Instr.sliceBound,asIntOf,h1]
theorem zjn(isS:Bool)(len cap:Nat)(lo hi:Option Value)(a b:Nat)(w:World)(hlo:(lo=none/\a=0)\/∃q,lo=some (.int q (a:Int)))
  (hhi:(hi=none/\b=len)\/∃q,hi=some (.int q (b:Int)))(h1:a≤b)(h2:b≤cap):(Instr.sliceBounds isS len cap lo hi none).run P w= .ok (a,b,cap) w:=by
 rcases hhi with ⟨rfl,rfl⟩|⟨q,rfl⟩ <;> rcases hlo with ⟨rfl,rfl⟩|⟨q',rfl⟩ <;> simp[Instr.sliceBounds,zjf,h1,h2]
theorem ERel.zhs{ac:Act}(g:ERel m n env ac.tmps){dflt a:Nat}(h:(lo=none/\a=dflt)\/∃x q,lo=some x/\env.val x=some (.t (.v (.int q (a:Int))))):
  (lo.map ac.eval=none/\a=dflt)\/∃q,lo.map ac.eval=some (.int q (a:Int)):=by
 rcases h with ⟨rfl,rfl⟩|⟨x,q,rfl,hx⟩
 ·exact .inl ⟨rfl,rfl⟩
 ·exact .inr ⟨q,by simp[(g.val hx).v_eq]⟩
theorem zkW(hT:zas P tab){t:TypeId}{i:TyI}(ht:tab.get t=some i)(hk:i.k= .str)(l:Str)(lo hi:Option Value)(a b:Nat)(w:World)(hlo:(lo=none/\a=0)\/∃q,lo=some (.int q (a:Int)))
  (hhi:(hi=none/\b=l.length)\/∃q,hi=some (.int q (b:Int)))(h1:a≤b)(h2:b≤l.length):(Instr.sliceAt t (str l) lo hi none).run P w= .ok (str ((l.take b).drop a)) w:=by
 have hb:=zjn (P:=P) false (⟨l.toArray⟩:ByteArray).size (⟨l.toArray⟩:ByteArray).size lo hi a b w hlo hhi h1 h2
 have he:(⟨l.toArray⟩:ByteArray).extract a b=⟨((l.take b).drop a).toArray⟩:=by
  apply ByteArray.ext;simp[ByteArray.data_extract,List.take_drop,Nat.add_sub_cancel' h1]
 simp[Instr.sliceAt,Instr.slice,underlying,(hT t i ht).str hk,hb,he]
theorem TO.ziJ(hT:zas P tab){t:TypeId}{i:TyI}{a b:Nat}(hd:Nat.ble (d+1) n=true)(ht:tab.get t=some i)(hk:i.k= .str)
  (hx:env.val x=some (.t (.v (str l))))(hlo:(lo=none/\a=0)\/∃x q,lo=some x/\env.val x=some (.t (.v (.int q (a:Int)))))
  (hhi:(hi=none/\b=l.length)\/∃x q,hi=some x/\env.val x=some (.t (.v (.int q (b:Int)))))(h1:a≤b)(h2:b≤l.length)
  (k:TO q P n all rest ((d,.t (.v (str ((l.take b).drop a))))::env) H K):TO q P n all (⟨some d,.slice t x lo hi none,ty,pos,aft,none⟩::rest) env H K:=
 TO.op hd (fun m ac g1 g2 g3=>⟨str ((l.take b).drop a),fun w' hw'=>by
  have:=zkW hT ht hk l (lo.map ac.eval) (hi.map ac.eval) a b w' (g3.zhs hlo) (g3.zhs hhi) h1 h2
  simp[execOp,(g3.val hx).v_eq,this],.t _ _ (.v _)⟩) k
theorem zdy(hT:zas P tab){t e:TypeId}{i:TyI}(ht:tab.get t=some i)(hk:i.k= .slice e)(he:tab.get e=some ie)(ad:Option Addr)(len cap:Nat)(lo hi:Option Value)(a b:Nat)(w:World)
  (hlo:(lo=none/\a=0)\/∃q,lo=some (.int q (a:Int)))(hhi:(hi=none/\b=len)\/∃q,hi=some (.int q (b:Int)))(h1:a≤b)(h2:b≤cap):
  (Instr.sliceAt t (.slice ad len cap) lo hi none).run P w= .ok (.slice (if cap=a then ad else ad.map (·.add (a*ie.size))) (b-a) (cap-a)) w:=by
 have hb:=zjn (P:=P) true len cap lo hi a b w hlo hhi h1 h2;simp[Instr.sliceAt,Instr.slice,underlying,(hT t i ht).slice hk,hb,(hT e ie he).sizeOf]
theorem TRel.part{w:World}{ad:Option Addr}{len cap:Nat}(h:TRel A w (.sl sz es) (.slice ad len cap)){a b:Nat}(h1:a≤b)(h2:b≤es.length):
  TRel A w (.sl sz ((es.take b).drop a)) (.slice (if cap=a then ad else ad.map (·.add (a*sz))) (b-a) (cap-a)):=by
 cases h with
 | nil=>
   have:b=0:=by simpa using h2
   subst this
   have:a=0:=oA
   subst this;exact .nil sz
 | empty _ ad=>
   have:b=0:=by simpa using h2
   subst this
   have:a=0:=oA
   subst this;exact .empty sz ad
 | sl _ _ bb off _ f hcap hsz hA hw ho hr=>
   have hl:b-a=((es.take b).drop a).length:=oF
   have hget:∀(i:Nat) (e:T),((es.take b).drop a)[i]?=some e->es[a+i]?=some e:=by
    intro i e he;rw[qbb,qa6]at he;split at he
    ·exact he
    ·cases he
   by_cases hc:cap=a
   ·rw[oG hc,hl];have h0:(es.take b).drop a=[]:=by apply qaF;simp;omega
    rw[h0];exact .sl sz [] bb off _ f oC oC oC oC oC oC
   ·rw[oH hc,hl];simp only[qaT,zbh];refine .sl sz _ bb (off+a*sz) _ (fun j=>f (a*sz+j)) (by rw[<-hl];omega) (fun i e he=>hsz _ _ (hget i e he)) (fun i j hi hj=>?_) (fun i j hi hj=>?_) (fun i j hi hj=>?_) (fun i e j c he hc'=>?_)
    ·have:=hA (a+i) j (by rw[<-hl]at hi;omega) hj
     rw[qa3]at this;rw[show off+a*sz+(i*sz+j)=off+(a*sz+i*sz+j) from oA];exact this
    ·have:=hw (a+i) j (by rw[<-hl]at hi;omega) hj
     rw[qa3]at this;rw[show off+a*sz+(i*sz+j)=off+(a*sz+i*sz+j) from oA,this,qa1]
    ·have:=ho (a+i) j (by rw[<-hl]at hi;omega) hj
     rw[qa3]at this;rw[<-qa1];exact this
    ·have:=hr (a+i) e j c (hget i e he) hc'
     rw[qa3]at this;rw[<-qa1];exact this
theorem TO.zhE(hT:zas P tab){t e:TypeId}{i:TyI}{v:SV}{a b:Nat}(hd:Nat.ble (d+1) n=true)(ht:tab.get t=some i)(hk:i.k= .slice e)
  (he:tab.get e=some ie)(hs:ie.size=sz)(hx:env.val x=some v)(hv:v.elems sz=some es)(hlo:(lo=none/\a=0)\/∃x q,lo=some x/\env.val x=some (.t (.v (.int q (a:Int)))))
  (hhi:(hi=none/\b=es.length)\/∃x q,hi=some x/\env.val x=some (.t (.v (.int q (b:Int)))))(h1:a≤b)(h2:b≤es.length)
  (k:TO q P n all rest ((d,.t (.sl sz ((es.take b).drop a)))::env) H K):TO q P n all (⟨some d,.slice t x lo hi none,ty,pos,aft,none⟩::rest) env H K:=
 TO.op hd (fun m ac g1 g2 g3=>by
  have h:=(g3.val hx).elems hv;obtain⟨ad,cap,hq⟩:=h.zca;rw[hq]at h
  have hcap:b≤cap:=by
   generalize hl:es.length=q at*;cases h with
   | nil=>simp at hl;omega
   | empty=>simp at hl;omega
   | sl _ _ _ _ _ _ hc=>omega
  exact⟨_,fun w' hw'=>by
   have:=zdy hT ht hk he ad es.length cap (lo.map ac.eval) (hi.map ac.eval) a b w' (g3.zhs hlo) (g3.zhs hhi) h1 hcap
   rw[hs]at this;simp[execOp,hq,this],.t _ _ (h.part h1 h2)⟩) k
theorem TO.makeFunc{f:FuncId}{caps:Array Operand}{vs:List SV}(hd:Nat.ble (d+1) n=true)(hv:caps.toList.mapM env.val=some vs):RV q P n all rest env H K d (.makeFunc (.func f) #[] caps) (.fn f vs):=
 TO.op hd (fun m ac g1 g2 g3=>⟨.func (.func f) #[] (caps.map ac.eval),fun w' hw'=>by simp[execOp,Instr.makeFunc],by
  have hl:∀(l:List Operand) (vs:List SV),l.mapM env.val=some vs->l.length=vs.length/\∀(i:Nat) c,vs[i]?=some c->∃o,l[i]?=some o/\env.val o=some c:=by
   intro l
   induction l with
   | nil=>intro vs h;simp at h;subst h;simp
   | cons o r ih=>
     intro vs h;simp only[qb8]at h;cases ho:env.val o with
     | none=>rw[ho]at h;simp at h
     | some v=>
       rw[ho]at h;cases hr:r.mapM env.val with
       | none=>rw[hr]at h;simp at h
       | some us=>
         rw[hr]at h;simp at h;subst h
         have:=ih us hr
         refine⟨by simp[this.1],fun i c hc=>?_⟩;cases i with
         | zero=>simp at hc;subst hc;exact⟨o,rfl,ho⟩
         | succ i=>simpa using this.2 i c (by simpa using hc)
  have h:=hl _ _ hv;refine .fn f vs _ (by simpa using h.1) fun i c y hc hy=>?_
  obtain⟨o,ho,hv⟩:=h.2 i c hc;have ho':caps[i]?=some o:=by simpa using ho
  rw[qcu,ho']at hy;simp at hy;subst hy;exact g3.val hv⟩)
end rules
end Go.TL
