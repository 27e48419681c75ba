import Derived.Test.YthmbhfgflijapaaGreatDoorPk6
set_option linter.all false
namespace Go.TL
open Go
theorem zob{m:M}(hm:HRel m)(arr:Array Value)(e:TypeId)(ts:List T)(hl:ts.length=arr.size)(h1:∀(i:Nat) y,arr[i]?=some y->y.oneCell'=true)(h:∀(i:Nat) t y,ts[i]?=some t->arr[i]?=some y->TRel m.A m.w t y):
  ∃m':M,m'.w=m.w.alloc (.cells arr e)/\Step m m'/\HRel m'/\m'.H=m.H/\SRel m' (.cp ts 0) (.pointer (some ⟨m.w.heap.size,0,none⟩)):=by
 have hcell:∀o,(m.w.alloc (.cells arr e)).cell? ⟨m.w.heap.size,o,none⟩=arr[o]? :=fun o=>World.cell?_alloc_new ..
 obtain⟨s,hm'⟩:=grow hm (A':=fun b o=>m.A b o\/(b=m.w.heap.size/\o<arr.size)) (βn:=[]) (Hn:=[]) (w':=m.w.alloc (.cells arr e)) rfl rfl rfl (by simp) (fun b hb=>RowKit.Below.heap_alloc _ _ _ hb) (fun _ _ h=>.inl h) (fun b o h=>by
  rcases h with h|h
  ·exact .inl h
  ·exact .inr ⟨by omega,by simp;omega⟩) rfl (by simp) (by simp) (by simp) (by simp)
 refine⟨⟨fun b o=>m.A b o\/(b=m.w.heap.size/\o<arr.size),m.β,m.H,m.w.alloc (.cells arr e)⟩,rfl,by simpa using s,by simpa using hm',rfl,?_⟩
 have s':Step m ⟨fun b o=>m.A b o\/(b=m.w.heap.size/\o<arr.size),m.β,m.H,m.w.alloc (.cells arr e)⟩:=by simpa using s
 refine .cp ts 0 m.w.heap.size 0 (fun j=>(arr[j]?).getD undef) (fun j hj=>?_) (fun j hj=>.inr ⟨rfl,by omega⟩) (fun j hj=>?_) (fun j c hc=>?_)
 ·rw[qam (by omega)]
  exact h1 j _ (qam (by omega))
 ·show(m.w.alloc (.cells arr e)).cell? _=_
  rw[qaU,hcell,qam (by omega)];rfl
 ·have hj:=(qaa.1 hc).1
  rw[qam (by omega)]
  exact s'.trel hm (h j c _ hc (qam (by omega)))
theorem zhv{m:M}(hm:HRel m){w':World}(kw:Keeps m.w w'){b:Nat}(hb:m.w.heap.size≤b/\b<w'.heap.size)(ts:List T)(f:Nat->Value)(hcell:∀j,j<ts.length->w'.cell? ⟨b,j,none⟩=some (f j))(h1:∀j,j<ts.length->(f j).oneCell'=true)
  (h:∀(i:Nat) t,ts[i]?=some t->TRel m.A m.w t (f i)):∃m':M,m'.w=w'/\Step m m'/\HRel m'/\m'.H=m.H/\SRel m' (.cp ts 0) (.pointer (some ⟨b,0,none⟩)):=by
 obtain⟨s,hm'⟩:=grow hm (A':=fun b' o=>m.A b' o\/(b'=b/\o<ts.length)) (βn:=[]) (Hn:=[]) (w':=w') kw.os kw.tape kw.output kw.size kw.block (fun _ _ h=>.inl h) (fun b' o h=>by
  rcases h with h|h
  ·exact .inl h
  ·exact .inr (by omega)) rfl (by simp) (by simp) (by simp) (by simp)
 have s':Step m ⟨fun b' o=>m.A b' o\/(b'=b/\o<ts.length),m.β,m.H,w'⟩:=by simpa using s
 refine⟨⟨fun b' o=>m.A b' o\/(b'=b/\o<ts.length),m.β,m.H,w'⟩,rfl,s',by simpa using hm',rfl,?_⟩
 exact .cp ts 0 b 0 f h1 (fun j hj=>.inr ⟨rfl,by omega⟩) (fun j hj=>by rw[qaU];exact hcell j hj) (fun j c hc=>s'.trel hm (h j c hc))
section rules
variable {P:Program}{n:Nat}{env:Env}{H:Heap}{K:TK}{all:Array Oper}{rest:List Oper}{tab:Tab}{q:Bool}
variable {d:Nat}{ty:TypeId}{pos:String}{aft:Array Edge}
theorem TO.boxC{t:TypeId}{x:Operand}{v:SV}{ts:List T}(hd:Nat.ble (d+1) n=true)(hx:env.val x=some v)(hv:v.solid=true)(hc:allT v.cells=some ts)
  (k:TO false P n all rest ((d,.cp ts 0)::env) H K):TO false P n all (⟨some d,.box t x,ty,pos,aft,none⟩::rest) env H K:=
 TO.eff hd (fun m ac h1 h2 h3=>by
  obtain⟨g1,g0,g2⟩:=(h3.val hx).cells hv
  obtain⟨l1,l2⟩:=zew (m:=m) hc
  obtain⟨m',e1,e2,e3,e4,e5⟩:=zob h2 (ac.eval x).cells t ts (by omega) g0 (fun i u y hu hy=>by
   obtain⟨c,hc,hr⟩:=l2 i u hu
   exact hr y (g2 i c y hc hy))
  refine⟨.pointer (some ⟨m.w.heap.size,0,none⟩),m',?_,e2,e3,by rw[e4,h1],e5⟩
  rw[e1];simp[execOp,Instr.box,newVar,newRow]) k
theorem TO.zuW(hT:zaw P tab){t:TypeId}{i:TyI}{y:Operand}{v:SV}{ts:List T}{ty':TypeId}{pos':String}{aft':Array Edge}(hd:Nat.ble (d+1) n=true)(ht:tab.get t=some i)(hy:Env.val ((d,.any)::env) y=some v)(hv:v.solid=true)(hc:allT v.cells=some ts)
  (hsz:i.size=ts.length)(hpos:0<ts.length)
  (k:TO false P n all rest ((d,.cp ts 0)::env) H K):TO false P n all (⟨some d,.alloc t,ty,pos,aft,none⟩::⟨none,.store t (.tmp d) y,ty',pos',aft',none⟩::rest) env H K:=by
 intro φ m a h1 h2 h3 h4
 obtain⟨z,hz1,hz2,_,_⟩:=(hT t i ht).zero
 obtain⟨zl,z0,_⟩:=zb3 (A:=m.A) (w:=m.w) _ _ hz2
 have hzl:z.cells.size=i.size:=by have:=(hT t i ht).len;simp at zl;omega
 let pv:Value:=.pointer (some ⟨m.w.heap.size,0,none⟩)
 let a1:Act:=a.put (some d) pv
 have hE1:ERel m n ((d,.any)::env) a1.tmps:=h3.put d (qag hd) (.any _)
 obtain⟨g1,g0,g2⟩:=(hE1.val hy).cells hv
 obtain⟨l1,l2⟩:=zew (m:=m) hc
 let w1:=m.w.alloc (.cells z.cells t)
 have hrun1:(execOp a.eval ⟨some d,.alloc t,ty,pos,aft,none⟩).run P m.w= .ok (.value pv) w1:=by
  simp[execOp,Instr.alloc,hz1,newVar,newRow,pv,w1]
 have hc1:∀o,w1.cell? ⟨m.w.heap.size,o,none⟩=z.cells[o]? :=fun o=>World.cell?_alloc_new ..
 have hlen:(a1.eval y).cells.toList.length=z.cells.size:=by simp;omega
 have hsome:∀q,q<(a1.eval y).cells.toList.length->(w1.cell? ⟨m.w.heap.size,0+q,none⟩).isSome=true:=fun q hq=>by rw[qaU,hc1,qam (by omega)];rfl
 let w2:=w1.setCells m.w.heap.size 0 (a1.eval y).cells.toList
 have hrun2:(execOp a1.eval ⟨none,.store t (.tmp d) y,ty',pos',aft',none⟩).run P w1= .ok .skip w2:=by
  have hev:a1.eval (.tmp d)=pv:=by
   have hlt:d<a.tmps.size:=by rw[h3.1];exact qag hd
   simp[a1,Act.put,Act.eval,qaK,hlt]
  exact zwo
 obtain⟨e1,e2,e3,e4,e5,e6⟩:=zbV m.w.heap.size (a1.eval y).cells.toList 0 w1
 have kw:Keeps m.w w2:=⟨e1,e2,e3,by show _≤w2.heap.size;rw[e4];simp[w1],fun b hb=>by rw[e5 b (by omega)];exact RowKit.Below.heap_alloc _ _ _ hb⟩
 obtain⟨m',f1,f2,f3,f4,f5⟩:=zhv h2 kw (b:=m.w.heap.size) ⟨qae _,by rw[e4];simp[w1]⟩ ts (fun j=>((a1.eval y).cells[j]?).getD undef) (fun j hj=>by
  have hj':j<(a1.eval y).cells.toList.length:=by simp;omega
  have:=World.cell?_setCells_in m.w.heap.size (a1.eval y).cells.toList 0 w1 hsome j hj'
  rw[qaU]at this
  rw[show w2.cell? _=_ from this,qam (by simpa using hj')]
  simp) (fun j hj=>by
  rw[qam (by omega)]
  exact g0 j _ (qam (by omega))) (fun j u hu=>by
  have hj:=(qaa.1 hu).1
  obtain⟨c,hcc,hr⟩:=l2 j u hu
  rw[qam (by omega)]
  exact hr _ (g2 j c _ hcc (qam (by omega))))
 refine wpListIn_plain rfl fun K' hK=>?_
 unfold Oper.wpIn
 refine⟨fun _ _=>trivial,?_⟩
 rw[za6 hrun1 (by intro d e;cases e)]
 simp only[Oper.uponIn]
 refine hK _ _ ?_
 refine wpListIn_plain rfl fun K2 hK2=>?_
 unfold Oper.wpIn
 refine⟨fun _ _=>trivial,?_⟩
 rw[show a.put (some d) pv=a1 from rfl,za6 hrun2 (by intro d e;cases e)]
 simp only[Oper.uponIn]
 refine hK2 _ _ ?_
 have hE:ERel m' n ((d,.cp ts 0)::env) a1.tmps:=(h3.step h2 f2).put d (qag hd) f5
 have:=k φ m' a1 (by rw[f4,h1]) f3 hE (by simpa [a1,Act.put]using h4.step h2 f2)
 rw[<-f1]
 exact TO.zeM f2 this
theorem RetK.at(k:Nat){rs:List ResultVar}{N:Nat}{R:Res->Heap->Prop}{vs:List SV}{v:SV}(hr:zb1 tab env H rs=some vs)(hl:Le (pack vs) v)(hN:N≤k)(hk:H.length=k)(hu:v.under k=true)
  (hb:zaa k H=true)(hR:R (.ret v) H):RetK tab rs N R .ret env H:=by
 have ht:H.take k=H:=qaI (by omega)
 exact⟨vs,v,k,hr,hl,hN,by omega,hu,by rw[ht];exact hb,by rw[ht];exact hR⟩
theorem RetK.atN(k:Nat){rs:List ResultVar}{N:Nat}{R:Res->Heap->Prop}{vs:List SV}{v:SV}(hr:zb1 tab env H rs=some vs)(hl:Le (pack vs) v)(hN:N≤k)(hk:H.length=k)(hu:v.under k=true)
  (hb:zaa k H=true)(hR:R (.ret v) H):RetK tab rs N R .normal env H:=RetK.at k hr hl hN hk hu hb hR
theorem RetK.atP(k:Nat){rs:List ResultVar}{N:Nat}{R:Res->Heap->Prop}{v:SV}(hN:N≤k)(hk:H.length=k)(hu:v.under k=true)
  (hb:zaa k H=true)(hR:R (.panic v) H):RetK tab rs N R (.panic v) env H:=by
 have ht:H.take k=H:=qaI (by omega)
 exact⟨v,k,Le.refl _,hN,by omega,hu,by rw[ht];exact hb,by rw[ht];exact hR⟩
end rules
def zmD{α:Type}:Nat->List α->Option (List α)
 | 0,_=>some []
 | _+1,[]=>none
 | k+1,x::l=>(zmD k l).bind fun r=>some (x::r)
theorem zjP{α:Type}:∀ {k:Nat} {l r:List α},zmD k l=some r->k≤l.length/\r=l.take k
 | 0,_,r,h=>by simp[zmD]at h;simp[h]
 | _+1,[],r,h=>by simp[zmD]at h
 | k+1,x::l,r,h=>by
   simp only[zmD,qao,qaE]at h
   obtain⟨r',h1,rfl⟩:=h
   obtain⟨h2,rfl⟩:=zjP h1
   simp;exact h2
def zbK{α:Type}:List α->Option (List α)
 | []=>some []
 | x::l=>(zbK l).bind fun r=>some (x::r)
theorem zba{α:Type}:∀ {l r:List α},zbK l=some r->r=l
 | [],r,h=>by simp[zbK]at h;simp[h]
 | x::l,r,h=>by
   simp only[zbK,qao,qaE]at h
   obtain⟨r',h1,rfl⟩:=h
   rw[zba h1]
def setS{α:Type}:List α->Nat->α->Option (List α)
 | [],_,_=>none
 | _::l,0,a=>some (a::l)
 | x::l,k+1,a=>(setS l k a).bind fun r=>some (x::r)
theorem zf9{α:Type}:∀ {l:List α} {k:Nat} {a:α} {r:List α},setS l k a=some r->r=l.set k a
 | [],_,_,r,h=>by simp[setS]at h
 | _::l,0,a,r,h=>by simp[setS]at h;simp[h]
 | x::l,k+1,a,r,h=>by
   simp only[setS,qao,qaE]at h
   obtain⟨r',h1,rfl⟩:=h
   simp[zf9 h1]
def zt9(tab:Tab)(env:Env)(H:Heap)(t:TypeId)(x:Operand):Option SV:=
 (env.val x).bind fun v=>(tab.get t).bind fun i=>match v with
   | .cp cs off=>bif i.k.agg then(bif Nat.ble (off+i.size) cs.length then(zmD i.size (cs.drop off)).bind fun l=>some (.t (.ag l)) else none) else(cs[off]?).bind fun c=>some (.t c)
   | .ref id off=>(H[id]?).bind fun b=>match b with
     | .cells cs=>bif i.k.agg then(bif Nat.ble (off+i.size) cs.length then(zmD i.size (cs.drop off)).bind fun l=>some (.ag l) else none) else cs[off]?
     | _=>none
   | _=>none
def zfY(tab:Tab)(env:Env)(t:TypeId)(x:Operand)(fi:Nat):Option SV:=
 (env.val x).bind fun v=>(tab.get t).bind fun i=>match i.k with
   | .struct fs=>(fs[fi]?).bind fun p=>(tab.get p.2).bind fun it=>bif Nat.beq it.size 0 then none else match v with
     | .cp cs off=>some (.cp cs (off+p.1))
     | .ref id off=>some (.ref id (off+p.1))
     | .tref _ _ id off=>some (.ref id (off+p.1))
     | _=>none
   | _=>none
def zpu(tab:Tab)(env:Env)(t:TypeId)(x:Operand)(fi:Nat):Option SV:=
 (env.val x).bind fun v=>(tab.get t).bind fun i=>match i.k with
   | .struct fs=>(fs[fi]?).bind fun p=>(tab.get p.2).bind fun it=>bif it.k.agg then none else(v.parts).bind fun cs=>cs[p.1]?
   | _=>none
def lenV(tab:Tab)(env:Env)(t:TypeId)(x:Operand):Option SV:=
 (env.val x).bind fun v=>(tab.get t).bind fun i=>match i.k with
   | .str=>match v with
     | .t (.v (.string ⟨⟨l⟩⟩))=>some (.t (.v (.int .i64 l.length)))
     | _=>none
   | .slice e=>(tab.get e).bind fun ie=>match v with
     | .ms _ _ _ len=>some (.t (.v (.int .i64 len)))
     | v=>(v.elems ie.size).bind fun es=>some (.t (.v (.int .i64 es.length)))
   | _=>none
def zpc(tab:Tab)(env:Env)(t:TypeId)(parts:Array (Nat×Operand)):Option SV:=
 (tab.get t).bind fun i=>match i.k with
   | .struct fs=>(sizes tab fs).bind fun fz=>(env.parts parts.toList).bind fun ps=>(zgr fz (i.zero.map .t) ps).bind fun cs=>match allT cs with
     | some ts=>(zbK ts).bind fun ts'=>some (.t (.ag ts'))
     | none=>(zbK cs).bind fun cs'=>some (.ag cs')
   | _=>none
def ztY(tab:Tab)(env:Env)(H:Heap):Op->Option SV
 | .move x=>env.val x
 | .assign x=>env.val x
 | .pick c x y=>(env.val c).bind fun v=>match v with
   | .t (.v (.bool true))=>env.val x
   | .t (.v (.bool false))=>env.val y
   | _=>none
 | .unOp .not _ x=>(env.val x).bind fun v=>match v with
   | .t (.v (.bool b))=>some (.t (.v (.bool (!b))))
   | _=>none
 | .load t x=>zt9 tab env H t x
 | .fieldAddr t x fi=>zfY tab env t x fi
 | .field t x fi=>zpu tab env t x fi
 | .nilCheck x=>(env.val x).bind fun v=>match v with
   | .fn f cs=>some (.fn f cs)
   | v=>bif v.zmb then some v else none
 | .extract x i=>(env.val x).bind fun v=>match v with
   | .tup vs=>vs[i]?
   | _=>none
 | .makeFunc (.func f) ⟨[]⟩ caps=>(env.vals caps.toList).bind fun vs=>some (.fn f vs)
 | .build t parts=>zpc tab env t parts
 | .call ⟨.builtin .len,⟨[x]⟩,⟨[t]⟩⟩=>lenV tab env t x
 | _=>none
def boxH(c:Bool)(env:Env)(H:Heap)(x:Operand):Option (SV×Heap):=
 (env.val x).bind fun v=>bif v.solid then
   (bif c then(allT v.cells).bind fun ts=>(zbK ts).bind fun ts'=>some (.cp ts' 0,H) else(zbK v.cells).bind fun cs=>some (.ref H.length 0,H++[.cells cs])) else none
def zsH(tab:Tab)(H:Heap)(t:TypeId):Option (SV×Heap):=
 (tab.get t).bind fun i=>(zbK (i.zero.map SV.t)).bind fun cs=>some (.ref H.length 0,H++[.cells cs])
def mapH(tab:Tab)(H:Heap)(t:TypeId):Option (SV×Heap):=
 (tab.get t).bind fun i=>match i.k with
   | .map k e=>some (.mp H.length,H++[.map k e []])
   | _=>none
def zte(tab:Tab)(env:Env)(H:Heap)(t:TypeId)(len:Nat)(parts:Array (Nat×Operand)):Option (SV×Heap):=
 (tab.get t).bind fun i=>match i.k with
   | .slice e=>(tab.get e).bind fun ie=>(env.parts parts.toList).bind fun ps=>(zef ie.size 0 ps).bind fun es=>
     bif Nat.beq len es.length && ((es.all fun t=>Nat.beq t.cells.length ie.size) && Nat.ble (len*ie.size) 16777216) then some (.t (.sl ie.size es),H) else none
   | _=>none
def ztX(tab:Tab)(c:Bool)(env:Env)(H:Heap):Op->Option (SV×Heap)
 | .box _ x=>boxH c env H x
 | .alloc t=>bif c then none else zsH tab H t
 | .makeMap t none=>mapH tab H t
 | .buildSlice t len parts=>zte tab env H t len parts
 | _=>none
def zqM(tab:Tab)(env:Env)(H:Heap)(t:TypeId)(x y:Operand):Option Heap:=
 (env.val x).bind fun vx=>match vx with
   | .ref id off=>(env.val y).bind fun v=>(tab.get t).bind fun i=>bif v.solid && Nat.beq i.size v.cells.length then
     (H[id]?).bind fun b=>match b with
       | .cells cs=>bif Nat.ble 1 v.cells.length && Nat.ble (off+v.cells.length) cs.length then(zbK (splice cs off v.cells)).bind fun cs'=>setS H id (.cells cs') else none
       | _=>none
     else none
   | _=>none
def zvg(tab:Tab)(env:Env)(H:Heap):Op->Option Heap
 | .store t x y=>zqM tab env H t x y
 | _=>none
def ztV(tab:Tab)(n:Nat)(c q:Bool)(env:Env)(H:Heap):Option Tmp->Op->Option (Env×Heap)
 | some d,op=>bif Nat.ble (d+1) n then(match ztY tab env H op with
    | some v=>some ((d,v)::env,H)
    | none=>bif q then none else(ztX tab c env H op).bind fun p=>match p with|(v,H')=>some ((d,v)::env,H')) else none
 | none,op=>bif q then none else(zvg tab env H op).bind fun H'=>some (env,H')
def ztW(tab:Tab)(n:Nat)(c q:Bool)(all:Array Oper)(env:Env)(H:Heap)(o:Oper):Option (Env×Heap):=
 (zlx all env o.guard).bind fun b=>bif b then ztV tab n c q env H o.dst o.op else match o.dst with
   | some d=>bif Nat.ble (d+1) n then some ((d,.t (.v undef))::env,H) else none
   | none=>some (env,H)
theorem zcO{α:Type}{b:Bool}{x:Option α}{y:α}(h:(bif b then x else none)=some y):b=true/\x=some y:=by
 cases b
 ·cases h
 ·exact⟨rfl,h⟩
theorem zls{env:Env}:∀ {l:List Operand} {vs:List SV},env.vals l=some vs->l.mapM env.val=some vs
 | [],vs,h=>by simp[Env.vals]at h;subst h;rfl
 | x::r,vs,h=>by
   simp only[Env.vals]at h
   split at h
   ·rename_i v l h1 h2
    cases h
    simp[qb0,h1,zls h2]
   ·cases h
section rules
variable {P:Program}{n:Nat}{env:Env}{H:Heap}{K:TK}{all:Array Oper}{rest:List Oper}{tab:Tab}{q:Bool}
variable {d:Nat}{ty:TypeId}{pos:String}{aft:Array Edge}
theorem zrW(hT:zaw P tab){t:TypeId}{x:Operand}{v:SV}(hd:Nat.ble (d+1) n=true)(h:zt9 tab env H t x=some v)(k:TO q P n all rest ((d,v)::env) H K):
  TO q P n all (⟨some d,.load t x,ty,pos,aft,none⟩::rest) env H K:=by
 simp only[zt9,qao]at h
 obtain⟨vx,hx,i,hi,h⟩:=h
 split at h
 ·rename_i cs off
  cases ha:i.k.agg with
  | true=>
    rw[ha]at h
    obtain⟨h0,h⟩:=zcO h
    simp only[qao,qaE]at h
    obtain⟨l,hl,rfl⟩:=h
    obtain⟨h1,rfl⟩:=zjP hl
    exact TO.znj hT hd hi ha hx (qag h0) k
  | false=>
    rw[ha]at h
    simp only[cond_false,qao,qaE]at h
    obtain⟨c,hc,rfl⟩:=h
    exact TO.load hT hd hi ha hx hc k
 ·rename_i id off
  simp only[qao]at h
  obtain⟨b,hb,h⟩:=h
  split at h
  ·rename_i cs
   cases ha:i.k.agg with
   | true=>
     rw[ha]at h
     obtain⟨h0,h⟩:=zcO h
     simp only[qao,qaE]at h
     obtain⟨l,hl,rfl⟩:=h
     obtain⟨h1,rfl⟩:=zjP hl
     exact TO.zeo hT hd hi ha hx hb (qag h0) k
   | false=>
     rw[ha]at h
     simp only[cond_false]at h
     exact TO.zgQ hT hd hi ha hx hb h k
  ·cases h
 ·cases h
theorem zjk(hT:zaw P tab){t:TypeId}{x:Operand}{fi:Nat}{v:SV}(hd:Nat.ble (d+1) n=true)(h:zfY tab env t x fi=some v)(k:TO q P n all rest ((d,v)::env) H K):
  TO q P n all (⟨some d,.fieldAddr t x fi,ty,pos,aft,none⟩::rest) env H K:=by
 simp only[zfY,qao]at h
 obtain⟨vx,hx,i,hi,h⟩:=h
 split at h
 ·rename_i fs hk
  simp only[qao]at h
  obtain⟨⟨o,ft⟩,hf,it,hft,h⟩:=h
  cases hz:Nat.beq it.size 0 with
  | true=>rw[hz]at h;cases h
  | false=>
    rw[hz]at h
    have hz':it.size≠0:=fun e=>by rw[e]at hz;cases hz
    simp only[cond_false]at h
    split at h <;> cases h
    ·exact TO.fieldAddr hT hd hi hk hf hft hz' hx k
    ·exact TO.zfp hT hd hi hk hf hft hz' hx k
    ·exact TO.zeQ hT hd hi hk hf hft hz' hx k
 ·cases h
theorem zpv(hT:zaw P tab){t:TypeId}{x:Operand}{fi:Nat}{v:SV}(hd:Nat.ble (d+1) n=true)(h:zpu tab env t x fi=some v)(k:TO q P n all rest ((d,v)::env) H K):
  TO q P n all (⟨some d,.field t x fi,ty,pos,aft,none⟩::rest) env H K:=by
 simp only[zpu,qao]at h
 obtain⟨vx,hx,i,hi,h⟩:=h
 split at h
 ·rename_i fs hk
  simp only[qao]at h
  obtain⟨⟨o,ft⟩,hf,it,hft,h⟩:=h
  cases ha:it.k.agg with
  | true=>rw[ha]at h;cases h
  | false=>
    rw[ha]at h
    simp only[cond_false,qao]at h
    obtain⟨cs,hc,h⟩:=h
    exact TO.field hT hd hi hk hf hft ha hx hc h k
 ·cases h
theorem zt6(hT:zaw P tab){t:TypeId}{x:Operand}{v:SV}(hd:Nat.ble (d+1) n=true)(h:lenV tab env t x=some v)(k:TO q P n all rest ((d,v)::env) H K):
  TO q P n all (⟨some d,.call { callee:=.builtin .len,args:=#[x],argTypes:=#[t] },ty,pos,aft,none⟩::rest) env H K:=by
 simp only[lenV,qao]at h
 obtain⟨vx,hx,i,hi,h⟩:=h
 split at h
 ·rename_i hk
  split at h
  ·cases h
   exact TO.zpQ hT hd hi hk hx k
  ·cases h
 ·rename_i e hk
  simp only[qao]at h
  obtain⟨ie,he,h⟩:=h
  split at h
  ·cases h
   exact TO.zsX hT hd hi hk hx k
  ·simp only[qao,qaE]at h
   obtain⟨es,hes,rfl⟩:=h
   exact TO.zsY hT hd hi hk he rfl hx hes k
 ·cases h
theorem zpd(hT:zaw P tab){t:TypeId}{parts:Array (Nat×Operand)}{v:SV}(hd:Nat.ble (d+1) n=true)(h:zpc tab env t parts=some v)(k:TO q P n all rest ((d,v)::env) H K):
  TO q P n all (⟨some d,.build t parts,ty,pos,aft,none⟩::rest) env H K:=by
 simp only[zpc,qao]at h
 obtain⟨i,hi,h⟩:=h
 split at h
 ·rename_i fs hk
  simp only[qao]at h
  obtain⟨fz,hz,ps,hp,cs,hc,h⟩:=h
  split at h
  ·rename_i ts hts
   simp only[qao,qaE]at h
   obtain⟨ts',hf,rfl⟩:=h
   rw[zba hf]at k
   exact TO.zsI hT hd hi hk hz hp hc hts k
  ·simp only[qao,qaE]at h
   obtain⟨cs',hf,rfl⟩:=h
   rw[zba hf]at k
   exact TO.build hT hd hi hk hz hp hc k
 ·cases h
theorem zrJ(hT:zaw P tab){op:Op}{v:SV}(hd:Nat.ble (d+1) n=true)(h:ztY tab env H op=some v)(k:TO q P n all rest ((d,v)::env) H K):
  TO q P n all (⟨some d,op,ty,pos,aft,none⟩::rest) env H K:=by
 unfold ztY at h
 split at h
 ·exact TO.move hd h k
 ·exact TO.assign hd h k
 ·simp only[qao]at h
  obtain⟨vc,hc,h⟩:=h
  split at h
  ·exact TO.pick hd hc h k
  ·exact TO.pick hd hc h k
  ·cases h
 ·simp only[qao]at h
  obtain⟨vx,hx,h⟩:=h
  split at h
  ·cases h
   exact TO.not hd hx k
  ·cases h
 ·exact zrW hT hd h k
 ·exact zjk hT hd h k
 ·exact zpv hT hd h k
 ·simp only[qao]at h
  obtain⟨vx,hx,h⟩:=h
  split at h
  ·cases h
   exact TO.zhD hd hx k
  ·obtain⟨h1,h2⟩:=zcO h
   cases h2
   exact TO.nilCheck hd hx h1 k
 ·simp only[qao]at h
  obtain⟨vx,hx,h⟩:=h
  split at h
  ·exact TO.extract hd hx h k
  ·cases h
 ·simp only[qao,qaE]at h
  obtain⟨vs,hv,rfl⟩:=h
  exact TO.makeFunc hd (zls hv) k
 ·exact zpd hT hd h k
 ·exact zt6 hT hd h k
 ·cases h
theorem zrI(hT:zaw P tab){c:Bool}{op:Op}{p:SV×Heap}(hd:Nat.ble (d+1) n=true)(h:ztX tab c env H op=some p)(k:TO false P n all rest ((d,p.1)::env) p.2 K):
  TO false P n all (⟨some d,op,ty,pos,aft,none⟩::rest) env H K:=by
 unfold ztX at h
 split at h
 ·simp only[boxH,qao]at h
  obtain⟨v,hx,h⟩:=h
  obtain⟨hs,h⟩:=zcO h
  cases c with
  | true=>
    simp only[cond_true,qao,qaE]at h
    obtain⟨ts,ht,ts',hf,rfl⟩:=h
    rw[zba hf]at k
    exact TO.boxC hd hx hs ht k
  | false=>
    simp only[cond_false,qao,qaE]at h
    obtain⟨cs,hc,rfl⟩:=h
    exact TO.box hd hx hs (zba hc).symm k
 ·cases c with
  | true=>cases h
  | false=>
    simp only[cond_false,zsH,qao,qaE]at h
    obtain⟨i,hi,cs,hc,rfl⟩:=h
    exact TO.alloc hT hd hi (zba hc).symm k
 ·simp only[mapH,qao]at h
  obtain⟨i,hi,h⟩:=h
  split at h
  ·cases h
   exact TO.makeMap _ _ hd k
  ·cases h
 ·simp only[zte,qao]at h
  obtain⟨i,hi,h⟩:=h
  split at h
  ·rename_i e hk
   simp only[qao]at h
   obtain⟨ie,he,ps,hp,es,hes,h⟩:=h
   obtain⟨hb,h⟩:=zcO h
   simp only[qau]at hb
   cases h
   exact TO.zhg hT hd hi hk he rfl hp hes hb.1 hb.2.1 hb.2.2 k
  ·cases h
 ·cases h
theorem zqN(hT:zaw P tab){t:TypeId}{x y:Operand}{H':Heap}(h:zqM tab env H t x y=some H')(k:TO false P n all rest env H' K):
  TO false P n all (⟨none,.store t x y,ty,pos,aft,none⟩::rest) env H K:=by
 simp only[zqM,qao]at h
 obtain⟨vx,hx,h⟩:=h
 split at h
 ·rename_i id off
  simp only[qao]at h
  obtain⟨v,hy,i,hi,h⟩:=h
  obtain⟨hb,h⟩:=zcO h
  simp only[qau]at hb
  simp only[qao]at h
  obtain⟨b,hH,h⟩:=h
  split at h
  ·rename_i cs
   obtain⟨hc,h⟩:=zcO h
   simp only[qau]at hc
   simp only[qao]at h
   obtain⟨cs',hf,hs⟩:=h
   have hs':=zf9 hs
   rw[zba hf]at hs'
   exact TO.store hT hi hx hy hb.1 rfl (qbf hb.2) (qag hc.1) hH (qag hc.2) hs'.symm k
  ·cases h
 ·cases h
theorem zrH(hT:zaw P tab){c:Bool}{o:Oper}{env':Env}{H':Heap}(h:ztW tab n c q all env H o=some (env',H'))(k:TO q P n all rest env' H' K):
  TO q P n all (o::rest) env H K:=by
 obtain⟨dst,op,ty,pos,aft,g⟩:=o
 simp only[ztW,qao]at h
 obtain⟨b,hb,h⟩:=h
 cases b with
 | true=>
   simp only[cond_true]at h
   have key:TO q P n all (⟨dst,op,ty,pos,aft,none⟩::rest) env H K:=by
    cases dst with
    | some d=>
      simp only[ztV]at h
      obtain⟨hd,h⟩:=zcO h
      split at h
      ·rename_i v hv
       cases h
       exact zrJ hT hd hv k
      ·cases q with
       | true=>cases h
       | false=>
         simp only[cond_false,qao,qaE,qbo]at h
         obtain⟨p,hp,rfl,rfl⟩:=h
         exact zrI hT hd hp k
    | none=>
      simp only[ztV]at h
      cases q with
      | true=>cases h
      | false=>
        simp only[cond_false,qao,qaE,qbo]at h
        obtain⟨H2,hp,rfl,rfl⟩:=h
        unfold zvg at hp
        split at hp
        ·exact zqN hT hp k
        ·cases hp
   cases g with
   | none=>exact key
   | some g=>exact TO.want hb key
 | false=>
   simp only[cond_false]at h
   cases g with
   | none=>simp[zlx]at hb
   | some g=>
     cases dst with
     | some d=>
       obtain⟨hd,h⟩:=zcO h
       cases h
       exact TO.pass hd hb k
     | none=>cases h;exact TO.zvE hb k
end rules
def TLes:List T->List T->Prop
 | [],[]=>True
 | a::aas,b::bs=>TLe a b/\TLes aas bs
 | _,_=>False
theorem TLes.get:∀ {aas bs:List T},TLes aas bs->aas.length=bs.length/\∀(i:Nat) a b,aas[i]?=some a->bs[i]?=some b->TLe a b
 | [],[],_=>by simp
 | [],_::_,h=>by cases h
 | _::_,[],h=>by cases h
 | a::aas,b::bs,h=>by
   obtain⟨g1,g2⟩:=TLes.get h.2
   exact zwby
theorem TLe.of_eq{a b:T}(h:a=b):TLe a b:=h ▸ .refl a
theorem TLe.ags{aas bs:List T}(h:TLes aas bs):TLe (.ag aas) (.ag bs):=.ag _ _ h.get.1 h.get.2
theorem zi4(r:Nat->Nat){vs:List SV}(h:unders 0 vs=true):rens r vs=vs:=zbp (N:=0) (fun j hj=>by omega) vs h
section cmps
variable {P:Program}{n:Nat}{env:Env}{H:Heap}{K:TK}{all:Array Oper}{rest:List Oper}{q:Bool}
variable {d:Nat}{ty:TypeId}{pos:String}{aft:Array Edge}{t t':TypeId}{x y:Operand}{ik:IntKind}{a b:Int}
theorem TO.ceq(hd:Nat.ble (d+1) n=true)(hx:env.val x=some (.t (.v (.int ik a))))(hy:env.val y=some (.t (.v (.int ik b))))(ht:a=b->TO q P n all rest ((d,.t (.v (.bool true)))::env) H K)
  (hf:¬(a=b)->TO q P n all rest ((d,.t (.v (.bool false)))::env) H K):TO q P n all (⟨some d,.binOp .eql t x y t',ty,pos,aft,none⟩::rest) env H K:=
 TO.cmp (c:=(a == b)) hd hx hy (by cases ik <;> simp[zbG]) (fun h=>ht (by simpa using h)) (fun h=>hf (by simpa using h))
theorem TO.cne(hd:Nat.ble (d+1) n=true)(hx:env.val x=some (.t (.v (.int ik a))))(hy:env.val y=some (.t (.v (.int ik b))))(ht:a≠b->TO q P n all rest ((d,.t (.v (.bool true)))::env) H K)
  (hf:¬(a≠b)->TO q P n all rest ((d,.t (.v (.bool false)))::env) H K):TO q P n all (⟨some d,.binOp .neq t x y t',ty,pos,aft,none⟩::rest) env H K:=
 TO.cmp (c:=(a != b)) hd hx hy (by cases ik <;> simp[zbG]) (fun h=>ht (by simpa using h)) (fun h=>hf (by simpa using h))
theorem TO.clt(hd:Nat.ble (d+1) n=true)(hx:env.val x=some (.t (.v (.int ik a))))(hy:env.val y=some (.t (.v (.int ik b))))(ht:a<b->TO q P n all rest ((d,.t (.v (.bool true)))::env) H K)
  (hf:¬(a<b)->TO q P n all rest ((d,.t (.v (.bool false)))::env) H K):TO q P n all (⟨some d,.binOp .lss t x y t',ty,pos,aft,none⟩::rest) env H K:=
 TO.cmp (c:=(decide (a<b))) hd hx hy (by cases ik <;> simp[zbG]) (fun h=>ht (by simpa using h)) (fun h=>hf (by simpa using h))
theorem TO.cle(hd:Nat.ble (d+1) n=true)(hx:env.val x=some (.t (.v (.int ik a))))(hy:env.val y=some (.t (.v (.int ik b))))(ht:a≤b->TO q P n all rest ((d,.t (.v (.bool true)))::env) H K)
  (hf:¬(a≤b)->TO q P n all rest ((d,.t (.v (.bool false)))::env) H K):TO q P n all (⟨some d,.binOp .leq t x y t',ty,pos,aft,none⟩::rest) env H K:=
 TO.cmp (c:=(decide (a≤b))) hd hx hy (by cases ik <;> simp[zbG]) (fun h=>ht (by simpa using h)) (fun h=>hf (by simpa using h))
theorem TO.cgt(hd:Nat.ble (d+1) n=true)(hx:env.val x=some (.t (.v (.int ik a))))(hy:env.val y=some (.t (.v (.int ik b))))(ht:b<a->TO q P n all rest ((d,.t (.v (.bool true)))::env) H K)
  (hf:¬(b<a)->TO q P n all rest ((d,.t (.v (.bool false)))::env) H K):TO q P n all (⟨some d,.binOp .gtr t x y t',ty,pos,aft,none⟩::rest) env H K:=
 TO.cmp (c:=(decide (b<a))) hd hx hy (by cases ik <;> simp[zbG]) (fun h=>ht (by simpa using h)) (fun h=>hf (by simpa using h))
theorem TO.cge(hd:Nat.ble (d+1) n=true)(hx:env.val x=some (.t (.v (.int ik a))))(hy:env.val y=some (.t (.v (.int ik b))))(ht:b≤a->TO q P n all rest ((d,.t (.v (.bool true)))::env) H K)
  (hf:¬(b≤a)->TO q P n all rest ((d,.t (.v (.bool false)))::env) H K):TO q P n all (⟨some d,.binOp .geq t x y t',ty,pos,aft,none⟩::rest) env H K:=
 TO.cmp (c:=(decide (b≤a))) hd hx hy (by cases ik <;> simp[zbG]) (fun h=>ht (by simpa using h)) (fun h=>hf (by simpa using h))
theorem TO.seq'{l r:Str}(hd:Nat.ble (d+1) n=true)(hx:env.val x=some (.t (.v (str l))))(hy:env.val y=some (.t (.v (str r))))(ht:l=r->TO q P n all rest ((d,.t (.v (.bool true)))::env) H K)
  (hf:¬(l=r)->TO q P n all rest ((d,.t (.v (.bool false)))::env) H K):TO q P n all (⟨some d,.binOp .eql t x y t',ty,pos,aft,none⟩::rest) env H K:=
 TO.eqs hd hx hy (fun h=>ht (by simpa using h)) (fun h=>hf (by simpa using h))
theorem TO.sne'{l r:Str}(hd:Nat.ble (d+1) n=true)(hx:env.val x=some (.t (.v (str l))))(hy:env.val y=some (.t (.v (str r))))(ht:l≠r->TO q P n all rest ((d,.t (.v (.bool true)))::env) H K)
  (hf:l=r->TO q P n all rest ((d,.t (.v (.bool false)))::env) H K):TO q P n all (⟨some d,.binOp .neq t x y t',ty,pos,aft,none⟩::rest) env H K:=
 TO.nes hd hx hy (fun h=>hf (by simpa using h)) (fun h=>ht (by simpa using h))
theorem TR.zv7{c:Operand}{a b:Code}{v:Bool}(hc:env.val c=some (.t (.v (.bool v))))(ht:v=true->TR P n a env H K)(hf:v=false->TR P n b env H K):TR P n (.cond c a b) env H K:=
 TR.cond hc ht hf
theorem TO.zhh{cargs:List SV}{v:SV}{f:Operand}{fid:FuncId}{caps:List SV}{args:Array Operand}{ts:Array TypeId}{vs:List SV}(hs:Pure P fid cargs v)(hd:Nat.ble (d+1) n=true)
  (hf:env.val f=some (.fn fid caps))(ha:env.vals args.toList=some vs)(hl:Les (vs++caps) cargs)(hu:unders 0 cargs=true)(hv:v.under 0=true)
  (k:TO false P n all rest ((d,v)::env) H K):
  TO false P n all (⟨some d,.call { callee:=.value f,args:=args,argTypes:=ts },ty,pos,aft,none⟩::rest) env H K:=
 TO.zv5 hs hd hf ha (by rw[zi4 _ hu];exact hl) hu (zbP (N:=0) (fun j hj=>by omega) v hv) k
end cmps
inductive Fr1 where
 | thn (y:Code)
 | blk (i:Nat)
def Kf(P:Program)(n:Nat):List Fr1->TK->TK
 | [],K=>K
 | .thn y::s,K=>Then P n y (Kf P n s K)
 | .blk i::s,K=>zag i (Kf P n s K)
inductive St where
 | code (c:Code)
 | ops (q:Bool) (all:Array Oper) (l:List Oper)
 | ex (e:zdJ)
structure Cfg where
 st:St
 env:Env
 H:Heap
 fr:List Fr1
def GG(P:Program)(n:Nat)(K:TK):Cfg->Prop
 | ⟨.code c,env,H,fr⟩=>TR P n c env H (Kf P n fr K)
 | ⟨.ops q all l,env,H,fr⟩=>TO q P n all l env H (Kf P n fr K)
 | ⟨.ex e,env,H,fr⟩=>Kf P n fr K e env H
def zsp(tab:Tab)(n:Nat)(c:Bool):Cfg->Option Cfg
 | ⟨.code (.seq x y),env,H,fr⟩=>some ⟨.code x,env,H,.thn y::fr⟩
 | ⟨.code (.block i b),env,H,fr⟩=>some ⟨.code b,env,H,.blk i::fr⟩
 | ⟨.code .skip,env,H,fr⟩=>some ⟨.ex .normal,env,H,fr⟩
 | ⟨.code (.exit i),env,H,fr⟩=>some ⟨.ex (.exit i),env,H,fr⟩
 | ⟨.code .ret,env,H,fr⟩=>some ⟨.ex .ret,env,H,fr⟩
 | ⟨.code (.cond x a b),env,H,fr⟩=>match env.val x with
   | some (.t (.v (.bool true)))=>some ⟨.code a,env,H,fr⟩
   | some (.t (.v (.bool false)))=>some ⟨.code b,env,H,fr⟩
   | _=>none
 | ⟨.code (.region _ ops false),env,H,fr⟩=>some ⟨.ops false ops ops.toList,env,H,fr⟩
 | ⟨.ops _ _ [],env,H,fr⟩=>some ⟨.ex .normal,env,H,fr⟩
 | ⟨.ops q all (o::r),env,H,fr⟩=>match ztW tab n c q all env H o with
   | some (env',H')=>some ⟨.ops q all r,env',H',fr⟩
   | none=>none
 | ⟨.ex .normal,env,H,.thn y::fr⟩=>some ⟨.code y,env,H,fr⟩
 | ⟨.ex (.exit i),env,H,.thn _::fr⟩=>some ⟨.ex (.exit i),env,H,fr⟩
 | ⟨.ex .ret,env,H,.thn _::fr⟩=>some ⟨.ex .ret,env,H,fr⟩
 | ⟨.ex (.panic v),env,H,.thn _::fr⟩=>some ⟨.ex (.panic v),env,H,fr⟩
 | ⟨.ex .normal,env,H,.blk _::fr⟩=>some ⟨.ex .normal,env,H,fr⟩
 | ⟨.ex (.exit j),env,H,.blk i::fr⟩=>bif Nat.beq j i then some ⟨.ex .normal,env,H,fr⟩ else some ⟨.ex (.exit j),env,H,fr⟩
 | ⟨.ex .ret,env,H,.blk _::fr⟩=>some ⟨.ex .ret,env,H,fr⟩
 | ⟨.ex (.panic v),env,H,.blk _::fr⟩=>some ⟨.ex (.panic v),env,H,fr⟩
 | _=>none
section rules
variable {P:Program}{n:Nat}{K:TK}{tab:Tab}
theorem znB(hT:zaw P tab){c:Bool}{x y:Cfg}(h:zsp tab n c x=some y)(k:GG P n K y):GG P n K x:=by
 unfold zsp at h
 split at h
 ·cases h;exact TR.seq k
 ·cases h;exact TR.block k
 ·cases h;exact TR.skip k
 ·cases h;exact TR.exit k
 ·cases h;exact TR.ret k
 ·split at h
  ·rename_i hx;cases h;exact TR.zva hx k
  ·rename_i hx;cases h;exact TR.zu9 hx k
  ·cases h
 ·rename_i id ops env H fr
  cases h
  obtain⟨l⟩:=ops
  exact TR.region (l:=l) k
 ·cases h;exact TO.nil k
 ·split at h
  ·rename_i env' H' he
   cases h
   exact zrH hT he k
  ·cases h
 ·cases h;exact k
 ·cases h;exact k
 ·cases h;exact k
 ·cases h;exact k
 ·cases h;exact k
 ·rename_i j env H i fr
  cases hb:Nat.beq j i with
  | true=>rw[hb]at h;cases h;exact zag.same (K:=Kf P n fr K) hb k
  | false=>rw[hb]at h;cases h;exact zag.other (K:=Kf P n fr K) hb k
 ·cases h;exact k
 ·cases h;exact k
 ·cases h
def runC(tab:Tab)(n:Nat)(c:Bool):Nat->Cfg->Cfg
 | 0,x=>x
 | k+1,x=>match zsp tab n c x with
   | some y=>runC tab n c k y
   | none=>x
def run1(tab:Tab)(n:Nat)(c:Bool)(k:Nat)(x:Cfg):Option Cfg:=
 match zsp tab n c x with
 | some y=>some (runC tab n c k y)
 | none=>none
theorem zqw(hT:zaw P tab){c:Bool}:∀(k:Nat) (x:Cfg),GG P n K (runC tab n c k x)->GG P n K x
 | 0,x,h=>h
 | k+1,x,h=>by
   simp only[runC]at h
   split at h
   ·rename_i y hy
    exact znB hT hy (zqw hT k y h)
   ·exact h
theorem zhK(hT:zaw P tab){c:Bool}{k:Nat}{x y:Cfg}(h:run1 tab n c k x=some y)(hk:GG P n K y):GG P n K x:=by
 unfold run1 at h
 split at h
 ·rename_i z hz
  cases h
  exact znB hT hz (zqw hT k z hk)
 ·cases h
theorem TR.go0(hT:zaw P tab)(k:Nat)(b:Bool){c:Code}{env env':Env}{H H':Heap}{st:St}{fr:List Fr1}(h:run1 tab n b k ⟨.code c,env,H,[]⟩=some ⟨st,env',H',fr⟩)(hk:GG P n K ⟨st,env',H',fr⟩):TR P n c env H K:=
 zhK hT h hk
theorem TR.go(hT:zaw P tab)(k:Nat)(b:Bool){c:Code}{env env':Env}{H H':Heap}{st:St}{fr fr':List Fr1}(h:run1 tab n b k ⟨.code c,env,H,fr⟩=some ⟨st,env',H',fr'⟩)(hk:GG P n K ⟨st,env',H',fr'⟩):TR P n c env H (Kf P n fr K):=
 zhK hT h hk
theorem TO.go(hT:zaw P tab)(k:Nat)(b:Bool){q:Bool}{all:Array Oper}{l:List Oper}{env env':Env}{H H':Heap}{st:St}{fr fr':List Fr1}(h:run1 tab n b k ⟨.ops q all l,env,H,fr⟩=some ⟨st,env',H',fr'⟩)(hk:GG P n K ⟨st,env',H',fr'⟩):TO q P n all l env H (Kf P n fr K):=
 zhK hT h hk
theorem TO.go0(hT:zaw P tab)(k:Nat)(b:Bool){q:Bool}{all:Array Oper}{l:List Oper}{env env':Env}{H H':Heap}{st:St}{fr':List Fr1}(h:run1 tab n b k ⟨.ops q all l,env,H,[]⟩=some ⟨st,env',H',fr'⟩)(hk:GG P n K ⟨st,env',H',fr'⟩):TO q P n all l env H K:=
 zhK hT h hk
theorem zdJ.go(hT:zaw P tab)(k:Nat)(b:Bool){e:zdJ}{env env':Env}{H H':Heap}{st:St}{fr fr':List Fr1}(h:run1 tab n b k ⟨.ex e,env,H,fr⟩=some ⟨st,env',H',fr'⟩)(hk:GG P n K ⟨st,env',H',fr'⟩):Kf P n fr K e env H:=
 zhK hT h hk
theorem TR.zaA{env:Env}{H:Heap}{c:Code}(len:Nat)(I:Nat->Prop)(E:Nat->Env)(G:Nat->Heap)(hI:I 0)
  (s1:∀k,k<len->I k->TR P n c (E k) (G k) (zab (fun k=>k≤len/\I k) (fun k=>len-k) E G k K))
  (s2:I len->TR P n c (E len) (G len) (zab (fun k=>k≤len/\I k) (fun k=>len-k) E G len K))
  (h0:env.sub (E 0):=by repeat' (first|exact trivial|refine qai rfl ?_|fail))(hH:H=G 0:=by rfl):TR P n (.loop c) env H K:=by
 refine TR.zcS (fun k=>k≤len/\I k) (fun k=>len-k) E G 0 ⟨qaJ _,hI⟩ h0 hH ?_
 rintro k ⟨hk,hi⟩
 by_cases h:k<len
 ·exact s1 k h hi
 ·have:k=len:=by omega
  subst this
  exact s2 hi
theorem zab.zaI{env:Env}{H:Heap}{len k:Nat}{I:Nat->Prop}{E:Nat->Env}{G:Nat->Heap}(hk:k<len)(hI:I (k+1))
  (h0:env.sub (E (k+1)):=by repeat' (first|exact trivial|refine qai rfl ?_|fail))(hH:H=G (k+1):=by rfl):
  zab (fun k=>k≤len/\I k) (fun k=>len-k) E G k K .normal env H:=
 zab.next (k+1) ⟨hk,hI⟩ (by omega) h0 hH
theorem zdJ.fin{e:zdJ}{env:Env}{H:Heap}(h:K e env H):Kf P n [] K e env H:=h
theorem GG.tr{c:Code}{env:Env}{H:Heap}{fr:List Fr1}(h:TR P n c env H (Kf P n fr K)):GG P n K ⟨.code c,env,H,fr⟩:=h
theorem GG.tr0{c:Code}{env:Env}{H:Heap}(h:TR P n c env H K):GG P n K ⟨.code c,env,H,[]⟩:=h
theorem GG.to{q:Bool}{all:Array Oper}{l:List Oper}{env:Env}{H:Heap}{fr:List Fr1}(h:TO q P n all l env H (Kf P n fr K)):GG P n K ⟨.ops q all l,env,H,fr⟩:=h
theorem GG.ex{e:zdJ}{env:Env}{H:Heap}{fr:List Fr1}(h:Kf P n fr K e env H):GG P n K ⟨.ex e,env,H,fr⟩:=h
theorem GG.stop{e:zdJ}{env:Env}{H:Heap}(h:K e env H):GG P n K ⟨.ex e,env,H,[]⟩:=h
end rules
end Go.TL
