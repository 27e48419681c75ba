import Derived.Test.YtcbhlhmebbkgnaaGreatPk12
import Derived.Test.YtcbhlhmebbkgnaaGreatPk32
import Derived.Test.YtcbhlhmebbkgnaaGreatPk34
set_option linter.unusedSimpArgs false
set_option linter.unusedVariables false
namespace Go.Proofs.YtcbhlhmebbkgnaaGreat
open Go Go.TL
attribute [local irreducible] TR TO Then InBlock RetK Sound LoopK Kf GG ThenL
def lateG(vars:List Str):Nat->Ex->Bool
 | 0,_=>false
 | m+1,e=>if e.kind.1=5 then true else if e.kind.1=2 then decide (e.name∈vars) else if e.kind.1=3\/e.kind.1=4\/e.kind.1=8 then e.args.any (lateG vars m) else false
theorem any_congr'{α:Type}{f g:α->Bool}:∀ {l:List α},(∀x∈l,f x=g x)->l.any f=l.any g
 | [],_=>rfl
 | x::l,h=>by rw[List.any_cons,List.any_cons,h x (by simp),any_congr' fun y hy=>h y (by simp[hy])]
theorem lateG_fuel(vars:List Str):∀(m:Nat) (e:Ex),wEx e≤m->∀k,wEx e≤k->lateG vars m e=lateG vars k e
 | 0,e,h=>by have:=wEx_pos e;omega
 | m+1,e,h=>fun k hk=>by
   have hp:=wEx_pos e
   obtain⟨k,rfl⟩:∃q,k=q+1:=⟨k-1,by omega⟩
   rw[lateG,lateG,any_congr' fun a ha=>lateG_fuel vars m a (by have:=wEx_arg ha;omega) k (by have:=wEx_arg ha;omega)]
def lateX(vars:List Str)(e:Ex):Bool:=lateG vars (wEx e) e
theorem lateX_eq(vars:List Str)(e:Ex):lateX vars e=if e.kind.1=5 then true else if e.kind.1=2 then decide (e.name∈vars) else if e.kind.1=3\/e.kind.1=4\/e.kind.1=8 then e.args.any (lateX vars) else false:=by
 have hp:=wEx_pos e
 unfold lateX
 rw[show lateG vars (wEx e) e=lateG vars (wEx e-1+1) e from by rw[Nat.sub_add_cancel hp],lateG,any_congr' fun a ha=>lateG_fuel vars _ a (by have:=wEx_arg ha;omega) _ (Nat.le_refl _)]
def stepQ(vars:List Str)(u:Equ):List Str:=if u.left.length=1/\u.left.headD [] ∉ vars/\lateX vars u.right=true then vars++[u.left.headD []] else vars
def stepL(us:List Equ)(vars:List Str):List Str:=us.foldl stepQ vars
def latesG(us:List Equ):Nat->List Str->List Str
 | 0,v=>v
 | m+1,v=>if stepL us v=v then v else latesG us m (stepL us v)
def latesX(n:Nod):List Str:=latesG n.eqs (n.eqs.length+1) []
theorem stepL_grow:∀(us:List Equ) (v:List Str),∃w,stepL us v=v++w/\(v.Nodup->(v++w).Nodup)/\(∀s∈w,∃u∈us,u.left=[s])
 | [],v=>⟨[],by simp[stepL],by simp,by simp⟩
 | u::us,v=>by
   obtain⟨w,h1,h2,h3⟩:=stepL_grow us (stepQ v u)
   have hq:stepL (u::us) v=stepL us (stepQ v u):=rfl
   rw[hq,h1]
   unfold stepQ at h2⊢
   split at h2
   ·rename_i hc
    obtain⟨c1,c2,c3⟩:=hc
    rw[if_pos ⟨c1,c2,c3⟩]
    obtain⟨s,hs⟩:=List.length_eq_one_iff.1 c1
    refine⟨u.left.headD []::w,by simp,fun hn=>?_,fun x hx=>?_⟩
    ·have:=h2 (List.nodup_append.2 ⟨hn,by simp,fun a ha b hb h=>c2 (by rw[<-List.mem_singleton.1 hb,<-h];exact ha)⟩)
     simpa using this
    ·rcases List.mem_cons.1 hx with rfl|hx
     ·exact⟨u,by simp,by rw[hs];rfl⟩
     ·obtain⟨q,q1,q2⟩:=h3 x hx
      exact⟨q,by simp[q1],q2⟩
   ·rename_i hc
    rw[if_neg hc]
    refine⟨w,rfl,h2,fun x hx=>?_⟩
    obtain⟨q,q1,q2⟩:=h3 x hx
    exact⟨q,by simp[q1],q2⟩
def badX(vars:List Str)(x:Ex):Bool:=
 if x.kind.1=5\/x.kind.1=7\/x.kind.1=10 then x.args.any (lateX vars) else if x.kind.1=6 then(x.args.take 1).any (lateX vars) else
 if x.kind.1=8 then decide (x.name∈vars) else if x.kind.1=9 then decide (x.name∈vars) || x.args.any (lateX vars) else false
def misX(vars:List Str)(e:Ex):Bool:=(flat e).any (badX vars)
def restI(n:Nod)(vars:List Str):Bool:=
 (n.outs.any fun d=>decide (d.name∈vars)) || (n.locals.any fun d=>d.clock.any fun o=>decide (o.name∈vars)) || ((n.assume++n.ensure).any fun e=>lateX vars e || misX vars e)
def nodeI(n:Nod):Int×Bool:=
 if n.eqs.any (fun u=>misX (latesX n) u.right)=true then(((n.eqs.findIdx fun u=>misX (latesX n) u.right):Nat),true) else(-1,restI n (latesX n))
def stNods:Nat->List Nod->(Int×Int)×Int
 | _,[]=>((0,0),0)
 | i,n::l=>if(nodeI n).2=true then((i,(nodeI n).1),12) else stNods (i+1) l
def startsX(p:Prog):(Int×Int)×Int:=if(clocksX p).2≠0 then clocksX p else stNods 0 p.nodes
def lateP(p:Prog)(node:I64):List Str×Int:=
 if(clocksX p).2≠0 then([],(clocksX p).2) else if node.1<0\/(p.nodes.length:Int)≤node.1 then([],2) else
 match p.nodes[node.1.toNat]? with
 | some n=>(((varsL n).filter fun d=>decide (d.name∈latesX n)).map Decl.name,0)
 | none=>([],2)
def lateOf(p:Prog)(node:I64)(e:Ex):Bool×Int:=
 if(lateP p node).2≠0 then(false,(lateP p node).2) else if(ofT p node e).2≠0 then(false,(ofT p node e).2) else
 match p.nodes[node.1.toNat]? with
 | some n=>(lateX (latesX n) e,0)
 | none=>(false,0)
theorem stNods_zero:∀ {l:List Nod} {i:Nat},(stNods i l).2=0->∀n∈l,(nodeI n).2=false
 | [],_,_,n,hn=>by cases hn
 | x::l,i,h,n,hn=>by
   rw[stNods]at h
   split at h
   ·cases h
   ·rename_i hx
    rcases List.mem_cons.1 hn with rfl|hn
    ·simpa using hx
    ·exact stNods_zero h n hn
theorem outputs_law{p:Prog}(h:(startsX p).2=0):(clocksX p).2=0/\∀(k:Nat) (hk:k<p.nodes.length),(k:Int)≤9223372036854775807->(lateP p (nI k)).2=0/\∀d∈p.nodes[k].outs,d.name ∉ (lateP p (nI k)).1:=by
 unfold startsX at h
 have hc:(clocksX p).2=0:=Classical.byContradiction fun hh=>by rw[if_pos hh]at h;exact hh h
 rw[if_neg (by simp[hc])]at h
 refine⟨hc,fun k hk hk63=>?_⟩
 have hn:=stNods_zero h _ (List.getElem_mem hk)
 have hl:lateP p (nI k)=(((varsL p.nodes[k]).filter fun d=>decide (d.name∈latesX p.nodes[k])).map Decl.name,0):=by
  unfold lateP
  rw[if_neg (by simp[hc]),nI_val hk63,if_neg (by omega),Int.toNat_natCast,List.getElem?_eq_getElem hk]
 rw[hl]
 refine⟨rfl,fun d hd hm=>?_⟩
 obtain⟨x,hx,hxn⟩:=List.mem_map.1 hm
 have hx2:=(List.mem_filter.1 hx).2
 rw[hxn]at hx2
 unfold nodeI at hn
 split at hn
 ·cases hn
 ·unfold restI at hn
  have:(p.nodes[k].outs.any fun d=>decide (d.name∈latesX p.nodes[k]))=true:=List.any_eq_true.2 ⟨d,hd,hx2⟩
  rw[this]at hn
  simp at hn
def opE(k:I64)(l:List Ex):Ex:=.mk k ⟨0,by decide⟩ ⟨0,by decide⟩ ⟨0,by decide⟩ [] l
theorem exprX_opE{es:List En}{x:Ex}(hx:exprX es x=0){k:I64}{l:List Ex}(hk:k.1=5/\l=[x]\/(k.1=6\/k.1=7)/\l=[x,x]):exprX es (opE k l)=3\/exprX es (opE k l)=0:=by
 have hall:∀y∈flat (opE k l),y=opE k l\/y∈flat x:=fun y hy=>by
  rw[flat_eq]at hy
  rcases List.mem_cons.1 hy with h|h
  ·exact .inl h
  ·refine .inr ?_
   have h2:y∈flats l:=h
   unfold flats at h2
   obtain⟨z,hz,hyz⟩:=List.mem_flatten.1 h2
   obtain⟨q,hq,rfl⟩:=List.mem_map.1 hz
   rcases hk with ⟨_,rfl⟩|⟨_,rfl⟩ <;> (simp at hq;subst hq;exact hyz)
 have hc:checkX x=0/\firstE (insX es) (flat x)=0:=by
  unfold exprX at hx
  split at hx
  ·rename_i h;exact⟨h,hx⟩
  ·rename_i h;exact absurd hx h
 have ho:=one_flat hx
 unfold exprX
 by_cases hlim:400<wEx (opE k l)\/32<exDepth (opE k l)
 ·left
  have:checkX (opE k l)=3:=by unfold checkX;rw[if_pos hlim]
  rw[this];rfl
 ·right
  have h1:checkX (opE k l)=0:=by
   unfold checkX
   rw[if_neg hlim]
   refine firstE_of_all fun y hy=>?_
   rcases hall y hy with rfl|h
   ·show oneI k.1 0 0 0 [] ((opE k l).args.length:Nat)=0
    rcases hk with ⟨hk,rfl⟩|⟨hk|hk,rfl⟩ <;> (rw[hk];rfl)
   ·exact ho y h
  rw[if_pos h1]
  refine firstE_of_all fun y hy=>?_
  rcases hall y hy with rfl|h
  ·show insI es k.1 0 0 ((opE k l).args.length:Nat)=0
   unfold insI
   rw[if_neg (by omega)]
  ·exact firstE_zero hc.2 y h
theorem resT_operand{w:Plc}{e:Ex}(h:(resT w false e).2=0):(resT w true e).2=0\/(resT w true e).2=9:=by
 rw[resT_eq]at h⊢
 split at h
 ·rename_i h1;exact absurd h h1
 ·rename_i h1
  rw[if_neg h1]
  generalize (heads (e.args.map (resT w true))).1=l at*
  unfold kindT at*
  repeat' split at h
  all_goals first
   | (exfalso;simp_all;done)
   | (left;simp_all;done)
   | skip
  all_goals
   unfold callT at*
   repeat' split at h
   all_goals simp_all
   all_goals(repeat' split) <;> (try simp_all) <;> (try omega)
theorem resT_opE{w:Plc}{x:Ex}{k:I64}{l:List Ex}(hk:k.1=5/\l=[x]\/(k.1=6\/k.1=7)/\l=[x,x]):(resT w false (opE k l)).2=(resT w true x).2:=by
 rw[resT_eq,show(opE k l).args=l from rfl]
 by_cases hr:(resT w true x).2=0
 ·obtain⟨t,ht⟩:=List.length_eq_one_iff.1 (resT_one hr)
  have hh:heads (l.map (resT w true))=(l.map fun _=>t,0):=by
   rcases hk with ⟨_,rfl⟩|⟨_,rfl⟩ <;> simp[heads,hr,ht]
  rw[hh,if_neg (by simp),hr]
  unfold kindT
  rw[if_neg (show ¬(opE k l).kind.1=1 by show ¬k.1=1;omega),if_neg (show ¬(opE k l).kind.1=11 by show ¬k.1=11;omega),if_neg (show ¬(opE k l).kind.1=2 by show ¬k.1=2;omega),if_neg (show ¬(opE k l).kind.1=3 by show ¬k.1=3;omega),if_neg (show ¬(opE k l).kind.1=4 by show ¬k.1=4;omega),if_pos (show(opE k l).kind.1=5\/(opE k l).kind.1=6\/(opE k l).kind.1=7 by show k.1=5\/k.1=6\/k.1=7;omega)]
  rcases hk with ⟨_,rfl⟩|⟨_,rfl⟩ <;> simp[eqAll]
 ·have hh:(heads (l.map (resT w true))).2=(resT w true x).2:=by
   rcases hk with ⟨_,rfl⟩|⟨_,rfl⟩ <;> simp[heads,hr]
  rw[if_pos (by rw[hh];exact hr),hh]
theorem guards_law{p:Prog}{node:I64}{x:Ex}(h:(lateOf p node x).2=0):∃z:Int,(z=0\/z=9)/\∀(k:I64) (l:List Ex),(k.1=5/\l=[x]\/(k.1=6\/k.1=7)/\l=[x,x])->
  lateOf p node (opE k l)=(false,3)\/(lateOf p node (opE k l)).2=z/\(z=0->(lateOf p node (opE k l)).1=decide (k.1=5)):=by
 unfold lateOf at h
 have h1:(lateP p node).2=0:=Classical.byContradiction fun hh=>by rw[if_pos hh]at h;exact hh h
 rw[if_neg (by simp[h1])]at h
 have h2:(ofT p node x).2=0:=Classical.byContradiction fun hh=>by rw[if_pos hh]at h;exact hh h
 unfold ofT at h2
 have h3:¬(node.1<0\/(p.nodes.length:Int)≤node.1):=fun hh=>by rw[if_pos hh]at h2;cases h2
 rw[if_neg h3]at h2
 have h4:exprX p.enums x=0:=Classical.byContradiction fun hh=>by rw[if_pos hh]at h2;exact hh h2
 rw[if_neg (by simp[h4])]at h2
 have hn:=List.getElem?_eq_getElem (l:=p.nodes) (i:=node.1.toNat) (by omega)
 rw[hn]at h2
 simp only at h2
 refine⟨(resT ⟨p,node,varsL p.nodes[node.1.toNat]⟩ true x).2,resT_operand h2,fun k l hk=>?_⟩
 have hof:exprX p.enums (opE k l)=0->ofT p node (opE k l)=resT ⟨p,node,varsL p.nodes[node.1.toNat]⟩ false (opE k l):=fun h0=>by
  unfold ofT
  rw[if_neg h3,if_neg (by simp[h0]),hn]
 have hof3:exprX p.enums (opE k l)=3->ofT p node (opE k l)=([],3):=fun h0=>by
  unfold ofT
  rw[if_neg h3,if_pos (by rw[h0];decide),h0]
 unfold lateOf
 rw[if_neg (by simp[h1])]
 rcases exprX_opE h4 hk with h5|h5
 ·left
  rw[hof3 h5];rfl
 ·right
  rw[hof h5,resT_opE hk,hn]
  by_cases hz:(resT ⟨p,node,varsL p.nodes[node.1.toNat]⟩ true x).2=0
  ·rw[if_neg (by simp[hz])]
   refine⟨hz.symm,fun _=>?_⟩
   show lateX (latesX p.nodes[node.1.toNat]) (opE k l)=_
   rw[lateX_eq]
   show(if k.1=5 then true else if k.1=2 then _ else if k.1=3\/k.1=4\/k.1=8 then _ else false)=_
   rcases hk with ⟨hk,_⟩|⟨hk,_⟩
   ·rw[if_pos hk,decide_eq_true hk]
   ·rw[if_neg (by omega),if_neg (by omega),if_neg (by omega),decide_eq_false (by omega)]
  ·rw[if_pos hz]
   exact⟨rfl,fun h=>absurd h hz⟩
def lateS(v:List Str)(e:Ex):Bool:=lateG v (flatS e).length e
theorem lateX_S:lateX=lateS:=by funext v e;unfold lateX lateS;rw[wEx_S]
def stepQS(vars:List Str)(u:Equ):List Str:=if u.left.length=1/\u.left.headD [] ∉ vars/\lateS vars u.right=true then vars++[u.left.headD []] else vars
def latesS(us:List Equ):Nat->List Str->List Str
 | 0,v=>v
 | m+1,v=>if us.foldl stepQS v=v then v else latesS us m (us.foldl stepQS v)
theorem stepL_S(us:List Equ)(v:List Str):stepL us v=us.foldl stepQS v:=by
 unfold stepL
 rw[show stepQ=stepQS from by funext v u;unfold stepQ stepQS;rw[lateX_S]]
theorem latesG_S(us:List Equ):∀(m:Nat) (v:List Str),latesG us m v=latesS us m v
 | 0,_=>rfl
 | m+1,v=>by rw[latesG,latesS,stepL_S,latesG_S us m]
theorem misX_S(v:List Str)(e:Ex):misX v e=(flatS e).any (badX v):=by unfold misX;rw[flat_S]
def preE(e:Ex):Ex:=.mk (i64 5) (i64 0) (i64 0) (i64 0) [] [e]
def arrE(a b:Ex):Ex:=.mk (i64 6) (i64 0) (i64 0) (i64 0) [] [a,b]
def xV:Ex:=.mk (i64 2) (i64 0) (i64 0) (i64 0) [120] []
def oneN(e:Ex):Nod:=⟨[102],[⟨[97],i64 2,[]⟩],[⟨[120],i64 2,[]⟩],[],[⟨[[120]],e⟩],[],[],[]⟩
def oneP(e:Ex):Prog:=⟨[],[oneN e]⟩
def ax:Nat->Ex
 | 0=>preE kA
 | 1=>preE (preE kA)
 | _=>arrE kA (preE kA)
set_option maxRecDepth 20000 in
theorem nshape (k:Nat) (h:k<3):shapeX (oneP (ax k))=((0,0),0):=by
 delta shapeX nodeX equE tailE exprX checkX
 simp only[flat_S,dep_S,wEx_S]
 match k,h with
 | 0,_=>decide +kernel
 | 1,_=>decide +kernel
 | 2,_=>decide +kernel
set_option maxRecDepth 20000 in
theorem nscope (k:Nat) (h:k<3):scopeX (oneP (ax k))=((0,0),0):=by
 unfold scopeX
 rw[nshape k h]
 delta nodF nodeT' nodeS equS claimE exprS
 simp only[flats_S]
 match k,h with
 | 0,_=>decide +kernel
 | 1,_=>decide +kernel
 | 2,_=>decide +kernel
set_option maxRecDepth 20000 in
theorem ntypes (k:Nat) (h:k<3):typesX (oneP (ax k))=((0,0),0):=by
 unfold typesX
 rw[nscope k h]
 show tyNods (oneP (ax k)) [(oneN (ax k),0)]=_
 unfold tyNods
 delta nodG nodeTy eqnT restTy condT
 simp only[res_S]
 match k,h with
 | 0,_=>decide +kernel
 | 1,_=>decide +kernel
 | 2,_=>decide +kernel
set_option maxRecDepth 20000 in
theorem nclocks (k:Nat) (h:k<3):clocksX (oneP (ax k))=((0,0),0):=by
 delta clocksX
 rw[ntypes k h]
 show clkNods 0 [oneN _]=_
 unfold clkNods
 delta nodeK eqClk fitsX
 simp only[wEx_S]
 match k,h with
 | 0,_=>decide +kernel
 | 1,_=>decide +kernel
 | 2,_=>decide +kernel
def nres:Nat->(Int×Int)×Int
 | 0=>((0,-1),12)
 | 1=>((0,0),12)
 | _=>((0,0),0)
set_option maxRecDepth 20000 in
theorem nstarts (k:Nat) (h:k<3):startsX (oneP (ax k))=nres k:=by
 delta startsX
 rw[nclocks k h]
 show stNods 0 [oneN _]=_
 unfold stNods
 delta nodeI restI latesX
 simp only[latesG_S,misX_S]
 delta badX
 simp only[lateX_S]
 match k,h with
 | 0,_=>decide +kernel
 | 1,_=>decide +kernel
 | 2,_=>decide +kernel
set_option maxRecDepth 20000 in
theorem nlate:lateP (oneP (ax 0)) (i64 0)=([[120]],0):=by
 delta lateP
 rw[nclocks 0 (by decide)]
 delta latesX
 simp only[latesG_S,lateX_S]
 decide +kernel
set_option maxRecDepth 20000 in
theorem nof (b:Bool):ofT (oneP (ax 0)) (i64 0) (if b=true then arrE kA xV else xV)=([2],0):=by
 delta ofT exprX checkX
 simp only[flat_S,dep_S,wEx_S,res_S]
 cases b <;> decide +kernel
set_option maxRecDepth 20000 in
theorem nlof (b:Bool):lateOf (oneP (ax 0)) (i64 0) (if b=true then arrE kA xV else xV)=(!b,0):=by
 delta lateOf
 rw[nlate,nof]
 delta latesX
 simp only[latesG_S,lateX_S]
 cases b <;> decide +kernel
end Go.Proofs.YtcbhlhmebbkgnaaGreat
namespace Go.TL
open Go
def Gh(id c:Nat)(m:M):Prop:=∃(p:Place) (a:Array MapEntry) (e:MapEntry),m.β[id]?=some p/\m.w.heap[p.b]?=some (.map (a.push e) (c+1))/\e.born=c/\∀x∈a.toList,x.born<c
def TOG(id c:Nat)(P:Program)(n:Nat)(all:Array Oper)(ops:List Oper)(env:Env)(H:Heap)(K:TK):Prop:=
 ∀(φ:Fm) (m:M) (a:Act),m.H=H->HRel m->ERel m n env a.tmps->DefOk φ m.w a.defers->Gh id c m->wpListIn (Fr φ.r) 0 P all (Post φ m n K) ops a m.w
section rules
variable {P:Program}{n:Nat}{env:Env}{H:Heap}{K:TK}{all:Array Oper}{rest:List Oper}{tab:Tab}{id c:Nat}
variable {d:Nat}{ty:TypeId}{pos:String}{aft:Array Edge}
theorem TOG.op{op:Op}{v:SV}(hd:Nat.ble (d+1) n=true)
  (h:∀(m:M) (a:Act),ERel m n env a.tmps->∃x,(execOp a.eval ⟨some d,op,ty,pos,aft,none⟩).run P m.w= .ok (.value x) m.w/\SRel m v x)
  (k:TOG id c P n all rest ((d,v)::env) H K):TOG id c P n all (⟨some d,op,ty,pos,aft,none⟩::rest) env H K:=by
 intro φ m a h1 h2 h3 h4 h5
 obtain⟨x,hx,hr⟩:=h m a h3
 have hk:=k φ m _ h1 h2 (h3.put d (Nat.le_of_ble_eq_true hd) hr) (by simpa [Act.put]using h4) h5
 refine wpListIn_plain rfl fun K' hK=>?_
 unfold Oper.wpIn
 refine⟨fun _ _=>trivial,?_⟩
 rw[semAt_val hx (by intro d e;cases e)]
 simp only[Oper.uponIn]
 exact hK _ _ hk
theorem TOG.assign{x:Operand}{v:SV}(hd:Nat.ble (d+1) n=true)(hx:env.val x=some v)(k:TOG id c P n all rest ((d,v)::env) H K):TOG id c P n all (⟨some d,.assign x,ty,pos,aft,none⟩::rest) env H K:=
 TOG.op hd (fun m a h3=>⟨_,rfl,h3.val hx⟩) k
theorem TOG.extract{x:Operand}{vs:List SV}{i:Nat}{v:SV}(hd:Nat.ble (d+1) n=true)(hx:env.val x=some (.tup vs))(hv:vs[i]?=some v)(k:TOG id c P n all rest ((d,v)::env) H K):
  TOG id c P n all (⟨some d,.extract x i,ty,pos,aft,none⟩::rest) env H K:=
 TOG.op hd (fun m ac h3=>by
  have h:=h3.val hx
  generalize hq:ac.eval x=z at h
  cases h with
  | tup _ arr hs hr=>
    have hl:=(List.getElem?_eq_some_iff.1 hv).1
    have ha:arr[i]?=some (arr[i]'(by omega)):=Array.getElem?_eq_getElem (by omega)
    exact⟨_,by simp[execOp,hq,Instr.extract,ha],hr _ _ _ hv ha⟩) k
theorem map_push{m:M}(hm:HRel m){kt vt:TypeId}{es:List (Value×T)}(hH:m.H[id]?=some (.map kt vt es)){p:Place}(hp:m.β[id]?=some p){a:Array MapEntry}{clock:Nat}
  (b1:m.w.heap[p.b]?=some (.map a clock))(b2:a.size=es.length)(b3:∀(i:Nat) k t (e:MapEntry),es[i]?=some (k,t)->a[i]?=some e->e.key=k/\TRel m.A m.w t e.val/\e.born<clock)
  {kx:Value}{t:T}{x:Value}(ht:TRel m.A m.w t x):
  Step m ⟨m.A,m.β,m.H.set id (.map kt vt (es++[(kx,t)])),m.w.putObj p.b (.map (a.push { key:=kx,val:=x,born:=clock }) (clock+1))⟩/\
   HRel ⟨m.A,m.β,m.H.set id (.map kt vt (es++[(kx,t)])),m.w.putObj p.b (.map (a.push { key:=kx,val:=x,born:=clock }) (clock+1))⟩:=by
 have hbk:=hm.blk id p _ hp hH
 refine upd_obj hm hp hH rfl rfl b1 rfl rfl (fun L e=>by cases e) fun s=>⟨hbk.1,hbk.2.1,_,_,World.putObj_heap_same (Array.getElem?_eq_some_iff.1 b1).1,by simp[b2],fun i k t' e g1 g2=>?_⟩
 by_cases hi:i<es.length
 ·rw[List.getElem?_append_left hi]at g1
  rw[Array.getElem?_push_lt (by omega),<-Array.getElem?_eq_getElem]at g2
  obtain⟨q1,q2,q3⟩:=b3 i k t' e g1 g2
  exact⟨q1,s.trel hm q2,by omega⟩
 ·rw[List.getElem?_append_right (by omega)]at g1
  have:i=es.length:=by
   have:=(List.getElem?_eq_some_iff.1 g1).1
   simp at this;omega
  subst this
  simp at g1
  rw[<-b2,Array.getElem?_push_size]at g2
  cases g2
  obtain⟨rfl,rfl⟩:=g1
  exact⟨rfl,s.trel hm ht,by simp⟩
theorem TO.mapEntry(hT:TabOk P tab){t kt vt:TypeId}{i iv:TyI}{x y:Operand}{es:List (Value×T)}{kv:SV}{kx:Value}{z:T}{H':Heap}(hd:Nat.ble (d+1) n=true)(ht:tab.get t=some i)(hk:i.k= .map kt vt)
  (hvt:tab.get vt=some iv)(hz:iv.zero=[z])(hag:iv.k.agg=false)(KK:Maps.Keyed P kt)(hx:env.val x=some (.mp id))(hH:H[id]?=some (.map kt vt es))(hks:KeysOk P kt es)(hy:env.val y=some kv)(hkv:∀m v,SRel m kv v->v=kx)(hkx:∃l,keyOf P kt kx=some l)
  (hr:MapGet es kx none)(hH':H.set id (.map kt vt (es++[(kx,z)]))=H')(k:∀c:Nat,TOG id c P n all rest ((d,.tup [.t z,.i c])::env) H' K):TO false P n all (⟨some d,.mapEntry t x y,ty,pos,aft,none⟩::rest) env H K:=by
 intro φ m ac h1 h2 h3 h4
 have hy':=hkv _ _ (h3.val hy)
 have h:=h3.val hx
 obtain⟨zz,hz1,hz2,_,hz4⟩:=(hT vt iv hvt).zero
 obtain⟨g1,g0,g2⟩:=zero_rel (A:=m.A) (w:=m.w) _ _ hz2
 have hzz:zz.cells= #[zz]:=by
  have:=hz4 hag
  cases zz <;> simp[Value.oneCell']at this <;> rfl
 have hzr:TRel m.A m.w z zz:=g2 0 z zz (by rw[hz];rfl) (by rw[hzz];rfl)
 obtain⟨l,hl⟩:=hkx
 generalize hq:ac.eval x=v at h
 cases h with
 | mp _ p hp hn=>
   have hH1:m.H[id]?=some (.map kt vt es):=by rw[h1];exact hH
   obtain⟨a,clock,b1,b2,b3⟩:=map_get h2 hH1 hp
   have hlt:=(Array.getElem?_eq_some_iff.1 b1).1
   have hg:(getObj p.b).run P m.w= .ok (.map a clock) m.w:=by simp[getObj,Sem.run,b1]
   have hset:∀o',(setObj p.b o').run P m.w= .ok () (m.w.putObj p.b o'):=fun o'=>by simp[setObj,Sem.run,b1,World.putObj]
   obtain⟨s,hm'⟩:=map_push (kx:=kx) h2 hH1 hp b1 b2 b3 hzr
   have f1:(Instr.findKey kt kx a.toList).run P m.w= .ok none m.w:=by
    rcases find_run (w0:=m.w) KK hks b2 b3 ⟨l,hl⟩ m.w with ⟨f1,f2⟩|⟨j,tt,e,f1,f2,f3,f4⟩
    ·exact f1
    ·exact absurd rfl (hr j _ f2)
   have hrun:(Instr.mapEntry t (.map (some p.b)) kx).run P m.w= .ok (.tuple #[zz,goInt clock]) (m.w.putObj p.b (.map (a.push { key:=kx,val:=zz,born:=clock }) (clock+1))):=by
    unfold Instr.mapEntry
    simp only[Sem.run_bind,underlying,run_program,Result.andThen_ok,(hT t i ht).map hk,Sem.run_pure,hg,KK.check m.w _ hl,f1,hz1,hset]
   have hx':(execOp ac.eval ⟨some d,.mapEntry t x y,ty,pos,aft,none⟩).run P m.w= .ok (.value (.tuple #[zz,goInt clock])) (m.w.putObj p.b (.map (a.push { key:=kx,val:=zz,born:=clock }) (clock+1))):=by
    simp[execOp,hq,hy',hrun]
   refine wpListIn_plain rfl fun K' hK=>?_
   unfold Oper.wpIn
   refine⟨fun _ _=>trivial,?_⟩
   rw[semAt_val hx' (by intro d e;cases e)]
   simp only[Oper.uponIn]
   have hrel:SRel ⟨m.A,m.β,m.H.set id (.map kt vt (es++[(kx,z)])),m.w.putObj p.b (.map (a.push { key:=kx,val:=zz,born:=clock }) (clock+1))⟩ (.tup [.t z,.i clock]) (.tuple #[zz,goInt clock]):=
    .tup _ _ rfl fun i c y hc hy=>by
     match i with
     | 0=>simp at hc hy;subst hc;subst hy;exact .t _ _ (s.trel h2 hzr)
     | 1=>simp at hc hy;subst hc;subst hy;exact .t _ _ (.v _)
     | i+2=>simp at hc
   exact hK _ _ (TO.step' s (k clock φ ⟨m.A,m.β,m.H.set id (.map kt vt (es++[(kx,z)])),m.w.putObj p.b (.map (a.push { key:=kx,val:=zz,born:=clock }) (clock+1))⟩ _ (by rw[h1];exact hH') hm' ((h3.step h2 s).put d (Nat.le_of_ble_eq_true hd) hrel) (by simpa [Act.put]using h4.step h2 s)
    ⟨p,a,_,hp,World.putObj_heap_same hlt,rfl,fun e he=>by
      obtain⟨j,hj⟩:=List.getElem?_of_mem he
      have hj':a[j]?=some e:=by simpa using hj
      have hjl:=(Array.getElem?_eq_some_iff.1 hj').1
      exact(b3 j _ _ e (List.getElem?_eq_getElem (by omega)) hj').2.2⟩))
theorem modify_last'{α:Type}(f:α->α)(a:α):∀l:List α,(l++[a]).modify l.length f=l++[f a]
 | []=>rfl
 | b::r=>by simp[List.modify_succ_cons,modify_last' f a r]
theorem findIdx_arr'(xs:Array MapEntry)(p:MapEntry->Bool):xs.findIdx? p=xs.toList.findIdx? p:=by cases xs;simp
theorem TOG.entryStore{t kt vt:TypeId}{x y v:Operand}{es:List (Value×T)}{kx:Value}{z tv:T}{vv:SV}{H':Heap}(hx:env.val x=some (.mp id))(hH:H[id]?=some (.map kt vt (es++[(kx,z)])))(hy:env.val y=some (.i c))
  (hv:env.val v=some vv)(htv:vv.toT=some tv)(hH':H.set id (.map kt vt (es++[(kx,tv)]))=H')(k:TO false P n all rest env H' K):TOG id c P n all (⟨none,.entryStore t x y v,ty,pos,aft,none⟩::rest) env H K:=by
 intro φ m ac h1 h2 h3 h4 h5
 have hy':=(h3.val hy).v_eq
 have hvv:=(h3.val hv).toT htv
 have h:=h3.val hx
 generalize hq:ac.eval x=v at h
 cases h with
 | mp _ p hp hn=>
   have hH1:m.H[id]?=some (.map kt vt (es++[(kx,z)])):=by rw[h1];exact hH
   obtain⟨p',a,e,hp',b1,hc,hu⟩:=h5
   have:p'=p:=by rw[hp]at hp';cases hp';rfl
   subst this
   obtain⟨a',clock,c1,b2,b3⟩:=map_get h2 hH1 hp
   rw[b1]at c1
   cases c1
   have hsz:a.size=es.length:=by simpa using b2
   have hlt:=(Array.getElem?_eq_some_iff.1 b1).1
   have hek:e.key=kx:=(b3 es.length kx z e (by simp) (by rw[<-hsz];simp)).1
   have hg:(getObj p'.b).run P m.w= .ok (.map (a.push e) (c+1)) m.w:=by simp[getObj,Sem.run,b1]
   have hset:∀o',(setObj p'.b o').run P m.w= .ok () (m.w.putObj p'.b o'):=fun o'=>by simp[setObj,Sem.run,b1,World.putObj]
   have hidx:(a.push e).findIdx? (fun e=>((e.born:Nat):Int) == ((c:Nat):Int))=some a.size:=by
    have hn:a.toList.findIdx? (fun e=>((e.born:Nat):Int) == ((c:Nat):Int))=none:=by
     rw[List.findIdx?_eq_none_iff]
     intro x hx
     have:=hu x hx
     simp;omega
    rw[findIdx_arr',Array.toList_push,List.findIdx?_append,hn]
    simp[hc]
   have hmod:(a.push e).modify a.size (fun e=>{ e with val:=ac.eval v })=a.push { e with val:=ac.eval v }:=by
    apply Array.ext'
    rw[Array.toList_modify,Array.toList_push,Array.toList_push,<-Array.length_toList,modify_last']
   have hbk:=h2.blk id p' _ hp hH1
   obtain⟨s,hm'⟩:Step m ⟨m.A,m.β,m.H.set id (.map kt vt (es++[(kx,tv)])),m.w.putObj p'.b (.map (a.push { e with val:=ac.eval v }) (c+1))⟩/\HRel ⟨m.A,m.β,m.H.set id (.map kt vt (es++[(kx,tv)])),m.w.putObj p'.b (.map (a.push { e with val:=ac.eval v }) (c+1))⟩:=by
    refine upd_obj h2 hp hH1 rfl rfl b1 rfl rfl (fun L e=>by cases e) fun s=>⟨hbk.1,hbk.2.1,_,_,World.putObj_heap_same hlt,by simp[hsz],fun i k t' e' g1 g2=>?_⟩
    by_cases hi:i<es.length
    ·rw[List.getElem?_append_left hi]at g1
     rw[Array.getElem?_push_lt (by omega),<-Array.getElem?_eq_getElem]at g2
     obtain⟨q1,q2,q3⟩:=b3 i k t' e' (by rw[List.getElem?_append_left hi];exact g1) (by rw[Array.getElem?_push_lt (by omega),<-Array.getElem?_eq_getElem];exact g2)
     exact⟨q1,s.trel h2 q2,by omega⟩
    ·rw[List.getElem?_append_right (by omega)]at g1
     have:i=es.length:=by
      have:=(List.getElem?_eq_some_iff.1 g1).1
      simp at this;omega
     subst this
     simp at g1
     rw[<-hsz,Array.getElem?_push_size]at g2
     cases g2
     obtain⟨rfl,rfl⟩:=g1
     exact⟨hek,s.trel h2 hvv,by show e.born<_;omega⟩
   have hrun:(Instr.entryStore t (.map (some p'.b)) (.int .i64 c) (ac.eval v)).run P m.w= .ok () (m.w.putObj p'.b (.map (a.push { e with val:=ac.eval v }) (c+1))):=by
    unfold Instr.entryStore
    simp[Sem.run_bind,asInt,asIntOf,hg,hidx,hmod,hset]
   have hx':(execOp ac.eval ⟨none,.entryStore t x y v,ty,pos,aft,none⟩).run P m.w= .ok .skip (m.w.putObj p'.b (.map (a.push { e with val:=ac.eval v }) (c+1))):=by
    simp[execOp,hq,hy',hrun]
   refine wpListIn_plain rfl fun K' hK=>?_
   unfold Oper.wpIn
   refine⟨fun _ _=>trivial,?_⟩
   rw[semAt_val hx' (by intro d e;cases e)]
   simp only[Oper.uponIn]
   exact hK _ _ (TO.step' s (k φ ⟨m.A,m.β,m.H.set id (.map kt vt (es++[(kx,tv)])),m.w.putObj p'.b (.map (a.push { e with val:=ac.eval v }) (c+1))⟩ _ (by rw[h1];exact hH') hm' (by simpa [Act.put]using h3.step h2 s) (by simpa [Act.put]using h4.step h2 s)))
end rules
end Go.TL
