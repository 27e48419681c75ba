import Derived.Test.YtdicfgideclbdaaGreatDoorAk18
set_option maxHeartbeats 64000000
set_option linter.all false
namespace Go.Proofs.YtdicfgideclbdaaGreatDoor
open Go Go.TL
attribute [local irreducible] TR TO Then zaj RetK Sound zac Kf GG zaQ
variable {es:List En}
theorem orE0{a b:Int}(h:orE a b=0):a=0/\b=0:=by
 exact zwed
theorem ite0{p:Prop}[Decidable p]{c:Int}(hc:c≠0)(h:(if p then 0 else c)=0):p:=by
 by_cases hp:p
 ·exact hp
 ·rw[oH hp]at h;exact oI h hc
theorem zfw{s:Str}(h:zcg s=0):ident s=true:=ite0 oB h
theorem zaN{s:Str}(h:ident s=true):s.length≤40/\s≠ []/\∀c∈s,zjD c=true:=by
 unfold ident at h;split at h
 ·cases h
 ·simp only[qar,decide_eq_true_eq,qaB]at h;exact⟨h.1.1.1,oC,h.2⟩
structure OkU (u:En):Prop where
 name:ident u.name=true
 few:u.tags.length≤16
 some:u.tags≠ []
 tags:∀t∈u.tags,ident t=true
structure OkD (es:List En) (d:Decl):Prop where
 name:ident d.name=true
 few:d.clock.length≤4
 ck:∀o∈d.clock,ident o.name=true
structure OkQ (es:List En) (q:Equ):Prop where
 few:q.left.length≤64
 left:∀n∈q.left,ident n=true
 right:zbi es q.right=0
structure OkT (es:List En) (n:Nat) (t:Tran):Prop where
 tgt:0≤t.to.1/\t.to.1<n
 cond:zbi es t.cond=0
structure OkS (es:List En) (n:Nat) (P:Auto->Prop) (s:Sta):Prop where
 name:ident s.name=true
 few:s.locals.length≤256/\s.eqs.length≤256/\s.autos.length≤8/\s.unl.length≤4/\s.unt.length≤4
 locals:∀d∈s.locals,OkD es d
 eqs:∀q∈s.eqs,OkQ es q
 autos:∀a∈s.autos,P a
 unl:∀q∈s.unl,OkT es n q
 unt:∀q∈s.unt,OkT es n q
def OkA(es:List En):Nat->Auto->Prop
 | 0,_=>False
 | m+1,a=>a.states.length≤8/\∀s∈a.states,OkS es a.states.length (OkA es m) s
structure OkN (es:List En) (n:Nod):Prop where
 name:ident n.name=true
 few:n.ins.length≤64/\n.outs.length≤64/\n.locals.length≤256/\n.eqs.length≤256/\n.autos.length≤8/\n.assume.length≤8/\n.ensure.length≤8
 ins:∀d∈n.ins,OkD es d
 outs:∀d∈n.outs,OkD es d
 locals:∀d∈n.locals,OkD es d
 eqs:∀q∈n.eqs,OkQ es q
 autos:∀a∈n.autos,OkA es 3 a
 assume:∀e∈n.assume,zbi es e=0
 ensure:∀e∈n.ensure,zbi es e=0
structure OkP (p:Prog):Prop where
 few:p.enums.length≤24/\p.nodes.length≤96
 enums:∀u∈p.enums,OkU u
 nodes:∀n∈p.nodes,OkN p.enums n
theorem zps{port:Bool}{d:Decl}(h:zfh es port d=0):OkD es d:=by
 unfold zfh at h;obtain⟨h1,h⟩:=orE0 h;obtain⟨_,h⟩:=orE0 h;obtain⟨_,h⟩:=orE0 h;obtain⟨h2,h⟩:=orE0 h;exact⟨zfw h1,ite0 oB h2,fun o ho=>zfw (orE0 (zab h o ho)).1⟩
theorem zv7{q:Equ}(h:equE es q=0):OkQ es q:=by
 unfold equE at h;obtain⟨_,h⟩:=orE0 h;obtain⟨h1,h⟩:=orE0 h;obtain⟨h2,h⟩:=orE0 h;exact⟨ite0 oB h1,fun n hn=>zfw (zab h2 n hn),(orE0 h).1⟩
theorem zv8{n:Nat}{b:Bool}{t:Tran}(h:zfi es n b t=0):OkT es n t:=by
 unfold zfi at h;obtain⟨h1,h⟩:=orE0 h;exact⟨ite0 oB h1,(orE0 h).1⟩
theorem zv5{es:List En}:∀(m:Nat) (a:Auto),zdl es m a=0->OkA es m a
 | 0,a,h=>by cases h
 | m+1,a,h=>by
   unfold zdl at h;obtain⟨_,h⟩:=orE0 h;obtain⟨h1,h⟩:=orE0 h;refine⟨ite0 oB h1,fun s hs=>?_⟩;have h2:=zab h s hs;unfold stE at h2;obtain⟨g1,h2⟩:=orE0 h2;obtain⟨g2,h2⟩:=orE0 h2;obtain⟨g3,h2⟩:=orE0 h2;obtain⟨g4,h2⟩:=orE0 h2;obtain⟨g5,h2⟩:=orE0 h2;obtain⟨g6,g7⟩:=orE0 h2;exact⟨zfw g1,ite0 oB g2,fun d hd=>zps (zab g3 d hd),fun q hq=>zv7 (zab g4 q hq),fun b hb=>zv5 m b (zab g5 b hb),fun q hq=>zv8 (zab g6 q hq),fun q hq=>zv8 (zab g7 q hq)⟩
theorem zzH{n:Nod}(h:(zcp es n).2=0):OkN es n:=by
 unfold zcp at h;have h1:zlV es n=0:=qaA fun hh=>by rw[oG hh]at h;exact hh h
 rw[oH (by simp[h1])]at h;have h2:zad (equE es) n.eqs=0:=qaA fun hh=>by rw[oG hh,zcv]at h;exact hh h
 rw[oH (by simp[h2])]at h;simp only at h;unfold zod at h;obtain⟨g1,h⟩:=orE0 h;obtain⟨g2,g3⟩:=orE0 h;unfold zlV at h1;obtain⟨f1,h1⟩:=orE0 h1;obtain⟨f2,h1⟩:=orE0 h1;obtain⟨_,h1⟩:=orE0 h1;obtain⟨f3,h1⟩:=orE0 h1;obtain⟨f4,f5⟩:=orE0 h1;exact⟨zfw f1,ite0 oB f2,fun d hd=>zps (zab f3 d hd),fun d hd=>zps (zab f4 d hd),fun d hd=>zps (zab f5 d hd),fun q hq=>zv7 (zab h2 q hq),fun a ha=>zv5 3 a (zab g1 a ha),fun e he=>zab g2 e he,fun e he=>zab g3 e he⟩
theorem zv6{p:Prog}(h:(zaX p).2=0):OkP p:=by
 unfold zaX at h;have h1:limE p=0:=qaA fun hh=>by rw[oG hh]at h;exact hh h
 rw[oH (by simp[h1])]at h;have h2:zad zew p.enums=0:=qaA fun hh=>by rw[oG hh]at h;exact hh h
 rw[oH (by simp[h2])]at h;have h3:zad (fun n=>(zcp p.enums n).2) p.nodes=0:=qaA fun hh=>by rw[oH hh]at h;exact hh h
 refine⟨ite0 oB h1,fun u hu=>?_,fun n hn=>zzH (zab h3 n hn)⟩;have h4:=zab h2 u hu;unfold zew at h4;obtain⟨e1,h4⟩:=orE0 h4;obtain⟨e2,h4⟩:=orE0 h4;obtain⟨e3,h4⟩:=orE0 h4;exact⟨zfw e1,ite0 oB e3,(fun hc=>by rw[hc]at e2;simp at e2),fun t ht=>zfw (zab h4 t ht)⟩
end Go.Proofs.YtdicfgideclbdaaGreatDoor
