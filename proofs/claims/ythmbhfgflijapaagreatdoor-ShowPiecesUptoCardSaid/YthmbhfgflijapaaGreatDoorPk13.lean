import Derived.Test.YthmbhfgflijapaaGreatDoorPk12
set_option linter.all false
namespace Go.Proofs.YthmbhfgflijapaaGreatDoor
open Go Go.TL
attribute [local irreducible] TR TO Then zag RetK Sound zab Kf GG zaK
structure Arity (e:Ex):Prop where
 kind:1≤e.kind.1/\e.kind.1≤11
 k4:e.kind.1=4->e.args.length=3
 k5:e.kind.1=5->e.args.length=1
 more:6≤e.kind.1->e.kind.1≤9->1≤e.args.length
 v:e.kind.1=10->e.v.1=0\/e.v.1=1
theorem zrl{e:Ex}(h:oneX e=0):Arity e:=by
 unfold oneX at h
 rw[zp6 _ _ _ _ _ _ (by omega)]at h
 have hf:zii e.kind.1 e.op.1 e.t.1 e.v.1 e.name e.args.length=true:=by
  exact zwcr
 clear h
 unfold zii at hf
 split at hf
 ·cases hf
 rename_i h1
 have ha:zj3 e.kind.1 e.op.1 e.t.1 e.v.1 e.args.length=true:=by
  exact zwdb
 unfold zj3 at ha
 refine⟨by omega,fun hk=>?_,fun hk=>?_,fun hk1 hk2=>?_,fun hk=>?_⟩
 ·rw[hk]at ha;simp at ha;omega
 ·rw[hk]at ha;simp at ha;omega
 ·have:e.kind.1=6\/e.kind.1=7\/e.kind.1=8\/e.kind.1=9:=by omega
  rcases this with hk|hk|hk|hk <;> rw[hk]at ha <;> simp at ha
  ·omega
  ·omega
  ·omega
  ·split at ha <;> omega
 ·rw[hk]at hf
  simp at hf
  grind
theorem zah{α:Type}{f:α->Int}:∀ {l:List α},zac f l=0->∀x∈l,f x=0
 | [],_,x,hx=>by cases hx
 | y::l,h,x,hx=>by
   unfold zac at h
   by_cases hy:f y=0
   ·rcases qa2.1 hx with rfl|hx
    ·exact hy
    ·exact zah (l:=l) (by simpa [hy]using h) x hx
   ·simp[hy]at h
theorem znU{es:List En}{e:Ex}(h:za4 es e=0):∀x∈flat e,Arity x:=by
 unfold za4 at h
 split at h
 ·rename_i hc
  unfold zd5 at hc
  split at hc
  ·cases hc
  ·exact fun x hx=>zrl (zah hc x hx)
 ·rename_i hc;exact absurd h hc
def orE(a b:Int):Int:=if a=0 then b else a
def zcb(s:Str):Int:=if ident s=true then 0 else 6
def onE(es:List En)(o:OnC):Int:=orE (zcb o.name) (if o.t.1≠2/\hasT es o.t.1 o.tag.1=true then 0 else 5)
def zfn(es:List En)(port:Bool)(d:Decl):Int:=
 orE (zcb d.name) (orE (if 0<zbz es d.ty.1 then 0 else 10) (orE (if port=true/\d.clock.length≠0 then 11 else 0) (orE (if d.clock.length≤4 then 0 else 3) (zac (onE es) d.clock))))
def equE(es:List En)(q:Equ):Int:=
 orE (if q.left.length=0 then 8 else 0) (orE (if q.left.length≤64 then 0 else 3) (orE (zac zcb q.left) (orE (za4 es q.right) (if q.left.length=1\/q.right.kind.1=10 then 0 else 5))))
def zlf(k:Int):Bool:=decide (k≠5/\k≠6/\k≠7/\k≠10/\k≠11)
def sless(e:Ex):Bool:=(flat e).all fun x=>zlf x.kind.1
def zfL(es:List En)(states:Int)(strong:Bool)(t:Tran):Int:=
 orE (if 0≤t.to.1/\t.to.1<states then 0 else 14) (orE (za4 es t.cond) (if strong=false\/sless t.cond=true then 0 else 5))
def stE(es:List En)(auto:Auto->Int)(n:Int)(s:Sta):Int:=
 orE (zcb s.name) (orE (if s.locals.length≤256/\s.eqs.length≤256/\s.autos.length≤8/\s.unl.length≤4/\s.unt.length≤4 then 0 else 3)
  (orE (zac (zfn es false) s.locals) (orE (zac (equE es) s.eqs) (orE (zac auto s.autos) (orE (zac (zfL es n true) s.unl) (zac (zfL es n false) s.unt))))))
def zdy(es:List En):Nat->Auto->Int
 | 0,_=>3
 | k+1,a=>orE (if a.states.length=0 then 8 else 0) (orE (if a.states.length≤8 then 0 else 3) (zac (stE es (zdy es k) a.states.length) a.states))
def zeK(u:En):Int:=orE (zcb u.name) (orE (if u.tags.length=0 then 8 else 0) (orE (if u.tags.length≤16 then 0 else 3) (zac zcb u.tags)))
def zl8(es:List En)(n:Nod):Int:=
 orE (zcb n.name) (orE (if n.ins.length≤64/\n.outs.length≤64/\n.locals.length≤256/\n.eqs.length≤256/\n.autos.length≤8/\n.assume.length≤8/\n.ensure.length≤8 then 0 else 3)
  (orE (if n.outs.length=0 then 8 else 0) (orE (zac (zfn es true) n.ins) (orE (zac (zfn es true) n.outs) (zac (zfn es false) n.locals)))))
def zqR(es:List En)(n:Nod):Int:=orE (zac (zdy es 3) n.autos) (orE (zac (za4 es) n.assume) (zac (za4 es) n.ensure))
def zdd{α:Type}(g:α->Int):List α->Int×Int
 | []=>(0,0)
 | x::l=>if g x=0 then(if(zdd g l).2=0 then(0,0) else((zdd g l).1+1,(zdd g l).2)) else(0,g x)
theorem zcq{α:Type}(g:α->Int):∀(l:List α),(zdd g l).2=zac g l
 | []=>rfl
 | x::l=>by
   simp only[zdd,zac]
   rw[<-zcq g l]
   split
   ·split <;> simp_all
   ·rfl
theorem zfq{α:Type}(g:α->Int):∀(a b:List α),zdd g (a++b)=if zac g a=0 then(if zac g b=0 then(0,0) else((zdd g b).1+a.length,zac g b)) else zdd g a
 | [],b=>by
   have:=zcq g b
   simp only[qa9,zac,if_true,qaz]
   split
   ·rename_i h
    cases b with
    | nil=>rfl
    | cons x l=>
      simp only[zdd,zac]at*
      grind
   ·rw[<-this];simp
 | x::a,b=>by
   have h1:=zcq g (a++b)
   have h2:=zcq g a
   have h3:=zcR g a b
   simp only[qbk,zdd,zac,zfq g a b,qal]at*
   grind
def zcu(es:List En)(n:Nod):Int×Int:=
 if zl8 es n≠0 then(-1,zl8 es n) else if zac (equE es) n.eqs≠0 then zdd (equE es) n.eqs else(-1,zqR es n)
def limE(p:Prog):Int:=if p.enums.length≤24/\p.nodes.length≤96 then 0 else 3
def za7(p:Prog):(Int×Int)×Int:=
 if limE p≠0 then((-1,-1),limE p) else if zac zeK p.enums≠0 then((-1,-1),zac zeK p.enums) else
 if zac (fun n=>(zcu p.enums n).2) p.nodes=0 then((0,0),0) else
  let i:=(zdd (fun n=>(zcu p.enums n).2) p.nodes).1
  ((i,((p.nodes[i.toNat]?).map fun n=>(zcu p.enums n).1).getD 0),zac (fun n=>(zcu p.enums n).2) p.nodes)
def strW:Value->Nat
 | .string s=>s.size
 | _=>0
def _root_.Go.TL.T.w:T->Nat
 | .v x=>1+strW x
 | .sl _ es=>1+(es.attach.map fun x=>x.1.w).sum
 | .ag cs=>1+(cs.attach.map fun x=>x.1.w).sum
decreasing_by
 all_goals
  have:=qbp x.2
  simp;omega
theorem w_sl(sz:Nat)(es:List T):(T.sl sz es).w=1+(es.map T.w).sum:=by rw[T.w];simp
theorem w_ag(cs:List T):(T.ag cs).w=1+(cs.map T.w).sum:=by rw[T.w];simp
theorem w_s(s:Str):(T.s s).w=1+s.length:=by rw[T.w];rfl
theorem zlv(t:T):1≤t.w:=by
 cases t with
 | v=>rw[T.w];omega
 | sl=>rw[w_sl];omega
 | ag=>rw[w_ag];omega
theorem zwY(sz:Nat)(es:List T):es.length<(T.sl sz es).w:=by
 have:=zmC T.w zlv es
 rw[w_sl];omega
theorem w_in{sz:Nat}{es:List T}{t:T}(h:t∈es):t.w<(T.sl sz es).w:=by
 have:=zh2 T.w h
 rw[w_sl];omega
theorem zaB{α:Type}(f:α->T)(sz:Nat)(l:List α):l.length<(T.sl sz (l.map f)).w:=by
 have:=zwY sz (l.map f);simpa using this
theorem zaN{α:Type}{f:α->T}{sz:Nat}{l:List α}{x:α}(h:x∈l):(f x).w<(T.sl sz (l.map f)).w:=w_in (List.mem_map_of_mem h)
theorem zv2:∀(m:Nat) (e:Ex),wEx e≤m->wEx e≤(exT e).w
 | 0,e,h=>by have:=zb7 e;omega
 | m+1,e,h=>by
   have ih:∀x∈e.args,wEx x≤(exT x).w:=fun x hx=>zv2 m x (by have:=zcg hx;omega)
   have hs:(e.args.map wEx).sum≤((e.args.map exT).map T.w).sum:=by
    generalize e.args=l at ih
    clear h
    induction l with
    | nil=>simp
    | cons a l ih2=>
      have h1:=ih a (by simp)
      have h2:=ih2 (fun x hx=>ih x (by simp[hx]))
      simp only[qah,qay];omega
   rw[zfN,zae,w_ag]
   simp only[exC,qah,qay,w_sl]
   omega
theorem zh8(e:Ex):wEx e≤(exT e).w:=zv2 _ e (qae _)
end Go.Proofs.YthmbhfgflijapaaGreatDoor
namespace Go.TL
open Go
theorem zbg{α:Type}:∀(l:List α),zbK l=some l
 | []=>rfl
 | x::l=>by simp[zbK,zbg l]
theorem zpn{m:M}(hm:HRel m):Step m ⟨m.A,m.β,m.H.map (fun _=>.dead),m.w⟩/\HRel ⟨m.A,m.β,m.H.map (fun _=>.dead),m.w⟩:=by
 have pick:∀(i:Nat) c,(m.H.map (fun _=>Blk.dead))[i]?=some c->c= .dead:=by
  intro i c h
  rw[qar]at h
  cases hq:m.H[i]? with
  | none=>rw[hq]at h;cases h
  | some x=>rw[hq]at h;cases h;rfl
 have own:∀b o,¬Own ⟨m.A,m.β,m.H.map (fun _=>.dead),m.w⟩ b o:=by
  rintro b o ⟨i,q,c,h1,h2,h3,h4⟩
  have:=pick i c h2
  subst this
  cases h3
 refine⟨⟨rfl,rfl,rfl,qae _,fun _ _ h=>h,fun _ _ h=>.inl h,fun b o h=>absurd h (own b o),fun _ _ _ _=>rfl,fun _ _ _ _ _=>rfl,fun _ _ _=>rfl,fun _ _ h=>h,fun _ L h=>⟨L,h⟩,fun _ _ _ h=>h,fun i q hq=>⟨q,hq,?_⟩⟩,?_⟩
 ·have hd:∀n,tlOf (m.H.map (fun _=>Blk.dead))[i]? ≠some n:=by
   intro n h
   cases hq:(m.H.map (fun _=>Blk.dead))[i]? with
   | none=>rw[hq]at h;cases h
   | some x=>have:=pick i x hq;subst this;rw[hq]at h;cases h
  show zaZ m.H[i]? (m.H.map (fun _=>Blk.dead))[i]? q q
  unfold zaZ
  split
  ·exact fun n' h=>absurd h (hd n')
  ·exact⟨rfl,hd⟩
 ·refine⟨by simpa using hm.len,fun i q c h1 h2=>?_,fun i j q r c l hij h1 h2 h3 h4 hc hl=>?_,fun b o h hn=>own b o hn,hm.inA,fun i q c h1 h2 hc hq=>?_,hm.glob⟩
  ·have:=pick i c h2;subst this;trivial
  ·have:=pick i c h2;subst this;cases hc
  ·have:=pick i c h2;subst this;cases hc
theorem zcz(k:Nat):∀n,zaa k (List.replicate n .dead)=true
 | 0=>rfl
 | n+1=>by
   rw[qbM,zaa,zcz k n]
   rfl
theorem Sound.zv8{P:Program}{f:FuncId}{args:List SV}{H:Heap}{R R':Res->Heap->Prop}(h:Sound P f args H R)(hr:∀v H',R (.ret v) H'->R' (.ret v) H')
  (hp:∀v H',R (.panic v) H'->v.under H.length=true/\H.length≤H'.length/\R' (.panic v) (List.replicate H.length .dead)):Sound P f args H R':=by
 refine⟨h.1,fun m vs h1 h2 h3=>Calls.mono (h.2 m vs h1 h2 h3) ?_⟩
 rintro e w' ⟨m',r,rfl,s,hm',hres,hR⟩
 cases r with
 | ret v=>exact⟨m',.ret v,rfl,s,hm',hres,hr v _ hR⟩
 | panic v=>
   obtain⟨g1,g2,g3⟩:=hp v _ hR
   obtain⟨s1,hm1⟩:=zpn hm'
   have hl:(m'.H.map (fun _=>Blk.dead)).take H.length=List.replicate H.length .dead:=by
    rw[List.map_const',List.take_replicate,Nat.min_eq_left g2]
   obtain⟨c1,c2,c3⟩:=zgo (k:=H.length) hm1 (s.trans s1) (by simpa using g2) (by rw[h2.len,h1];exact qae _) (by show zaa _ (List.take _ (m'.H.map _))=true;rw[hl];exact zcz _ _)
   refine⟨M.cut ⟨m'.A,m'.β,m'.H.map fun _=>.dead,m'.w⟩ H.length,.panic v,rfl,c1,c2,?_,?_⟩
   ·cases e with
    | panicked ch=>
      obtain⟨x,x1,x2⟩:=hres
      exact⟨x,x1,c3 v x g1 (s1.srel hm' x2)⟩
    | _=>simp[zbX]at hres
   ·show R' (.panic v) (List.take _ (m'.H.map _))
    rw[hl];exact g3
def Err(c:Int)(v pv:SV)(H1:Heap):Res->Heap->Prop:=fun r H'=>if c=0 then r= .ret v/\H'=H1 else r= .panic pv/\H'=List.replicate H1.length .dead
def Err0(c:Int)(v pv:SV)(H1:Heap)(N:Nat):Res->Heap->Prop:=fun r H'=>if c=0 then r= .ret v/\H'=H1 else r= .panic pv/\N≤H'.length
theorem Sound.err{P:Program}{f:FuncId}{args:List SV}{H H1:Heap}{c:Int}{v pv:SV}(hl:H1.length=H.length)(hu:∀k,pv.under k=true)(h:Sound P f args H (Err0 c v pv H1 H.length)):Sound P f args H (Err c v pv H1):=by
 refine h.zv8 (fun u H' g=>?_) (fun u H' g=>?_)
 ·unfold Err0 at g;unfold Err
  split at g
  ·rename_i hc;rw[if_pos hc];exact g
  ·cases g.1
 ·unfold Err0 at g;unfold Err
  split at g
  ·cases g.1
  ·rename_i hc
   obtain⟨g1,g2⟩:=g
   cases g1
   exact⟨hu _,g2,by rw[if_neg hc,hl];exact⟨rfl,rfl⟩⟩
section rules
variable {P:Program}{n:Nat}{env:Env}{H:Heap}{K:TK}{all:Array Oper}{rest:List Oper}{tab:Tab}
variable {d:Nat}{ty:TypeId}{pos:String}{aft:Array Edge}
theorem TO.zkf(l:List Nat){Hc H1 H2 H3:Heap}{c:Int}{cargs:List SV}{v v' pv:SV}{f:Operand}{fid:FuncId}{caps:List SV}{args:Array Operand}{ts:Array TypeId}{vs:List SV}
  (hs:Sound P fid cargs Hc (Err c v pv H1))(hd:Nat.ble (d+1) n=true)(hf:env.val f=some (.fn fid caps))(ha:env.vals args.toList=some vs)(hl:Les (vs++caps) (rens (names l H.length) cargs))(hu:unders Hc.length cargs=true)(hh:Hands H l Hc)
  (hv:v.ren (names l H.length)=v')(hpv:pv.ren (names l H.length)=pv)(hH:patch H l (H1.map (Blk.ren (names l H.length)))=H2)(hD:patch H l ((List.replicate H1.length .dead).map (Blk.ren (names l H.length)))=H3)
  (k:c=0->TO false P n all rest ((d,v')::env) H2 K)(kp:c≠0->K (.panic pv) env H3):
  TO false P n all (⟨some d,.call { callee:=.value f,args:=args,argTypes:=ts },ty,pos,aft,none⟩::rest) env H K:=by
 refine TO.call l hs hd hf ha hl hu hh (fun u Hc' h=>?_) (fun u Hc' h=>?_)
 ·unfold Err at h
  split at h
  ·rename_i hc
   obtain⟨h1,rfl⟩:=h
   cases h1
   rw[hv,hH];exact k hc
  ·cases h.1
 ·unfold Err at h
  split at h
  ·cases h.1
  ·rename_i hc
   obtain⟨h1,rfl⟩:=h
   cases h1
   rw[hpv,hD];exact kp hc
theorem TO.zkg(N:Nat){Hc H1 H2:Heap}{c:Int}{cargs:List SV}{v pv:SV}{f:Operand}{fid:FuncId}{caps:List SV}{args:Array Operand}{ts:Array TypeId}{vs:List SV}
  (hs:Sound P fid cargs Hc (Err c v pv H1))(hd:Nat.ble (d+1) n=true)(hf:env.val f=some (.fn fid caps))(ha:env.vals args.toList=some vs)(hl:Les (vs++caps) cargs)
  (hN:Nat.ble N H.length=true)(hc:H.take N=Hc)(hu:unders N cargs=true)(hb:zaa N Hc=true)(hv:v.under N=true)(hpv:pv.under N=true)(h1:H1.length=N)(h2:zaa N H1=true)
  (hH:zbK (H1++H.drop N)=some H2)(k:c=0->TO false P n all rest ((d,v)::env) H2 K)(kp:c≠0->K (.panic pv) env (List.replicate N .dead++H.drop N)):
  TO false P n all (⟨some d,.call { callee:=.value f,args:=args,argTypes:=ts },ty,pos,aft,none⟩::rest) env H K:=by
 refine TO.ztG N hs ⟨fun u G hr=>?_,fun u G hr=>?_⟩ hd hf ha hl hu (qag hN) hc hb (fun u G hr=>?_) (fun u G hr=>?_)
 ·unfold Err at hr
  split at hr
  ·obtain⟨h,rfl⟩:=hr;cases h;exact⟨hv,h1,h2⟩
  ·cases hr.1
 ·unfold Err at hr
  split at hr
  ·cases hr.1
  ·obtain⟨h,rfl⟩:=hr;cases h;exact⟨hpv,by simp[h1],zcz _ _⟩
 ·unfold Err at hr
  split at hr
  ·rename_i hc0
   obtain⟨h,rfl⟩:=hr;cases h;rw[<-zba hH];exact k hc0
  ·cases hr.1
 ·unfold Err at hr
  split at hr
  ·cases hr.1
  ·rename_i hc0
   obtain⟨h,rfl⟩:=hr;cases h;rw[h1];exact kp hc0
theorem RetK.errP{rs:List ResultVar}{N:Nat}{c:Int}{v pv:SV}{H1:Heap}(hc:c≠0)(hN:Nat.ble N H.length=true)(hu:pv.under H.length=true)(hb:zaa H.length H=true):RetK tab rs N (Err0 c v pv H1 N) (.panic pv) env H:=by
 have hn:=qag hN
 have ht:H.take H.length=H:=qaI (qae _)
 exact⟨pv,H.length,Le.refl _,hn,qae _,hu,by rw[ht];exact hb,by rw[ht];unfold Err0;rw[if_neg hc];exact⟨rfl,hn⟩⟩
theorem RetK.errV{rs:List ResultVar}{N:Nat}{c:Int}{v pv:SV}{H1:Heap}{vs:List SV}(hc:c=0)(hr:zb1 tab env H rs=some vs)(hl:Le (pack vs) v)(hN:Nat.ble N H1.length=true)(hk:Nat.ble H1.length H.length=true)(hu:v.under H1.length=true)
  (ht:H.take H1.length=H1)(hb:zaa H1.length H1=true):RetK tab rs N (Err0 c v pv H1 N) .ret env H:=
 ⟨vs,v,H1.length,hr,hl,qag hN,qag hk,hu,by rw[ht];exact hb,by rw[ht];unfold Err0;rw[if_pos hc];exact⟨rfl,rfl⟩⟩
theorem RetK.errN{rs:List ResultVar}{N:Nat}{c:Int}{v pv:SV}{H1:Heap}{vs:List SV}(hc:c=0)(hr:zb1 tab env H rs=some vs)(hl:Le (pack vs) v)(hN:Nat.ble N H1.length=true)(hk:Nat.ble H1.length H.length=true)(hu:v.under H1.length=true)
  (ht:H.take H1.length=H1)(hb:zaa H1.length H1=true):RetK tab rs N (Err0 c v pv H1 N) .normal env H:=
 ⟨vs,v,H1.length,hr,hl,qag hN,qag hk,hu,by rw[ht];exact hb,by rw[ht];unfold Err0;rw[if_pos hc];exact⟨rfl,rfl⟩⟩
variable {q:Bool}
theorem TO.ztA(hT:zaw P tab){t:TypeId}{i:TyI}{x y:Operand}{j2:Nat}{v vx:SV}{ts:List T}{ty' ty2:TypeId}{pos' pos2:String}{aft' aft2:Array Edge}(hd:Nat.ble (d+1) n=true)(ht:tab.get t=some i)(hj:Nat.ble (j2+1) n=true)(hne2:Nat.beq j2 d=false)(hx:Env.val ((d,.any)::env) x=some vx)(hy:Env.val ((j2,vx)::(d,.any)::env) y=some v)(hv:v.solid=true)(hc:allT v.cells=some ts)
  (hsz:i.size=ts.length)(hpos:0<ts.length)
  (k:TO false P n all rest ((d,.cp ts 0)::(j2,vx)::(d,.any)::env) H K):TO false P n all (⟨some d,.alloc t,ty,pos,aft,none⟩::⟨some j2,.assign x,ty2,pos2,aft2,none⟩::⟨none,.store t (.tmp d) y,ty',pos',aft',none⟩::rest) env H K:=by
 intro φ m a h1 h2 h3 h4
 obtain⟨z,hz1,hz2,_,_⟩:=(hT t i ht).zero
 obtain⟨zl,z0,_⟩:=zb3 (A:=m.A) (w:=m.w) _ _ hz2
 have hzl:z.cells.size=i.size:=by have:=(hT t i ht).len;simp at zl;omega
 let pv:Value:=.pointer (some ⟨m.w.heap.size,0,none⟩)
 let a0:Act:=a.put (some d) pv
 have hE0:ERel m n ((d,.any)::env) a0.tmps:=h3.put d (qag hd) (.any _)
 let a1:Act:=a0.put (some j2) (a0.eval x)
 have hE1:ERel m n ((j2,vx)::(d,.any)::env) a1.tmps:=hE0.put j2 (qag hj) (hE0.val hx)
 have hnj:j2≠d:=fun e=>by rw[e]at hne2;simp at hne2
 obtain⟨g1,g0,g2⟩:=(hE1.val hy).cells hv
 obtain⟨l1,l2⟩:=zew (m:=m) hc
 let w1:=m.w.alloc (.cells z.cells t)
 have hrun1:(execOp a.eval ⟨some d,.alloc t,ty,pos,aft,none⟩).run P m.w= .ok (.value pv) w1:=by
  simp[execOp,Instr.alloc,hz1,newVar,newRow,pv,w1]
 have hrunm:(execOp a0.eval ⟨some j2,.assign x,ty2,pos2,aft2,none⟩).run P w1= .ok (.value (a0.eval x)) w1:=by
  simp[execOp]
 have hc1:∀o,w1.cell? ⟨m.w.heap.size,o,none⟩=z.cells[o]? :=fun o=>World.cell?_alloc_new ..
 have hlen:(a1.eval y).cells.toList.length=z.cells.size:=by simp;omega
 have hsome:∀q,q<(a1.eval y).cells.toList.length->(w1.cell? ⟨m.w.heap.size,0+q,none⟩).isSome=true:=fun q hq=>by rw[qaU,hc1,qam (by omega)];rfl
 let w2:=w1.setCells m.w.heap.size 0 (a1.eval y).cells.toList
 have hrun2:(execOp a1.eval ⟨none,.store t (.tmp d) y,ty',pos',aft',none⟩).run P w1= .ok .skip w2:=by
  have hev:a1.eval (.tmp d)=pv:=by
   have hlt:d<a.tmps.size:=by rw[h3.1];exact qag hd
   simp[a1,a0,Act.put,Act.eval,qaK,hlt,hnj]
  exact zwo
 obtain⟨e1,e2,e3,e4,e5,e6⟩:=zbV m.w.heap.size (a1.eval y).cells.toList 0 w1
 have kw:Keeps m.w w2:=⟨e1,e2,e3,by show _≤w2.heap.size;rw[e4];simp[w1],fun b hb=>by rw[e5 b (by omega)];exact RowKit.Below.heap_alloc _ _ _ hb⟩
 obtain⟨m',f1,f2,f3,f4,f5⟩:=zhv h2 kw (b:=m.w.heap.size) ⟨qae _,by rw[e4];simp[w1]⟩ ts (fun j=>((a1.eval y).cells[j]?).getD undef) (fun j hj=>by
  have hj':j<(a1.eval y).cells.toList.length:=by simp;omega
  have:=World.cell?_setCells_in m.w.heap.size (a1.eval y).cells.toList 0 w1 hsome j hj'
  rw[qaU]at this
  rw[show w2.cell? _=_ from this,qam (by simpa using hj')]
  simp) (fun j hj=>by
  rw[qam (by omega)]
  exact g0 j _ (qam (by omega))) (fun j u hu=>by
  have hj:=(qaa.1 hu).1
  obtain⟨c,hcc,hr⟩:=l2 j u hu
  rw[qam (by omega)]
  exact hr _ (g2 j c _ hcc (qam (by omega))))
 refine wpListIn_plain rfl fun K' hK=>?_
 unfold Oper.wpIn
 refine⟨fun _ _=>trivial,?_⟩
 rw[za6 hrun1 (by intro d e;cases e)]
 simp only[Oper.uponIn]
 refine hK _ _ ?_
 refine wpListIn_plain rfl fun K2 hK2=>?_
 unfold Oper.wpIn
 refine⟨fun _ _=>trivial,?_⟩
 rw[show a.put (some d) pv=a0 from rfl,za6 hrunm (by intro d e;cases e)]
 simp only[Oper.uponIn]
 refine hK2 _ _ ?_
 refine wpListIn_plain rfl fun K3 hK3=>?_
 unfold Oper.wpIn
 refine⟨fun _ _=>trivial,?_⟩
 rw[show a0.put (some j2) (a0.eval x)=a1 from rfl,za6 hrun2 (by intro d e;cases e)]
 simp only[Oper.uponIn]
 refine hK3 _ _ ?_
 have hE:ERel m' n ((d,.cp ts 0)::(j2,vx)::(d,.any)::env) a1.tmps:=by
  refine⟨hE1.1,fun i v hv=>?_⟩
  by_cases hi:d=i
  ·subst hi
   rw[Env.zat]at hv
   cases hv
   refine⟨pv,?_,f5⟩
   have hlt:d<a.tmps.size:=by rw[h3.1];exact qag hd
   simp[a1,a0,Act.put,qaK,hlt,hnj]
  ·rw[Env.zak _ _ hi]at hv
   exact(hE1.step h2 f2).2 i v hv
 have:=k φ m' a1 (by rw[f4,h1]) f3 hE (by simpa [a1,a0,Act.put]using h4.step h2 f2)
 rw[<-f1]
 exact TO.zeM f2 this
end rules
end Go.TL
namespace Go.Proofs.YthmbhfgflijapaaGreatDoor
open Go Go.TL
attribute [local irreducible] TR TO Then zag RetK Sound zab Kf GG zaK
abbrev zct (es:List En)(n q:Int):Blk:=.cells [.t (ensT es),.i n,.i q]
abbrev zih (n q c:Int):SV:=.ifc 128 (.t (.ag [T.i n,T.i q,T.i c]))
abbrev LS (f:FuncId)(args:List SV)(es:List En)(n q c:Int):Prop:=Sound Tryz.prog f (.ref 0 0::args) [zct es n q] (Err c (.tup []) (zih n q c) [zct es n q])
theorem retF{rs:List ResultVar}{env:Env}{H:Heap}{es:List En}{n q c c':Int}(h0:c'≠0)(hc:c'=c)(hN:Nat.ble 1 H.length=true)(hb:zaa H.length H=true):
  RetK tab rs 1 (Err0 c (.tup []) (zih n q c) [zct es n q] 1) (.panic (zih n q c')) env H:=by
 subst hc;exact RetK.errP h0 hN rfl hb
theorem retN{env:Env}{H:Heap}{es:List En}{n q c:Int}(hc:c=0)(hk:Nat.ble 1 H.length=true)(ht:H.take 1=[zct es n q]):
  RetK tab [] 1 (Err0 c (.tup []) (zih n q c) [zct es n q] 1) .normal env H:=RetK.errN (vs:=[]) hc rfl (Le.refl _) rfl hk rfl ht rfl
theorem we{G Q1 Q2:Prop}{f:FuncId}{cargs:List SV}{v pv:SV}{c:Int}{Hc H1:Heap}(hs:Sound Tryz.prog f cargs Hc (Err c v pv H1))(k1:Q1)(k2:Q2)(h:Sound Tryz.prog f cargs Hc (Err c v pv H1)->Hold Q1->Hold Q2->G:=by
  intro hs k1 k2
  first
  | (apply TO.zkg 1 hs;(iterate 3 exact rfl);exact zqa;(iterate 9 exact rfl);exact k1.p;exact k2.p)
  | (apply TO.zkg 2 hs;(iterate 3 exact rfl);exact zqa;(iterate 9 exact rfl);exact k1.p;exact k2.p)):G:=h hs ⟨k1⟩ ⟨k2⟩
theorem zpX(es:List En)(n q e:Int):Sound Tryz.prog 54 [.ref 0 0,.b true,.i e] [zct es n q] (fun r H'=>r= .ret (.tup [])/\H'=[zct es n q]):=by
 refine so Tryz.func54 ?_
 repeat' (first|refine wu ?_|exact wkc|intro hc|refine wk2 ?_ ?_|fail)
 exact RetK.zkG 1 (vs:=[]) rfl (Le.refl _) rfl rfl rfl rfl rfl ⟨rfl,rfl⟩
theorem zpW(es:List En)(n q e:Int)(he:e≠0):LS 54 [.b false,.i e] es n q e:=by
 refine Sound.err rfl (fun _=>rfl) ?_
 refine so Tryz.func54 ?_
 repeat' (first|refine wu ?_|exact wkc|intro hc|refine wk2 ?_ ?_|(apply TO.makeInterface;exact rfl;kernel_rfl;exact rfl)|(apply TO.panic;exact rfl)|fail)
 exact retF he rfl rfl rfl
section
variable {n:Nat}{env:Env}{K:TK}{all:Array Oper}{rest:List Oper}{d:Nat}{ty:TypeId}{pos:String}{aft:Array Edge}{es:List En}{a q e:Int}{H Hr:Heap}{args:Array Operand}{ts:Array TypeId}
theorem TO.zwD(hd:Nat.ble (d+1) n=true)(ha:env.vals args.toList=some [.ref 0 0,.b true,.i e])(h1:H=zct es a q::Hr)(k:TO false Tryz.prog n all rest ((d,.tup [])::env) H K):
  TO false Tryz.prog n all (⟨some d,.call { callee:=.value (.func 54),args:=args,argTypes:=ts },ty,pos,aft,none⟩::rest) env H K:=by
 subst h1
 exact TO.zbH 1 (zpX es a q e) hd rfl ha ⟨Le.refl _,Le.refl _,Le.refl _,trivial⟩ (by simp) rfl rfl rfl rfl rfl rfl (by simp[zbg]) k
theorem TO.zvs(hd:Nat.ble (d+1) n=true)(ha:env.vals args.toList=some [.ref 0 0,.b false,.i e])(h1:H=zct es a q::Hr)(he:e≠0)(k:K (.panic (zih a q e)) env (.dead::Hr)):
  TO false Tryz.prog n all (⟨some d,.call { callee:=.value (.func 54),args:=args,argTypes:=ts },ty,pos,aft,none⟩::rest) env H K:=by
 subst h1
 exact TO.zkg 1 (zpW es a q e he) hd rfl ha ⟨Le.refl _,Le.refl _,Le.refl _,trivial⟩ (by simp) rfl rfl rfl rfl rfl rfl rfl (by simp[zbg];rfl) (fun h=>absurd h he) (fun _=>k)
end
theorem wm{G Q:Prop}(k:Q)(h:Hold Q->G:=by
  intro k
  first
  | (apply Go.Proofs.YthmbhfgflijapaaGreatDoor.TO.zwD;(iterate 3 exact rfl);exact k.p)
  | (apply Go.Proofs.YthmbhfgflijapaaGreatDoor.TO.zvs;(iterate 3 exact rfl);decide;exact k.p)
  | (apply Go.Proofs.YthmbhfgflijapaaGreatDoor.TO.zvs;(iterate 3 exact rfl);assumption;exact k.p)):G:=h ⟨k⟩
theorem zbL(es:List En)(n q:Int)(s:Str):LS 86 [.s s] es n q (zcb s):=by
 refine Sound.err rfl (fun _=>rfl) ?_
 have hi:=zhw s
 unfold zcb
 refine so Tryz.func86 ?_
 repeat' (first|refine wu ?_|exact wkc|intro hc|refine wk2 ?_ ?_|refine wb hi ?_ ?_|refine wm ?_|fail)
 ·exact retN (if_pos hc) rfl rfl
 ·apply retF
  ·decide
  ·rw[if_neg (by simp[hc])]
  ·exact rfl
  ·exact rfl
theorem zfb(es:List En)(n q e:Int):LS 90 [.i e] es n q e:=by
 refine Sound.err rfl (fun _=>rfl) ?_
 refine so Tryz.func90 ?_
 repeat' (first|refine wu ?_|exact wkc|intro hc|refine wk2 ?_ ?_|refine wm ?_|fail)
 ·exact retN hc rfl rfl
 ·exact retF hc rfl rfl rfl
theorem zaJ{α:Type}{f:α->Int}{l:List α}{k:Nat}(hk:k<l.length)(h:zac f (l.take k)=0)(hn:f l[k]≠0):zac f l=f l[k]:=by
 conv=>lhs;rw[<-qaV k l]
 rw[zcR,if_pos h,qaT hk,zac,if_neg hn]
theorem zaz{α:Type}{f:α->Int}{l:List α}{k:Nat}(hk:k<l.length)(h:zac f (l.take k)=0)(hz:f l[k]=0):zac f (l.take (k+1))=0:=by
 rw[qax hk,zcR,if_pos h,zac,if_pos hz,zac]
theorem zaF{α:Type}{f:α->Int}{l:List α}(h:zac f (l.take l.length)=0):zac f l=0:=by rwa [qap]at h
theorem at_s{l:List Str}{k:Nat}(h:k<l.length):(l.map T.s)[k]?=some (T.s l[k]):=by simp[h]
theorem zuY{l:List OnC}{k:Nat}(h:k<l.length):(l.map onT)[k]?=some (.ag [.s l[k].name,T.n l[k].t,T.n l[k].tag]):=zbj onT h
theorem zlY(es:List En)(n q:Int)(u:En)(hw:u.tags.length≤1000000000):LS 55 [.t (.ag [.s u.name,.sl 1 (u.tags.map T.s)])] es n q (zeK u):=by
 refine Sound.err rfl (fun _=>rfl) ?_
 have hi:=zbL es n q u.name
 have hml:(u.tags.map T.s).length=u.tags.length:=qab _
 have hz:zeK u=zeK u:=rfl
 conv at hz=>rhs;unfold zeK orE
 generalize zeK u=z at hz⊢
 refine so Tryz.func55 ?_
 repeat' (first|refine wu ?_|exact wkc|intro hc|refine wk2 ?_ ?_|refine we hi ?_ ?_|refine wm ?_|fail)
 all_goals first
  | (apply retF;assumption;(rw[hz];clear hi;grind);exact rfl;exact rfl)
  | (apply retF;decide;(rw[hz];clear hi;grind);exact rfl;exact rfl)
  | skip
 have hz2:z=zac zcb u.tags:=by rw[hz];clear hi;grind
 clear hz
 generalize u.tags=l at*
 refine TR.zaA l.length (fun k=>zac zcb (l.take k)=0) (fun k=>[(0,.ref 0 0),(23,.t (.sl 1 (l.map T.s))),(24,.i (l.map T.s).length),(25,.i k)]) (fun _=>[zct es n q]) rfl (fun k hlt ha=>?_) (fun ha=>?_)
 ·have hx:=at_s hlt
  have h1:=zaJ (f:=zcb) hlt ha
  have h2:=zaz (f:=zcb) hlt ha
  generalize l[k]=x at*
  have hs:=zbL es n q x
  repeat' (first|refine wu ?_|exact wkc|intro hc|refine wk2 ?_ ?_|refine we hs ?_ ?_|fail)
  ·exact zab.zaI hlt (h2 hc)
  ·refine zab.panic ?_
   repeat' (first|refine wu ?_|exact wkc|intro hc|refine wk2 ?_ ?_|fail)
   exact retF hc (by rw[hz2,h1 hc]) rfl rfl
 ·repeat' (first|refine wu ?_|exact wkc|intro hc|refine wk2 ?_ ?_|fail)
  exact retN (by rw[hz2,zaF ha]) rfl rfl
theorem zdc(es:List En)(n q:Int)(l:List Decl)(port:Bool)(hw:(zap l).w≤1000000000):LS 87 [.t (zap l),.b port] es n q (zac (zfn es port) l):=by
 refine Sound.err rfl (fun _=>rfl) ?_
 have hml:(l.map zav).length=l.length:=qab _
 have hlb:l.length≤1000000000:=qaq (qbY (zaB zav 3 l)) hw
 refine so Tryz.func87 ?_
 repeat' (first|refine wu ?_|exact wkc|intro hc|refine wk2 ?_ ?_|fail)
 refine TR.zaA l.length (fun k=>zac (zfn es port) (l.take k)=0) (fun k=>[(0,.ref 0 0),(2,.b port),(10,.t (zap l)),(11,.i (l.map zav).length),(12,.i k)]) (fun _=>[zct es n q]) rfl (fun k hlt ha=>?_) (fun ha=>?_)
 ·have hx:=zdK hlt
  have h1:=zaJ (f:=zfn es port) hlt ha
  have h2:=zaz (f:=zfn es port) hlt ha
  have hcl:=zaB onT 3 l[k].clock
  have hwx:=zaN (f:=zav) (sz:=3) (qaf hlt)
  rw[show zav l[k]= .ag (zfm l[k]) from rfl,w_ag]at hwx
  generalize l[k]=x at*
  simp only[zfm,qah,qaC,qay,qaQ]at hwx
  have hmo:(x.clock.map onT).length=x.clock.length:=qab _
  have hs:=zbL es n q x.name
  have hsz:=zdF es x.ty
  unfold zfm at hx
  have hz:zfn es port x=zfn es port x:=rfl
  conv at hz=>rhs;unfold zfn orE
  generalize zfn es port x=z at hz h1 h2
  cases port
  all_goals
   repeat' (first|refine wu ?_|exact wkc|intro hc|refine wk2 ?_ ?_|refine we hs ?_ ?_|refine wm ?_|refine wv hsz ?_|fail)
  all_goals first
   | (refine zab.panic ?_
      refine wk ?_
      apply retF
      first|assumption|decide
      ·clear hs hsz;grind
      exact rfl
      exact rfl)
   | skip
  all_goals
   have hz2:z=zac (onE es) x.clock:=by clear hs hsz;grind
   clear hz hs hsz
   generalize x.clock=cl at*
   refine TR.zaA cl.length (fun j=>zac (onE es) (cl.take j)=0) (fun j=>[(0,.ref 0 0),(2,.b _),(10,.t (zap l)),(11,.i (l.map zav).length),(12,.i k),(47,.t (.sl 3 (cl.map onT))),(48,.i (cl.map onT).length),(49,.i j)]) (fun _=>[zct es n q]) rfl (fun j hlt2 ha2=>?_) (fun ha2=>?_)
   ·have hx2:=zuY hlt2
    have g1:=zaJ (f:=onE es) hlt2 ha2
    have g2:=zaz (f:=onE es) hlt2 ha2
    generalize cl[j]=o at*
    have hs:=zbL es n q o.name
    have hh:=zft es o.t o.tag
    have hz:onE es o=onE es o:=rfl
    conv at hz=>rhs;unfold onE orE
    generalize onE es o=z3 at hz g1 g2
    repeat' (first|refine wu ?_|exact wkc|intro hc|refine wk2 ?_ ?_|refine we hs ?_ ?_|refine wm ?_|refine wb hh ?_ ?_|fail)
    all_goals first
     | exact zab.zaI hlt2 (g2 (by clear hs hh;grind))
     | (refine zab.panic ?_
        refine wk ?_
        refine zab.panic ?_
        refine wk ?_
        apply retF
        first|assumption|decide
        ·clear hs hh;grind
        exact rfl
        exact rfl)
   ·have hz3:=zaF ha2
    refine wk ?_
    repeat' (first|refine wu ?_|exact wkc|intro hc|refine wk2 ?_ ?_|fail)
    exact zab.zaI hlt (h2 (by rw[hz2,hz3]))
 ·repeat' (first|refine wu ?_|exact wkc|intro hc|refine wk2 ?_ ?_|fail)
  exact retN (zaF ha) rfl rfl
def allF(g:Ex->Bool)(H1:Heap)(_:List Ex)(x:Ex):Out:=if g x=true then .go else .jump .ret H1
theorem znx(g:Ex->Bool)(H1:Heap):∀(l pre:List Ex),zbh (allF g H1) pre l=if l.all g=true then .go else .jump .ret H1
 | [],pre=>by simp[zbh]
 | x::l,pre=>by
   simp only[zbh,allF,qbF,qau]
   by_cases h:g x=true
   ·simp only[h,if_true,true_and];exact znx g H1 l _
   ·simp[h]
theorem zhZ(e:Ex)(h:wEx e≤1000000000):Pure Tryz.prog 164 [.t (.ag (exC e))] (.b (sless e)):=by
 have hs:=zdx e
 rw[zae]at hs
 have hc0:exC e=[T.n e.kind,T.n e.op,T.n e.t,T.n e.v,.s e.name,.sl 6 (e.args.map exT)]:=rfl
 rw[hc0]at hs⊢
 unfold sless
 refine so Tryz.func164 ?_
 repeat' (first|refine wkb ?_|refine wk ?_|exact wkc|intro hc|refine wk2 ?_ ?_|refine wv hs ?_|fail)
 refine TR.zep e (fun _=>[.cells [.b false]]) (allF (fun x=>zlf x.kind.1) [.cells [.b false]]) rfl h rfl rfl rfl (fun _=>⟨rfl,rfl⟩) (fun pre x=>?_) (fun fn pre x post hw=>?_) (fun fn=>?_)
 ·unfold allF
  split <;> rename_i hq <;> split at hq <;> cases hq
  ·trivial
  ·exact⟨rfl,rfl⟩
 ·have hcx:exC x=[T.n x.kind,T.n x.op,T.n x.t,T.n x.v,.s x.name,.sl 6 (x.args.map exT)]:=rfl
  rw[hcx]
  repeat' (first|refine wu ?_|exact wkc|intro hc|refine wk2 ?_ ?_|fail)
  refine⟨rfl,?_⟩
  repeat' (first|refine wu ?_|exact wkc|intro hc|refine wk2 ?_ ?_|fail)
  all_goals first
   | (refine⟨_,?_,rfl,rfl⟩
      rw[allF,if_neg (by clear hs hc0 hcx;simp[zlf];omega)]
      rfl)
   | (refine⟨?_,rfl,rfl⟩
      rw[allF,if_pos (by clear hs hc0 hcx;simp[zlf];omega)])
 ·rw[znx]
  by_cases h2:((flat e).all fun x=>zlf x.kind.1)=true
  ·exact zwdr
  ·rw[if_neg h2,Bool.not_eq_true _ |>.mp h2]
   simp only[]
   repeat' (first|refine wu ?_|exact wkc|intro hc|refine wk2 ?_ ?_|fail)
   exact wkr
end Go.Proofs.YthmbhfgflijapaaGreatDoor
