import Derived.Test.YtdicfgideclbdaaGreatDoorAk1
set_option maxHeartbeats 64000000
set_option linter.all false
namespace Go.TL
open Go
variable {mc m m0:M}{r:Nat->Nat}{p:Place}{l:List Nat}{j a k s0 sz d:Nat}{Hc H' H:Heap}{A:Foot}{u:T}{vs caps cargs:List SV}{ac:Act}{f y:Operand}{fid:FuncId}{R:Res->Heap->Prop}{v':SV}{tmps:Array Value}{w':World}{x:Value}{c:Code}{t' ty:TypeId}{rs:List ResultVar}{ik ik':IntKind}{ie:TyI}{es:List T}{P:Program}{env:Env}{K:TK}{all:Array Oper}{rest:List Oper}{aft:Array Edge}{q:Bool}
mutual
def SV.ren (r:Nat->Nat):SV->SV
 | .t u=>.t u
 | .sl sz es id=>.sl sz es (r id)
 | .ms sz id off len=>.ms sz (r id) off len
 | .cp cs off=>.cp cs off
 | .ref id off=>.ref (r id) off
 | .tref e n id off=>.tref e n (r id) off
 | .rw id len=>.rw (r id) len
 | .mp id=>.mp (r id)
 | .yl id=>.yl (r id)
 | .ag cs=>.ag (rens r cs)
 | .tup cs=>.tup (rens r cs)
 | .fn f cs=>.fn f (rens r cs)
 | .bnd f cs=>.bnd f (rens r cs)
 | .ifc ty x=>.ifc ty (SV.ren r x)
 | .any=>.any
def rens (r:Nat->Nat):List SV->List SV
 | []=>[]
 | c::cs=>SV.ren r c::rens r cs
end
mutual
def SV.under (k:Nat):SV->Bool
 | .t _| .cp _ _| .any=>true
 | .sl _ _ id| .ms _ id _ _| .ref id _| .tref _ _ id _| .rw id _| .mp id| .yl id=>Nat.blt id k
 | .ag cs| .tup cs| .fn _ cs| .bnd _ cs=>unders k cs
 | .ifc _ x=>SV.under k x
def unders (k:Nat):List SV->Bool
 | []=>true
 | c::cs=>SV.under k c && unders k cs
end
theorem zbN(r:Nat->Nat):∀cs,rens r cs=cs.map (SV.ren r)
 | []=>rfl
 | c::cs=>by simp[rens,zbN r cs]
theorem zfe{k:Nat}:∀ {cs:List SV},unders k cs=true->∀(i:Nat) c,cs[i]?=some c->c.under k=true
 | [],_,i,c,h=>by simp at h
 | a::cs,hb,i,c,h=>by
   simp only[unders,qar]at hb;cases i with
   | zero=>simp at h;subst h;exact hb.1
   | succ i=>exact zfe hb.2 i c (by simpa using h)
def Blk.ren(r:Nat->Nat):Blk->Blk
 | .cells cs=>.cells (rens r cs)
 | .loop fn st pe n env ps aas bo=>.loop fn st pe n (env.map fun x=>(x.1,x.2.ren r)) ps aas bo
 | b=>b
def Blk.under(k:Nat):Blk->Bool
 | .cells cs=>unders k cs
 | .loop _ _ _ _ env _ _ _=>env.all fun x=>x.2.under k
 | _=>true
theorem Env.zkH(r:Nat->Nat):∀(env:Env) (i:Nat),Env.look (env.map fun x=>(x.1,x.2.ren r)) i=(env.look i).map (SV.ren r)
 | [],i=>rfl
 | (j,v)::env,i=>by
   simp only[qaf,Env.look];cases Nat.beq j i with
   | true=>rfl
   | false=>exact Env.zkH r env i
theorem Env.zoq{f:SV->Bool}:∀ {env:Env},(env.all fun x=>f x.2)=true->∀i v,env.look i=some v->f v=true
 | [],_,i,v,h=>by simp[Env.look]at h
 | (j,u)::r,hs,i,v,h=>by
   simp only[qbH,qar]at hs;by_cases hi:j=i
   ·subst hi;rw[Env.zap]at h;cases h;exact hs.1
   ·rw[Env.zah _ _ hi]at h;exact Env.zoq (env:=r) hs.2 i v h
theorem Blk.zbU(r:Nat->Nat)(b:Blk):(b.ren r).live=b.live:=by cases b <;> rfl
theorem zc1(r:Nat->Nat)(b:Option Blk):tlOf (b.map (Blk.ren r))=tlOf b:=by
 cases b with
 | none=>rfl
 | some b=>cases b <;> simp[Blk.ren,tlOf]
structure Lies (mc m:M) (r:Nat->Nat):Prop where
 A:mc.A=m.A
 w:mc.w=m.w
 len:mc.β.length=mc.H.length
 β:∀(j:Nat) p,mc.β[j]?=some p->m.β[r j]?=some p
 H:∀(j:Nat) b,mc.H[j]?=some b->m.H[r j]?=some (b.ren r)
 inj:∀i j,i<mc.H.length->j<mc.H.length->r i=r j->i=j
 below:∀(j:Nat) b,mc.H[j]?=some b->b.under mc.H.length=true
theorem Lies.zcU(l:Lies mc m r){id:Nat}(hid:id<mc.H.length)(h:zfH m.H (r id)):zfH mc.H id:=by
 intro n hn;refine h n ?_;rw[<-hn,l.H id _ (qad hid),qad hid];exact zc1 r (some _)
theorem Lies.place(l:Lies mc m r){id:Nat}(hid:id<mc.H.length)(h:m.β[r id]?=some p):mc.β[id]?=some p:=by
 have:mc.β[id]?=some (mc.β[id]'(by rw[l.len];exact hid)):=qad _
 have h2:=l.β id _ this;rw[h]at h2;cases h2;exact this
theorem Lies.zd1(l:Lies mc m r):∀ {v:SV} {x:Value},SRel m (v.ren r) x->v.under mc.H.length=true->SRel mc v x:=by
 have list:∀(cs:List SV),(∀c∈cs,∀x,SRel m (c.ren r) x->c.under mc.H.length=true->SRel mc c x)->unders mc.H.length cs=true->∀(arr:Array Value),
   (∀(i:Nat) c y,(rens r cs)[i]?=some c->arr[i]?=some y->SRel m c y)->∀(i:Nat) c y,cs[i]?=some c->arr[i]?=some y->SRel mc c y:=by
  intro cs ih hb arr h i c y hc hy;refine ih c (qau hc) y (h i _ y ?_ hy) (zfe hb i c hc);rw[zbN,qan,hc];rfl
 suffices h:∀(v:SV),∀x,SRel m (v.ren r) x->v.under mc.H.length=true->SRel mc v x from fun{v x}=>h v x
 intro v
 refine SV.rec (motive_1:=fun v=>∀x,SRel m (v.ren r) x->v.under mc.H.length=true->SRel mc v x) (motive_2:=fun cs=>∀c∈cs,∀x,SRel m (c.ren r) x->c.under mc.H.length=true->SRel mc c x)
  ?_ ?_ ?_ ?_ ?_ ?_ ?_ ?_ ?_ ?_ ?_ ?_ ?_ ?_ ?_ ?_ ?_ v
 ·intro u x h _;simp only[SV.ren]at h;cases h with|t _ _ h=>exact .t _ _ (by rw[l.A,l.w];exact h)
 ·intro sz es id x h hb;simp only[SV.ren]at h;have hid:id<mc.H.length:=by simpa [SV.under,qbn]using hb
  cases h with
  | sl _ _ _ _ p h hp ho=>
    refine .sl _ _ _ _ p (by rw[l.A,l.w];exact h) (l.place hid hp) fun n hn=>ho n ?_
    rw[<-hn,l.H id _ (qad hid),qad hid];exact zc1 r (some _)
 ·intro sz id off len x h hb;simp only[SV.ren]at h;have hid:id<mc.H.length:=by simpa [SV.under,qbn]using hb
  cases h with
  | ms _ _ _ _ cap p hp hn hc hh=>exact .ms _ _ _ _ cap p (l.place hid hp) (l.zcU hid hn) hc hh
 ·intro cs off x h _;simp only[SV.ren]at h;cases h with
  | cp _ _ b o f h1 hA hw h=>exact .cp _ _ b o f h1 (by rw[l.A];exact hA) (by rw[l.w];exact hw) (fun j c hc=>by rw[l.A,l.w];exact h j c hc)
 ·intro id off x h hb;simp only[SV.ren]at h;have hid:id<mc.H.length:=by simpa [SV.under,qbn]using hb
  cases h with
  | ref _ _ p hp hn=>exact .ref _ _ p (l.place hid hp) (l.zcU hid hn)
 ·intro e n id off x h hb;simp only[SV.ren]at h;have hid:id<mc.H.length:=by simpa [SV.under,qbn]using hb
  cases h with
  | tref _ _ _ _ p hp hn h0 hs=>exact .tref _ _ _ _ p (l.place hid hp) (l.zcU hid hn) h0 (by rw[l.w];exact hs)
 ·intro id len x h hb;simp only[SV.ren]at h;have hid:id<mc.H.length:=by simpa [SV.under,qbn]using hb
  cases h with
  | rw _ _ _ p hp hx ho=>
    refine .rw _ _ _ p (l.place hid hp) hx fun n hn=>ho n ?_
    rw[<-hn,l.H id _ (qad hid),qad hid];exact zc1 r (some _)
 ·intro id x h hb;simp only[SV.ren]at h;have hid:id<mc.H.length:=by simpa [SV.under,qbn]using hb
  cases h with
  | mp _ p hp hn=>exact .mp _ p (l.place hid hp) (l.zcU hid hn)
 ·intro id x h hb;simp only[SV.ren]at h;have hid:id<mc.H.length:=by simpa [SV.under,qbn]using hb
  cases h with
  | yl _ p hp hn=>
    exact .yl _ p (l.place hid hp) (l.zcU hid hn)
 ·intro cs ih x h hb;simp only[SV.ren]at h;cases h with
  | ag _ arr hs h1 h=>exact .ag _ _ (by rw[hs,zbN];simp) h1 (list cs ih hb arr h)
 ·intro cs ih x h hb;simp only[SV.ren]at h;cases h with
  | tup _ arr hs h=>exact .tup _ _ (by rw[hs,zbN];simp) (list cs ih hb arr h)
 ·intro f cs ih x h hb;simp only[SV.ren]at h;cases h with
  | fn _ _ arr hs h=>exact .fn _ _ _ (by rw[hs,zbN];simp) (list cs ih hb arr h)
 ·intro f cs ih x h hb;simp only[SV.ren]at h;cases h with
  | bnd _ _ arr hs h=>exact .bnd _ _ _ (by rw[hs,zbN];simp) (list cs ih hb arr h)
 ·intro ty s ih x h hb;simp only[SV.ren]at h;cases h with
  | ifc _ _ y h=>exact .ifc _ _ _ (ih y h hb)
 ·intro x _ _;exact .any x
 ·intro c hc;cases hc
 ·intro a cs h1 h2 c hc;cases hc with
  | head=>exact h1
  | tail _ h=>exact h2 c h
theorem Lies.hrel(l:Lies mc m r)(hm:HRel m):HRel mc where
 len:=l.len
 blk:=fun i p k h1 h2=>by
  have hb:=hm.blk (r i) p _ (l.β i p h1) (l.H i k h2);cases k with
  | cells cs=>
    obtain⟨b1,b2,b3⟩:=hb;have hbel:=l.below i _ h2;refine⟨by rw[zbN]at b1;simpa using b1,by rw[l.w];exact b2,fun j c hc=>?_⟩;obtain⟨y,y1,y0,y2⟩:=b3 j (c.ren r) (by rw[zbN,qan,hc];rfl);exact⟨y,by rw[l.w];exact y1,y0,l.zd1 y2 (zfe hbel j c hc)⟩
  | tail n=>show ∀o,_;rw[l.w];exact hb
  | row e cs=>
    obtain⟨b1,b2,b3⟩:=hb;refine⟨by rw[l.w];exact b1,by rw[l.w];exact b2,fun j c hc=>?_⟩;obtain⟨y,y1,y0,y2⟩:=b3 j c hc;exact⟨y,by rw[l.w];exact y1,y0,by rw[l.A,l.w];exact y2⟩
  | map kt vt es=>
    obtain⟨b1,b2,a,clock,b3,b4,b5⟩:=hb;exact⟨b1,b2,a,clock,by rw[l.w];exact b3,b4,by rw[l.A,l.w];exact b5⟩
  | loop fn st pe n env ps aas bo=>
    obtain⟨b1,b2,L,b3,b4,b5⟩:=hb;have hbel:=l.below i _ h2;refine⟨b1,b2,L,by rw[l.w];exact b3,b4,b5.1,fun j v hv=>?_⟩;obtain⟨x,x1,x2⟩:=b5.2 j (v.ren r) (by rw[Env.zkH,hv];rfl);exact⟨x,x1,l.zd1 x2 (Env.zoq (f:=fun v=>v.under mc.H.length) hbel j v hv)⟩
  | dead=>trivial
 apart:=fun i j p q k k' hij h1 h2 h3 h4 hk hl=>by
  have hi:=(qaa.1 h2).1;have hj:=(qaa.1 h4).1;exact hm.apart (r i) (r j) p q _ _ (fun e=>hij (l.inj i j hi hj e)) (l.β i p h1) (l.H i k h2) (l.β j q h3) (l.H j k' h4) (by rw[Blk.zbU];exact hk) (by rw[Blk.zbU];exact hl)
 still:=fun b o h=>by
  rintro⟨i,p,k,h1,h2,h3,h4⟩;exact hm.still b o (by rw[<-l.A];exact h) ⟨r i,p,_,l.β i p h1,l.H i k h2,by rw[Blk.zbU];exact h3,h4⟩
 inA:=fun b o h=>by rw[l.w];exact hm.inA b o (by rw[<-l.A];exact h)
 inO:=fun i p k h1 h2 hk hlt=>by rw[l.w];exact hm.inO (r i) p _ (l.β i p h1) (l.H i k h2) (by rw[Blk.zbU];exact hk) hlt
 glob:=by rw[l.A,l.w];exact hm.glob
theorem Lies.own(l:Lies mc m r){b o:Nat}(h:Own mc b o):Own m b o:=by
 obtain⟨i,p,k,h1,h2,h3,h4⟩:=h;exact⟨r i,p,_,l.β i p h1,l.H i k h2,by rw[Blk.zbU];exact h3,h4⟩
def patch{α:Type}:List α->List Nat->List α->List α
 | G,[],bs=>G++bs
 | G,i::l,b::bs=>patch (G.set i b) l bs
 | G,_::_,[]=>G
theorem zdd{α:Type}:∀(l:List Nat) (G bs:List α) (i:Nat),i<G.length->i ∉ l->(patch G l bs)[i]?=G[i]?
 | [],G,bs,i,hi,_=>by rw[patch,qat hi]
 | a::l,G,[],i,hi,_=>rfl
 | a::l,G,b::bs,i,hi,hn=>by
   rw[patch,zdd l (G.set a b) bs i (by simpa using hi) (fun h=>hn (qai _ h)),qaW];intro e;exact hn (by rw[e];exact qah)
theorem zhA{α:Type}:∀(l:List Nat) (G bs:List α) (j i:Nat),l.Nodup->(∀x∈l,x<G.length)->l.length≤bs.length->l[j]?=some i->(patch G l bs)[i]?=bs[j]?
 | [],G,bs,j,i,_,_,_,h=>by simp at h
 | a::l,G,[],j,i,_,_,hl,_=>by simp at hl
 | a::l,G,b::bs,j,i,hnd,hlt,hl,h=>by
   rw[patch];have hnd':=qbz.1 hnd;cases j with
   | zero=>
     simp at h;subst h
     rw[zdd l _ _ _ (by simpa using hlt a qah) hnd'.1,qaC (hlt a qah)];rfl
   | succ j=>exact zhA l (G.set a b) bs j i hnd'.2 (fun x hx=>by simpa using hlt x (qai _ hx)) (by simpa using hl) (by simpa using h)
theorem zis{α:Type}:∀(l:List Nat) (G bs:List α) (t:Nat),l.length≤bs.length->(patch G l bs)[G.length+t]?=bs[l.length+t]?
 | [],G,bs,t,_=>by rw[patch,qas oA];simp
 | a::l,G,[],t,hl=>by simp at hl
 | a::l,G,b::bs,t,hl=>by
   rw[patch]
   have:=zis l (G.set a b) bs t (by simpa using hl)
   simp only[qcs]at this;rw[this,show(a::l).length+t=(l.length+t)+1 from oF];rfl
theorem zf9{α:Type}:∀(l:List Nat) (G bs:List α),l.length≤bs.length->(patch G l bs).length=G.length+(bs.length-l.length)
 | [],G,bs,_=>by simp[patch]
 | a::l,G,[],hl=>by simp at hl
 | a::l,G,b::bs,hl=>by rw[patch,zf9 l _ _ (by simpa using hl)];simp
def names(l:List Nat)(N:Nat)(j:Nat):Nat:=
 match l[j]? with
 | some i=>i
 | none=>N+(j-l.length)
def cutM(m:M)(l:List Nat)(Hc:Heap):M:=⟨m.A,l.map fun i=>(m.β[i]?).getD ⟨0,0,0⟩,Hc,m.w⟩
structure Hands (G:Heap) (l:List Nat) (Hc:Heap):Prop where
 nodup:l.Nodup
 lt:∀x∈l,x<G.length
 len:l.length=Hc.length
 H:∀(j i:Nat) b,l[j]?=some i->Hc[j]?=some b->G[i]?=some (b.ren (names l G.length))
 under:∀(j:Nat) b,Hc[j]?=some b->b.under Hc.length=true
theorem zbG{N i:Nat}(h:l[j]?=some i):names l N j=i:=by simp[names,h]
theorem zil{N:Nat}(h:l.length≤j):names l N j=N+(j-l.length):=by simp[names,qa8 h]
theorem zsE(hn:l.Nodup){i:Nat}(h1:l[i]?=some a)(h2:l[j]?=some a):i=j:=by
 obtain⟨g1,g2⟩:=qaa.1 h1;obtain⟨g3,g4⟩:=qaa.1 h2;exact(List.getElem_inj hn).1 (by rw[g2,g4])
theorem zhy(hm:HRel m)(h:Hands m.H l Hc):Lies (cutM m l Hc) m (names l m.H.length) where
 A:=rfl
 w:=rfl
 len:=by simp[cutM,h.len]
 β:=fun j p hp=>by
  simp only[cutM,qan]at hp;cases hj:l[j]? with
  | none=>rw[hj]at hp;cases hp
  | some i=>
    rw[hj]at hp;rw[zbG hj];have hlt:=h.lt i (qau hj)
    have:m.β[i]?=some (m.β[i]'(by rw[hm.len];exact hlt)):=qad _
    simp only[qaT,this]at hp;rw[this];simpa using hp
 H:=fun j b hb=>by
  have hjl:=(qaa.1 hb).1;have hj:l[j]?=some (l[j]'(by rw[h.len];exact hjl)):=qad _;rw[zbG hj];exact h.H j _ b hj hb
 inj:=fun i j hi hj e=>by
  have h1:l[i]?=some (l[i]'(by rw[h.len];exact hi)):=qad _;have h2:l[j]?=some (l[j]'(by rw[h.len];exact hj)):=qad _;rw[zbG h1,zbG h2]at e;exact zsE h.nodup h1 (by rw[e];exact h2)
 below:=h.under
def back(m mc':M)(l:List Nat):M:=⟨mc'.A,patch m.β l mc'.β,patch m.H l (mc'.H.map (Blk.ren (names l m.H.length))),mc'.w⟩
section back
variable {m mc':M}{l:List Nat}{Hc:Heap}
theorem zfJ(hm:HRel m)(h:Hands m.H l Hc)(hl:l.length≤mc'.β.length)(j:Nat):(back m mc' l).β[names l m.H.length j]?=mc'.β[j]? :=by
 by_cases hj:j<l.length
 ·have h1:l[j]?=some l[j]:=qad hj;rw[zbG h1];exact zhA l m.β mc'.β j _ h.nodup (fun x hx=>by rw[hm.len];exact h.lt x hx) hl h1
 ·rw[zil oA,<-hm.len]
  have:=zis l m.β mc'.β (j-l.length) hl
  exact zwfd
theorem zlp(h:Hands m.H l Hc)(hl:l.length≤mc'.H.length)(j:Nat):(back m mc' l).H[names l m.H.length j]?=(mc'.H[j]?).map (Blk.ren (names l m.H.length)):=by
 rw[<-qan];by_cases hj:j<l.length
 ·have h1:l[j]?=some l[j]:=qad hj;rw[zbG h1];exact zhA l m.H _ j _ h.nodup h.lt (by simpa using hl) h1
 ·rw[zil oA]
  have:=zis l m.H (mc'.H.map (Blk.ren (names l m.H.length))) (j-l.length) (by simpa using hl)
  exact zwfd
theorem zdS(hm:HRel m)(h:Hands m.H l Hc)(hmc:HRel mc')(hl:l.length≤mc'.H.length){i:Nat}{k:Blk}(h1:(back m mc' l).β[i]?=some p)(h2:(back m mc' l).H[i]?=some k):
  (∃j k0,names l m.H.length j=i/\mc'.β[j]?=some p/\mc'.H[j]?=some k0/\k=k0.ren (names l m.H.length))\/(i<m.H.length/\i ∉ l/\m.β[i]?=some p/\m.H[i]?=some k):=by
 have hlβ:l.length≤mc'.β.length:=by rw[hmc.len];exact hl
 have from_j:∀j,names l m.H.length j=i->∃j k0,names l m.H.length j=i/\mc'.β[j]?=some p/\mc'.H[j]?=some k0/\k=k0.ren (names l m.H.length):=by
  intro j hj;rw[<-hj,zfJ hm h hlβ]at h1;rw[<-hj,zlp h hl]at h2;cases hk:mc'.H[j]? with
  | none=>rw[hk]at h2;cases h2
  | some k0=>rw[hk]at h2;cases h2;exact⟨j,k0,hj,h1,hk,rfl⟩
 by_cases hi:i<m.H.length
 ·by_cases hil:i∈l
  ·obtain⟨j,hj⟩:=qbg hil;exact .inl (from_j j (zbG hj))
  ·refine .inr ⟨hi,hil,?_,?_⟩
   ·rw[<-h1];exact(zdd l m.β mc'.β i (by rw[hm.len];exact hi) hil).symm
   ·rw[<-h2];exact(zdd l m.H _ i hi hil).symm
 ·refine .inl (from_j (l.length+(i-m.H.length)) ?_);rw[zil oA];omega
theorem zeB(hm:HRel m)(h:Hands m.H l Hc)(hmc:HRel mc')(hl:l.length≤mc'.H.length):∀ {v:SV} {x:Value},SRel mc' v x->SRel (back m mc' l) (v.ren (names l m.H.length)) x:=by
 have hlβ:l.length≤mc'.β.length:=by rw[hmc.len];exact hl
 have nt:∀id,zfH mc'.H id->zfH (back m mc' l).H (names l m.H.length id):=by
  intro id hn n hk;rw[zlp h hl,zc1]at hk;exact hn n hk
 have list:∀(cs:List SV) (arr:Array Value),(∀(i:Nat) c y,cs[i]?=some c->arr[i]?=some y->SRel (back m mc' l) (c.ren (names l m.H.length)) y)->
   ∀(i:Nat) c y,(rens (names l m.H.length) cs)[i]?=some c->arr[i]?=some y->SRel (back m mc' l) c y:=by
  intro cs arr ih i c y hc hy;rw[zbN,qan]at hc;cases hq:cs[i]? with
  | none=>rw[hq]at hc;cases hc
  | some c0=>rw[hq]at hc;cases hc;exact ih i c0 y hq hy
 intro v x hs
 induction hs with
 | t t x h=>exact .t t x h
 | sl sz es id x p h' hp ho=>
   refine .sl sz es _ x p h' (by rw[zfJ hm h hlβ];exact hp) fun n hn=>ho n ?_
   rw[zlp h hl,zc1]at hn;exact hn
 | rw id len x p hp hx ho=>
   refine .rw _ len x p (by rw[zfJ hm h hlβ];exact hp) hx fun n hn=>ho n ?_
   rw[zlp h hl,zc1]at hn;exact hn
 | tref e n id off p hp hn h0 hs=>exact .tref e n _ off p (by rw[zfJ hm h hlβ];exact hp) (nt _ hn) h0 hs
 | ms sz id off len cap p hp hn hc hh=>exact .ms sz _ off len cap p (by rw[zfJ hm h hlβ];exact hp) (nt _ hn) hc hh
 | cp cs off b o f h1 hA hw h'=>exact .cp cs off b o f h1 hA hw h'
 | ref id off p hp hn=>exact .ref _ off p (by rw[zfJ hm h hlβ];exact hp) (nt _ hn)
 | mp id p hp hn=>exact .mp _ p (by rw[zfJ hm h hlβ];exact hp) (nt _ hn)
 | yl id p hp hn=>exact .yl _ p (by rw[zfJ hm h hlβ];exact hp) (nt _ hn)
 | ag cs arr hs h1 _ ih=>exact .ag _ arr (by rw[zbN];simpa using hs) h1 (list cs arr ih)
 | tup cs arr hs _ ih=>exact .tup _ arr (by rw[zbN];simpa using hs) (list cs arr ih)
 | fn f cs arr hs _ ih=>exact .fn f _ arr (by rw[zbN];simpa using hs) (list cs arr ih)
 | bnd f cs arr hs _ ih=>exact .bnd f _ arr (by rw[zbN];simpa using hs) (list cs arr ih)
 | ifc ty s x _ ih=>exact .ifc ty _ x ih
 | any x=>exact .any x
theorem zrm(hm:HRel m)(h:Hands m.H l Hc)(s:Step (cutM m l Hc) mc')(hmc:HRel mc'):Step m (back m mc' l)/\HRel (back m mc' l):=by
 have lies:=zhy hm h
 have hl:l.length≤mc'.H.length:=by
  exact zwp
 have hlβ:l.length≤mc'.β.length:=by rw[hmc.len];exact hl
 have far:∀(i:Nat) p k,i<m.H.length->i ∉ l->m.β[i]?=some p->m.H[i]?=some k->k.live=true->∀o,p.lo≤o->o<p.hi->¬Own (cutM m l Hc) p.b o:=by
  rintro i p k hi hil h1 h2 hk o ho ho' ⟨j,q,kq,g1,g2,g3,g4,g5,g6⟩;have hjl:j<l.length:=by have:=(qaa.1 g1).1;simpa [cutM]using this
  have hj:l[j]?=some l[j]:=qad hjl
  have:=hm.apart i (names l m.H.length j) p q k _ (by rw[zbG hj];intro e;exact hil (by rw[e];exact qak hjl)) h1 h2 (lies.β j q g1) (lies.H j kq g2) hk (by rw[Blk.zbU];exact g3) g4.symm
  omega
 have st:Step m (back m mc' l):=by
  refine⟨s.os,s.tape,s.output,s.size,s.more,fun b o hA=>?_,fun b o hO=>?_,fun b o hb hn=>s.cell b o hb fun hO=>hn (lies.own hO),fun b o hb hn hc=>s.frozen b o hb (fun hO=>hn (lies.own hO)) hc,fun b hb hn=>s.block b hb fun o hO=>hn o (lies.own hO),s.shape,s.loop,s.isSome,fun i p hp=>?_⟩
  ·rcases s.fromA b o hA with g|g|g
   ·exact .inl g
   ·exact .inr (.inl (lies.own g))
   ·exact .inr (.inr g)
  ·obtain⟨i,p,k,g1,g2,g3,g4⟩:=hO;rcases zdS hm h hmc hl g1 g2 with ⟨j,k0,q1,q2,q3,rfl⟩|⟨q1,q2,q3,q4⟩
   ·rcases s.fromO b o ⟨j,p,k0,q2,q3,by rw[Blk.zbU]at g3;exact g3,g4⟩ with g|g
    ·exact .inl (lies.own g)
    ·exact .inr g
   ·exact .inl ⟨i,p,k,q3,q4,g3,g4⟩
  ·have hi:=(qaa.1 hp).1;by_cases hil:i∈l
   ·obtain⟨j,hj⟩:=qbg hil;have hjl:=(qaa.1 hj).1;have hcβ:(cutM m l Hc).β[j]?=some p:=by simp[cutM,hj,hp]
    obtain⟨p',hp',hid⟩:=s.ids j p hcβ;refine⟨p',by rw[<-zbG (N:=m.H.length) hj,zfJ hm h hlβ];exact hp',?_⟩;obtain⟨b,hb⟩:∃b,Hc[j]?=some b:=⟨_,qad (by rw[<-h.len];exact hjl)⟩;have hHi:=h.H j i b hj hb;have hHb:=zlp (mc':=mc') h hl j;rw[zbG hj]at hHb;rw[hHi,hHb];have hcH:(cutM m l Hc).H[j]?=some b:=hb;rw[hcH]at hid;unfold zaZ at hid⊢;rw[show tlOf (some (b.ren (names l m.H.length)))=tlOf (some b) from zc1 _ (some b),zc1];exact hid
   ·refine⟨p,by rw[<-hp];exact zdd l m.β mc'.β i hi hil,zeh ?_⟩;exact zdd l m.H _ i (by rw[<-hm.len];exact hi) hil
 refine⟨st,?_,fun i p k h1 h2=>?_,fun i j p q k k' hij h1 h2 h3 h4 hk hk'=>?_,fun b o hA=>?_,hmc.inA,fun i p k h1 h2 hk hlt=>?_,st.glob hm⟩
 ·show(patch m.β l mc'.β).length=(patch m.H l _).length;rw[zf9 l _ _ hlβ,zf9 l _ _ (by simpa using hl)];simp[hm.len,hmc.len]
 ·rcases zdS hm h hmc hl h1 h2 with ⟨j,k0,q1,q2,q3,rfl⟩|⟨q1,q2,q3,q4⟩
  ·have hb:=hmc.blk j p k0 q2 q3;cases k0 with
   | cells cs=>
     obtain⟨b1,b2,b3⟩:=hb;refine⟨by rw[zbN];simpa using b1,b2,fun j c hc=>?_⟩;rw[zbN,qan]at hc;cases hq:cs[j]? with
     | none=>rw[hq]at hc;cases hc
     | some c0=>
       rw[hq]at hc;cases hc
       obtain⟨y,y1,y0,y2⟩:=b3 j c0 hq;exact⟨y,y1,y0,zeB hm h hmc hl y2⟩
   | tail n=>exact hb
   | row e cs=>exact hb
   | map kt vt es=>exact hb
   | loop fn st pe n env ps aas bo=>
     obtain⟨b1,b2,L,b3,b4,b5⟩:=hb;refine⟨b1,b2,L,b3,b4,b5.1,fun j v hv=>?_⟩;rw[Env.zkH]at hv;cases hq:Env.look env j with
     | none=>rw[hq]at hv;cases hv
     | some v0=>
       rw[hq]at hv;cases hv
       obtain⟨x,x1,x2⟩:=b5.2 j v0 hq;exact⟨x,x1,zeB hm h hmc hl x2⟩
   | dead=>trivial
  ·have hb:=hm.blk i p k q3 q4;cases hlv:k.live with
   | false=>cases k <;> simp[Blk.live]at hlv;trivial
   | true=>
     refine hb.step hm st (fun o ho ho'=>?_) (fun e=>?_)
     ·have hps:=hm.inO i p k q3 q4 hlv oA;exact⟨s.cell _ _ hps (far i p k q1 q2 q3 q4 hlv o ho ho'),fun hc=>s.frozen _ _ hps (far i p k q1 q2 q3 q4 hlv o ho ho') hc⟩
     ·obtain⟨e1,e2,e3⟩:=hb.zeT e;have hps:=hm.inO i p _ q3 q4 hlv oA;refine s.block _ hps fun o hO=>?_
      obtain⟨j,q,kq,g1,g2,g3,g4,g5,g6⟩:=lies.own hO;have hjb:=hm.blk j q kq g1 g2;by_cases hji:j=i
      ·subst hji;have hpq:q=p:=by rw[q3]at g1;cases g1;rfl
       subst hpq
       have:o=0:=oA
       subst this;exact far j q _ q1 q2 q3 q4 hlv 0 oA oA hO
      ·cases kq with
       | cells cs=>
         have:=(hjb.2.1 o g5 g6).1
         rw[g4,e3]at this;cases this
       | tail n=>
         have:=(hjb o g5 g6).1
         rw[g4,e3]at this;cases this
       | row e cs=>
         have:=(hjb.2.1 o g5 g6).1
         rw[g4,e3]at this;cases this
       | map kt' vt' es'=>
         obtain⟨f1,f2,_⟩:=hjb
         have:=hm.apart i j p q _ _ (fun e=>hji e.symm) q3 q4 g1 g2 hlv rfl g4.symm
         omega
       | loop fn' st' pe' n' env' ps' aas' bo'=>
         obtain⟨f1,f2,_⟩:=hjb
         have:=hm.apart i j p q _ _ (fun e=>hji e.symm) q3 q4 g1 g2 hlv rfl g4.symm
         omega
       | dead=>simp[Blk.live]at g3
 ·have mix:∀(i j:Nat) p q k0 k',i<m.H.length->i ∉ l->m.β[i]?=some p->m.H[i]?=some k'->k'.live=true->mc'.β[j]?=some q->mc'.H[j]?=some k0->k0.live=true->p.apart q:=by
   intro i j p q k0 k' hi hil g1 g2 g3 g4 g5 g6 e;by_cases hov:p.lo<q.hi/\q.lo<p.hi/\p.lo<p.hi/\q.lo<q.hi
   ·exfalso;have hO:Own mc' p.b (max p.lo q.lo):=⟨j,q,k0,g4,g5,g6,e.symm,oA,oA⟩;rcases s.fromO _ _ hO with g|g
    ·exact far i p k' hi hil g1 g2 g3 _ oA oA g
    ·have:=hm.inO i p k' g1 g2 g3 oA
     have hw:(cutM m l Hc).w=m.w:=rfl;rw[hw]at g;omega
   ·omega
  rcases zdS hm h hmc hl h1 h2 with ⟨a,k0,q1,q2,q3,rfl⟩|⟨q1,q2,q3,q4⟩ <;> rcases zdS hm h hmc hl h3 h4 with ⟨b,k1,r1,r2,r3,rfl⟩|⟨r1,r2,r3,r4⟩
  ·exact hmc.apart a b p q k0 k1 (fun e=>hij (by rw[<-q1,<-r1,e])) q2 q3 r2 r3 (by rw[Blk.zbU]at hk;exact hk) (by rw[Blk.zbU]at hk';exact hk')
  ·intro e
   have:=mix j a q p k0 k' r1 r2 r3 r4 hk' q2 q3 (by rw[Blk.zbU]at hk;exact hk) e.symm
   omega
  ·exact mix i b p q k1 k q1 q2 q3 q4 hk r2 r3 (by rw[Blk.zbU]at hk';exact hk')
  ·exact hm.apart i j p q k k' hij q3 q4 r3 r4 hk hk'
 ·rintro⟨i,p,k,h1,h2,h3,h4,h5,h6⟩;rcases zdS hm h hmc hl h1 h2 with ⟨a,k0,q1,q2,q3,rfl⟩|⟨q1,q2,q3,q4⟩
  ·exact hmc.still b o hA ⟨a,p,k0,q2,q3,by rw[Blk.zbU]at h3;exact h3,h4,h5,h6⟩
  ·rcases s.fromA b o hA with g|g|g
   ·exact hm.still b o g ⟨i,p,k,q3,q4,h3,h4,h5,h6⟩
   ·exact far i p k q1 q2 q3 q4 h3 o h5 h6 (by rw[h4];exact g)
   ·have:=hm.inO i p k q3 q4 h3 oA
    have hw:(cutM m l Hc).w=m.w:=rfl;rw[hw]at g;omega
 ·rcases zdS hm h hmc hl h1 h2 with ⟨a,k0,q1,q2,q3,rfl⟩|⟨q1,q2,q3,q4⟩
  ·exact hmc.inO a p k0 q2 q3 (by rw[Blk.zbU]at hk;exact hk) hlt
  ·exact qbc (hm.inO i p k q3 q4 hk hlt) s.size
end back
def Le(s c:SV):Prop:=∀(m:M) (x:Value),SRel m s x->SRel m c x
theorem Le.refl(s:SV):Le s s:=fun _ _ h=>h
theorem Le.own(sz:Nat)(es:List T)(id:Nat):Le (.sl sz es id) (.t (.sl sz es)):=fun m x h=>.t _ _ (h.elems (sz:=sz) (es:=es) (by simp[SV.elems]))
theorem Le.nil(sz:Nat):Le (.t (.v (.slice none 0 0))) (.t (.sl sz [])):=fun m x h=>by have:=h.v_eq;subst this;exact .t _ _ (.nil sz)
theorem Le.any(s:SV):Le s .any:=fun _ x _=>.any x
theorem Le.toT{s:SV}{t:T}(h:s.toT=some t):Le s (.t t):=fun _ _ hx=>.t _ _ (hx.toT h)
inductive TLe:T->T->Prop
 | refl (t:T):TLe t t
 | nil (sz:Nat):TLe (.v (.slice none 0 0)) (.sl sz [])
 | ag (cs ds:List T) (h:cs.length=ds.length) (hl:∀(i:Nat) c d,cs[i]?=some c->ds[i]?=some d->TLe c d):TLe (.ag cs) (.ag ds)
theorem TLe.rel{w:World}{a b:T}(h:TLe a b):∀x,TRel A w a x->TRel A w b x:=by
 induction h with
 | refl t=>exact fun _ h=>h
 | nil sz=>intro x h;cases h;exact .nil sz
 | ag cs ds hl _ ih=>
   intro x h;cases h with
   | ag _ arr hs h1 hr=>
     refine .ag _ _ oA h1 fun i d y hd hy=>?_
     have hi:=(qaa.1 hd).1;have hc:cs[i]?=some (cs[i]' oA):=qad _;exact ih i _ d hc hd y (hr i _ y hc hy)
theorem Le.tree{s:SV}{t:T}(h:s.toT=some t)(k:TLe t u):Le s (.t u):=fun _ _ hx=>.t _ _ (k.rel _ (hx.toT h))
def Les:List SV->List SV->Prop
 | [],[]=>True
 | a::aas,b::bs=>Le a b/\Les aas bs
 | _,_=>False
theorem Les.get:∀ {aas bs:List SV},Les aas bs->aas.length=bs.length/\∀(i:Nat) a b,aas[i]?=some a->bs[i]?=some b->Le a b
 | [],[],_=>oC
 | [],_::_,h=>by cases h
 | _::_,[],h=>by cases h
 | a::aas,b::bs,h=>by
   obtain⟨g1,g2⟩:=Les.get h.2;exact zwbh
theorem Les.refl:∀(aas:List SV),Les aas aas
 | []=>trivial
 | a::aas=>⟨Le.refl a,Les.refl aas⟩
theorem Le.tup{aas bs:List SV}(h:Les aas bs):Le (.tup aas) (.tup bs):=fun m x hx=>by
 cases hx with
 | tup _ arr hs hr=>
   obtain⟨g1,g2⟩:=h.get;refine .tup _ _ oA fun i b y hb hy=>?_
   have hi:=(qaa.1 hb).1;have ha:aas[i]?=some (aas[i]' oA):=qad _;exact g2 i _ b ha hb m y (hr i _ y ha hy)
theorem ARel.le{aas bs:List SV}{vs:Array Value}(h:ARel m aas vs)(k:Les aas bs):ARel m bs vs:=by
 obtain⟨g1,g2⟩:=k.get;refine⟨by rw[h.1,g1],fun i b x hb hx=>?_⟩;have hi:=(qaa.1 hb).1;have ha:aas[i]?=some (aas[i]' oA):=qad _;exact g2 i _ b ha hb m x (h.2 i _ x ha hx)
def Env.vals(env:Env):List Operand->Option (List SV)
 | []=>some []
 | x::r=>match env.val x,Env.vals env r with
   | some v,some l=>some (v::l)
   | _,_=>none
theorem ERel.vals{n:Nat}{env:Env}{m:M}{ac:Act}(g:ERel m n env ac.tmps):∀(l:List Operand) (vs:List SV),env.vals l=some vs->vs.length=l.length/\∀(i:Nat) s x,vs[i]?=some s->(l.map ac.eval)[i]?=some x->SRel m s x
 | [],vs,h=>by simp[Env.vals]at h;subst h;simp
 | x::r,vs,h=>by
   simp only[Env.vals]at h;cases hx:env.val x with
   | none=>rw[hx]at h;cases h
   | some v=>
     rw[hx]at h;cases hr:env.vals r with
     | none=>rw[hr]at h;cases h
     | some l=>
       rw[hr]at h;cases h
       obtain⟨g1,g2⟩:=ERel.vals g r l hr;refine⟨by simp[g1],fun i s y hs hy=>?_⟩;cases i with
       | zero=>simp at hs hy;subst hs;subst hy;exact g.val hx
       | succ i=>exact g2 i s y (by simpa using hs) (by simpa using hy)
section rules
variable {n:Nat}{tab:Tab}
variable {pos:String}
theorem zm1(g:ERel m n env ac.tmps){args:Array Operand}(hf:env.val f=some (.fn fid caps))(ha:env.vals args.toList=some vs):
  ∃arr,ac.eval f= .func (.func fid) #[] arr/\ARel m (vs++caps) (args.map ac.eval++arr):=by
 have h:=g.val hf;generalize hq:ac.eval f=z at h;cases h with
 | fn _ _ arr hs hr=>
   obtain⟨g1,g2⟩:=g.vals _ _ ha;refine⟨arr,rfl,by simp[g1,hs],fun i s x hs' hx=>?_⟩;by_cases hi:i<vs.length
   ·rw[qat hi]at hs';rw[qa7 (by simp at g1⊢;omega)]at hx;exact g2 i s x hs' (by simpa using hx)
   ·rw[qas oA]at hs';rw[qbi (by simp at g1⊢;omega)]at hx;exact hr _ s x hs' (by simpa [g1]using hx)
theorem zfM{arr:Array Value}{args:Array Operand}{ts:Array TypeId}{w:World}{dd:Option Tmp}(hf:ac.eval f= .func (.func fid) #[] arr)(hc:Callable P fid):
  (execOp ac.eval ⟨dd,.call { callee:=.value f,args:=args,argTypes:=ts },ty,pos,aft,none⟩).run P w= .ok (.enter fid (args.map ac.eval++arr)) w:=by
 obtain⟨fn,h1,h2,h3⟩:=hc;have h2':¬fn.name= "runtime.NumGoroutine":=by simpa using h2
 have h3':¬fn.body=none:=by intro e;simp[e]at h3
 simp[execOp,resolve,hf,Deferred.ofValue,invoke,callFunc,h1,h2',h3']
theorem TO.zAv(dd:Option Nat)(l:List Nat){args:Array Operand}{ts:Array TypeId}(hs:Sound P fid cargs Hc R)(hd:∀d,dd=some d->Nat.ble (d+1) n=true)
  (hf:env.val f=some (.fn fid caps))(ha:env.vals args.toList=some vs)(hl:Les (vs++caps) (rens (names l H.length) cargs))(hu:unders Hc.length cargs=true)(hh:Hands H l Hc)
  (k:∀v Hc',R (.ret v) Hc'->TO false P n all rest ((match dd with|some d=>[(d,v.ren (names l H.length))]|none=>[])++env) (patch H l (Hc'.map (Blk.ren (names l H.length)))) K)
  (kp:∀v Hc',R (.panic v) Hc'->K (.panic (v.ren (names l H.length))) env (patch H l (Hc'.map (Blk.ren (names l H.length))))):
  TO false P n all (⟨dd,.call { callee:=.value f,args:=args,argTypes:=ts },ty,pos,aft,none⟩::rest) env H K:=by
 intro φ m ac h1 h2 h3 h4;subst h1;obtain⟨arr,hq,har⟩:=zm1 h3 hf ha;have lies:=zhy h2 hh
 have harc:ARel (cutM m l Hc) cargs (args.map ac.eval++arr):=by
  have h5:=har.le hl;refine⟨by rw[h5.1,zbN];simp,fun i s x hs' hx=>lies.zd1 (h5.2 i _ x (by rw[zbN,qan,hs'];rfl) hx) (zfe hu i s hs')⟩
 have hcall:=hs.2 (cutM m l Hc) _ rfl (lies.hrel h2) harc;refine wpListIn_plain rfl fun K' hK=>?_
 unfold Oper.wpIn;refine⟨fun _ _=>trivial,?_⟩;rw[za9 (zfM hq hs.1) (by intro d e;cases e)];simp only[Oper.uponIn];refine⟨fun h=>by simp[Fence.wide]at h,zfN (Calls.mono hcall ?_)⟩;rintro e w' ⟨mc',r,rfl,s,hmc,hr,hR⟩;obtain⟨st,hb⟩:=zrm h2 hh s hmc
 have hlc:l.length≤mc'.H.length:=by
  exact zwp
 cases r with
 | ret v=>
   cases e with
   | returned x=>
     exact hK _ _ (TO.zfF (m':=back m mc' l) st (k v mc'.H hR φ (back m mc' l) _ rfl hb (by
      cases dd with
      | none=>simpa [Act.put]using h3.step h2 st
      | some d=>exact(h3.step h2 st).put d (qaj (hd d rfl)) (zeB h2 hh hmc hlc hr)) (by cases dd <;> simpa [Act.put]using h4.step h2 st)))
   | _=>simp[zbZ]at hr
 | panic v=>
   cases e with
   | panicked ch=>
     obtain⟨x,rfl,hx⟩:=hr;exact⟨back m mc' l,env,.panic (v.ren (names l m.H.length)),rfl,st,hb,h3.step h2 st,h4.step h2 st,⟨x,rfl,zeB h2 hh hmc hlc hx⟩,kp v mc'.H hR⟩
   | _=>simp[zbZ]at hr
theorem TO.call(l:List Nat){Hc:Heap}{cargs:List SV}{R:Res->Heap->Prop}{f:Operand}{fid:FuncId}{caps:List SV}{args:Array Operand}{ts:Array TypeId}{vs:List SV}(hs:Sound P fid cargs Hc R)(hd:Nat.ble (d+1) n=true)
  (hf:env.val f=some (.fn fid caps))(ha:env.vals args.toList=some vs)(hl:Les (vs++caps) (rens (names l H.length) cargs))(hu:unders Hc.length cargs=true)(hh:Hands H l Hc)
  (k:∀v Hc',R (.ret v) Hc'->TO false P n all rest ((d,v.ren (names l H.length))::env) (patch H l (Hc'.map (Blk.ren (names l H.length)))) K)
  (kp:∀v Hc',R (.panic v) Hc'->K (.panic (v.ren (names l H.length))) env (patch H l (Hc'.map (Blk.ren (names l H.length))))):
  TO false P n all (⟨some d,.call { callee:=.value f,args:=args,argTypes:=ts },ty,pos,aft,none⟩::rest) env H K:=TO.zAv (some d) l hs (fun _ e=>by cases e;exact hd) hf ha hl hu hh k kp
abbrev Pure (P:Program)(f:FuncId)(args:List SV)(v:SV):Prop:=Sound P f args [] fun r H'=>r= .ret v/\H'=[]
theorem zsd(H:Heap):Hands H [] []:=⟨qbI,oC,rfl,oC,oC⟩
theorem TO.zAx{v:SV}{args:Array Operand}{ts:Array TypeId}(hs:Pure P fid cargs v)(hd:Nat.ble (d+1) n=true)
  (hf:env.val f=some (.fn fid caps))(ha:env.vals args.toList=some vs)(hl:Les (vs++caps) (rens (names [] H.length) cargs))(hu:unders 0 cargs=true)(hv:v.ren (names [] H.length)=v')
  (k:TO false P n all rest ((d,v')::env) H K):
  TO false P n all (⟨some d,.call { callee:=.value f,args:=args,argTypes:=ts },ty,pos,aft,none⟩::rest) env H K:=
 TO.call [] hs hd hf ha hl hu (zsd H) (fun u Hc' h=>by
  obtain⟨h1,rfl⟩:=h;cases h1;rw[hv];simp only[patch,qaD,qaz];exact k) (fun u Hc' h=>by cases h.1)
end rules
mutual
theorem zjO:∀(v:SV),v.ren id=v
 | .t u=>rfl
 | .sl sz es i=>rfl
 | .ms sz i off len=>rfl
 | .cp cs off=>rfl
 | .ref i off=>rfl
 | .tref e n i off=>rfl
 | .rw i len=>rfl
 | .mp i=>rfl
 | .yl i=>rfl
 | .ag cs=>by simp[SV.ren,zgH cs]
 | .tup cs=>by simp[SV.ren,zgH cs]
 | .fn f cs=>by simp[SV.ren,zgH cs]
 | .bnd f cs=>by simp[SV.ren,zgH cs]
 | .ifc ty x=>by simp[SV.ren,zjO x]
 | .any=>rfl
theorem zgH:∀(cs:List SV),rens id cs=cs
 | []=>rfl
 | c::cs=>by simp[rens,zjO c,zgH cs]
end
theorem Blk.zjO(b:Blk):b.ren id=b:=by
 have key:∀env:List (Nat×SV),(env.map fun x=>(x.1,x.2.ren id))=env:=by
  intro env
  induction env with
  | nil=>rfl
  | cons x r ih=>simp[Go.TL.zjO,ih]
 cases b <;> simp[Blk.ren,zgH,key]
def zaa(k:Nat):Heap->Bool
 | []=>true
 | b::r=>b.under k && zaa k r
theorem zcf{k:Nat}:∀ {H:Heap},zaa k H=true->∀(i:Nat) b,H[i]?=some b->b.under k=true
 | [],_,i,b,h=>by simp at h
 | a::H,hb,i,b,h=>by
   simp only[zaa,qar]at hb;cases i with
   | zero=>simp at h;subst h;exact hb.1
   | succ i=>exact zcf hb.2 i b (by simpa using h)
def M.cut(m:M)(k:Nat):M:=⟨m.A,m.β.take k,m.H.take k,m.w⟩
theorem zui(hm:HRel m)(hk:k≤m.H.length)(hb:zaa k (m.H.take k)=true):Lies (m.cut k) m id where
 A:=rfl
 w:=rfl
 len:=by simp[M.cut,hm.len]
 β:=fun j p hp=>by
  simp only[M.cut,qa6]at hp;split at hp
  ·exact hp
  ·cases hp
 H:=fun j b h=>by
  simp only[M.cut,qa6]at h;split at h
  ·rw[Blk.zjO];exact h
  ·cases h
 inj:=fun i j _ _ e=>e
 below:=fun j b h=>by
  have:(m.cut k).H.length=k:=by simp[M.cut];omega
  rw[this];exact zcf hb j b h
theorem zg3(hm:HRel m)(s:Step m0 m)(hk:k≤m.H.length)(h0:m0.β.length≤k)(hb:zaa k (m.H.take k)=true):Step m0 (m.cut k)/\HRel (m.cut k)/\∀v x,v.under k=true->SRel m v x->SRel (m.cut k) v x:=by
 have lies:=zui hm hk hb;have hl:(m.cut k).H.length=k:=by simp[M.cut];omega
 refine⟨⟨s.os,s.tape,s.output,s.size,s.more,s.fromA,fun b o h=>s.fromO b o (lies.own h),s.cell,s.frozen,s.block,s.shape,s.loop,s.isSome,fun i p hp=>?_⟩,lies.hrel hm,fun v x hv h=>lies.zd1 (by rw[zjO];exact h) (by rw[hl];exact hv)⟩;obtain⟨p',hp',h⟩:=s.ids i p hp;have hi:=(qaa.1 hp).1;refine⟨p',by simp only[M.cut];rw[qa6,oG oA];exact hp',?_⟩
 have:(m.cut k).H[i]?=m.H[i]? :=by simp only[M.cut];rw[qa6,oG oA]
 rw[this];exact h
def zu0(tab:Tab)(env:Env)(H:Heap):ResultVar->Option SV
 | .tmp t=>env.look t
 | .cell a ty=>match env.look a,tab.get ty with
   | some (.ref id off),some i=>match H[id]? with
     | some (.cells cs)=>bif i.k.agg then(bif Nat.ble (off+i.size) cs.length then some (.ag ((cs.drop off).take i.size)) else none) else cs[off]?
     | _=>none
   | _,_=>none
def zbO(tab:Tab)(env:Env)(H:Heap):List ResultVar->Option (List SV)
 | []=>some []
 | r::rs=>match zu0 tab env H r,zbO tab env H rs with
   | some v,some l=>some (v::l)
   | _,_=>none
def pack:List SV->SV
 | [v]=>v
 | vs=>.tup vs
def RetK(tab:Tab)(rs:List ResultVar)(N:Nat)(R:Res->Heap->Prop):TK
 | .normal,env,H=>∃vs v k,zbO tab env H rs=some vs/\Le (pack vs) v/\N≤k/\k≤H.length/\v.under k=true/\zaa k (H.take k)=true/\R (.ret v) (H.take k)
 | .ret,env,H=>∃vs v k,zbO tab env H rs=some vs/\Le (pack vs) v/\N≤k/\k≤H.length/\v.under k=true/\zaa k (H.take k)=true/\R (.ret v) (H.take k)
 | .panic u,env,H=>∃v k,Le u v/\N≤k/\k≤H.length/\v.under k=true/\zaa k (H.take k)=true/\R (.panic v) (H.take k)
 | .exit _,_,_=>False
def zfj:Nat->List SV->Env
 | _,[]=>[]
 | i,v::r=>(i,v)::zfj (i+1) r
theorem zhO:∀(l:List SV) (k i:Nat) (v:SV),(zfj k l).look i=some v->k≤i/\l[i-k]?=some v
 | [],k,i,v,h=>by simp[zfj,Env.look]at h
 | a::l,k,i,v,h=>by
   by_cases hk:k=i
   ·subst hk;rw[zfj,Env.zap]at h;cases h;simp
   ·rw[zfj,Env.zah _ _ hk]at h;obtain⟨h1,h2⟩:=zhO l (k+1) i v h;refine⟨oA,?_⟩;rw[show i-k=(i-(k+1))+1 from oA];exact h2
def zjQ(tmps:Array Value):ResultVar->Sem Value
 | .tmp t=>pure (tmps.getD t undef)
 | .cell a t=>do loadVar t (<-asAddr (tmps.getD a undef))
theorem zs0{tab:Tab}(hT:zas P tab)(hm:HRel m){n:Nat}(he:ERel m n env tmps){r:ResultVar}{v:SV}(h:zu0 tab env m.H r=some v):
  ∃x,(zjQ tmps r).run P m.w= .ok x m.w/\SRel m v x:=by
 cases r with
 | tmp t=>
   obtain⟨x,h1,h2⟩:=he.2 t v h;exact⟨x,by simp[zjQ,qbp,h1],h2⟩
 | cell a ty=>
   simp only[zu0]at h;split at h
   ·rename_i id off i hl ht;split at h
    ·rename_i cs hH;obtain⟨x,h1,h2⟩:=he.2 a _ hl;cases h2 with
     | ref _ _ p hp hn=>
       have hb:=hm.blk id p _ hp hH;have hx:tmps.getD a undef= .pointer (some ⟨p.b,p.lo+off,none⟩):=by simp[qbp,h1]
       cases hk:i.k.agg with
       | false=>
         rw[hk]at h;simp only[cond_false]at h;obtain⟨y,y1,y0,y2⟩:=hb.2.2 off v h;refine⟨y,?_,y2⟩;simp[zjQ,hx,asAddr,loadVar,(hT ty i ht).isAgg,hk,y1]
       | true=>
         rw[hk]at h;simp only[cond_true]at h;cases hle:Nat.ble (off+i.size) cs.length with
         | false=>rw[hle]at h;cases h
         | true=>
           rw[hle]at h;simp only[cond_true,qaI]at h;subst h;have hc:=qaj hle
           have hex:∀j,∃y,j<i.size->m.w.cell? ⟨p.b,p.lo+off+j,none⟩=some y/\y.oneCell'=true/\∀c,cs[off+j]?=some c->SRel m c y:=by
            intro j;by_cases hj:j<i.size
            ·have hlt:off+j<cs.length:=oA
             obtain⟨y,hy1,hy0,hy2⟩:=hb.2.2 (off+j) cs[off+j] (qad hlt);exact⟨y,fun _=>⟨by rw[qa1];exact hy1,hy0,fun c hc=>by rw[qad hlt]at hc;cases hc;exact hy2⟩⟩
            ·exact⟨undef,fun h=>oI h hj⟩
           obtain⟨f,hf⟩:=qby hex;refine⟨.agg ((List.range i.size).map f).toArray,?_,.ag _ _ oF (fun j y hy=>?_) fun j c y hc' hy=>?_⟩
           ·have:=zgA hT ht hk (w:=m.w) (fun j hj=>(hf j hj).1)
            simp[Instr.loadAt,Instr.sureAddr]at this;simp[zjQ,hx,asAddr,this]
           ·exact zwdd
           ·rw[qa6]at hc';split at hc'
            ·rename_i hj;rw[qbb]at hc';simp[hj]at hy;subst hy;exact(hf j hj).2.2 c hc'
            ·cases hc'
    ·cases h
   ·cases h
theorem zjP{P:Program}{tab:Tab}(hT:zas P tab){m:M}(hm:HRel m){n:Nat}{env:Env}{tmps:Array Value}(he:ERel m n env tmps):∀(rs:List ResultVar) (vs:List SV),zbO tab env m.H rs=some vs->
  ∃xs:List Value,(rs.mapM (zjQ tmps)).run P m.w= .ok xs m.w/\xs.length=vs.length/\∀(i:Nat) v x,vs[i]?=some v->xs[i]?=some x->SRel m v x
 | [],vs,h=>by simp[zbO]at h;subst h;exact⟨[],rfl,rfl,oC⟩
 | r::rs,vs,h=>by
   simp only[zbO]at h;cases h1:zu0 tab env m.H r with
   | none=>rw[h1]at h;cases h
   | some v=>
     rw[h1]at h;cases h2:zbO tab env m.H rs with
     | none=>rw[h2]at h;cases h
     | some l=>
       rw[h2]at h;cases h
       obtain⟨x,hx1,hx2⟩:=zs0 hT hm he h1;obtain⟨xs,g1,g2,g3⟩:=zjP hT hm he rs l h2;refine⟨x::xs,?_,by simp[g2],fun i v' x' hv hx=>?_⟩
       ·rw[qb8];simp only[Sem.run_bind,hx1,Result.andThen_ok,g1,Sem.run_pure]
       ·cases i with
        | zero=>simp at hv hx;subst hv;subst hx;exact hx2
        | succ i=>exact g3 i v' x' (by simpa using hv) (by simpa using hx)
theorem ziv{tab:Tab}(hT:zas P tab)(hm:HRel m){n:Nat}(he:ERel m n env tmps){fn:Func}(h:zbO tab env m.H fn.results.toList=some vs):
  ∃x,(results fn tmps).run P m.w= .ok x m.w/\SRel m (pack vs) x:=by
 obtain⟨xs,g1,g2,g3⟩:=zjP hT hm he _ _ h
 have hr:(results fn tmps).run P m.w= .ok (if h:xs.toArray.size=1 then xs.toArray[0] else .tuple xs.toArray) m.w:=by
  have hu:results fn tmps=(do
    let vs <-fn.results.mapM (zjQ tmps)
    pure (if h:vs.size=1 then vs[0] else .tuple vs):Sem Value):=by
   unfold results;congr 1
  rw[hu,qcz];simp only[Sem.run_bind,Sem.run_map,map_eq_pure_bind,g1];rfl
 refine⟨_,hr,?_⟩
 match vs,xs,g2,g3 with
 | [v],[x],_,g3=>exact g3 0 v x rfl rfl
 | [],[],_,g3=>exact .tup _ _ rfl oC
 | v1::v2::vs,x1::x2::xs,g2,g3=>exact .tup _ _ (by simpa using g2) (fun i c y hc hy=>g3 i c y hc (by simpa using hy))
structure Shut (s0:Nat) (w w':World):Prop where
 os:w'.os=w.os
 tape:w'.tape=w.tape
 output:w'.output=w.output
 size:w'.heap.size=w.heap.size
 heap:∀b,w'.heap[b]?=w.heap[b]? \/(s0≤b/\∃x y,w.heap[b]?=some (.deferred x)/\w'.heap[b]?=some (.deferred y))
theorem Shut.refl(s0:Nat)(w:World):Shut s0 w w:=⟨rfl,rfl,rfl,rfl,fun _=>.inl rfl⟩
theorem Shut.put{w:World}(h:Shut s0 w w')(hk:s0≤k){x:Option (List Deferred)}(h0:w'.heap[k]?=some (.deferred x))(y:Option (List Deferred)):Shut s0 w (w'.putObj k (.deferred y)):=by
 have hlt:=(qam.1 h0).1;refine⟨h.os,h.tape,h.output,by rw[World.putObj_size];exact h.size,fun b=>?_⟩;by_cases hb:b=k
 ·subst hb;refine .inr ⟨hk,?_⟩;rcases h.heap b with g|⟨_,x',y',g1,g2⟩
  ·exact⟨x,y,by rw[<-g];exact h0,World.putObj_heap_same hlt⟩
  ·exact⟨x',y,g1,World.putObj_heap_same hlt⟩
 ·rw[World.putObj_heap_other hb];exact h.heap b
section shut
variable {s0:Nat}{w w':World}(h:Shut s0 w w')
include h
theorem Shut.cell(b o:Nat):w'.cell? ⟨b,o,none⟩=w.cell? ⟨b,o,none⟩:=by
 rcases h.heap b with g|⟨_,x,y,g1,g2⟩
 ·simp[World.cell?,g]
 ·simp[World.cell?,g1,g2]
theorem Shut.frozen(b o:Nat):w'.frozen? ⟨b,o,none⟩=w.frozen? ⟨b,o,none⟩:=by
 rcases h.heap b with g|⟨_,x,y,g1,g2⟩
 ·simp[World.frozen?,g]
 ·simp[World.frozen?,g1,g2]
theorem Shut.shape(b:Nat):w'.shape? b=w.shape? b:=by
 rcases h.heap b with g|⟨_,x,y,g1,g2⟩
 ·simp[World.shape?,g]
 ·simp[World.shape?,g1,g2]
end shut
theorem Shut.trel{w:World}(h:Shut s0 w w'){t:T}(hr:TRel A w t x):TRel A w' t x:=hr.mono (fun _ _ h=>h) (fun b o _=>h.cell b o)
theorem Shut.srel(hs:Shut s0 m.w w'){v:SV}(h:SRel m v x):SRel ⟨m.A,m.β,m.H,w'⟩ v x:=by
 induction h with
 | t t x h=>exact .t t x (hs.trel h)
 | sl sz es id x p h hp ho=>exact .sl sz es id x p (hs.trel h) hp ho
 | rw id len x p hp hx ho=>exact .rw id len x p hp hx ho
 | tref e n id off p hp hn h0 h=>exact .tref e n id off p hp hn h0 (by rw[<-hs.shape]at h;exact h)
 | ms sz id off len cap p hp hn hc hh=>exact .ms sz id off len cap p hp hn hc hh
 | cp cs off b o f h1 hA hw h=>exact .cp cs off b o f h1 hA (fun j hj=>by show w'.cell? _=_;rw[hs.cell];exact hw j hj) (fun j c hc=>hs.trel (h j c hc))
 | ref id off p hp hn=>exact .ref id off p hp hn
 | mp id p hp hn=>exact .mp id p hp hn
 | yl id p hp hn=>exact .yl id p hp hn
 | ag cs arr hs h1 _ ih=>exact .ag cs arr hs h1 ih
 | tup cs arr hs _ ih=>exact .tup cs arr hs ih
 | fn f cs arr hs _ ih=>exact .fn f cs arr hs ih
 | bnd f cs arr hs _ ih=>exact .bnd f cs arr hs ih
 | ifc ty s x _ ih=>exact .ifc ty s x ih
 | any x=>exact .any x
theorem Shut.ok(hm:HRel m)(s:Step m0 m)(h:Shut m0.w.heap.size m.w w'):Step m0 ⟨m.A,m.β,m.H,w'⟩/\HRel ⟨m.A,m.β,m.H,w'⟩:=by
 refine⟨⟨h.os.trans s.os,h.tape.trans s.tape,h.output.trans s.output,by show _≤w'.heap.size;rw[h.size];exact s.size,s.more,s.fromA,s.fromO,fun b o hb hn=>by show w'.cell? _=_;rw[h.cell];exact s.cell b o hb hn,
  fun b o hb hn hc=>by show w'.frozen? _=_;rw[h.frozen];exact s.frozen b o hb hn hc,fun b hb hn=>?_,fun b sh hs=>by show w'.shape? _=_;rw[h.shape];exact s.shape b sh hs,fun b L hL=>?_,fun b o hb hc=>by show(w'.cell? _).isSome=true;rw[h.cell];exact s.isSome b o hb hc,s.ids⟩,?_⟩
 ·rcases h.heap b with g|⟨g,_⟩
  ·show w'.heap[b]?=_;rw[g];exact s.block b hb hn
  ·omega
 ·obtain⟨L',hL'⟩:=s.loop b L hL;rcases h.heap b with g|⟨_,x,y,g1,g2⟩
  ·exact⟨L',by show w'.heap[b]?=_;rw[g];exact hL'⟩
  ·rw[g1]at hL';cases hL'
 ·refine⟨hm.len,fun i p k h1 h2=>?_,hm.apart,hm.still,fun b o hA=>by show b<w'.heap.size;rw[h.size];exact hm.inA b o hA,fun i p k h1 h2 h3 h4=>by show p.b<w'.heap.size;rw[h.size];exact hm.inO i p k h1 h2 h3 h4,fun b cs hg=>by
  obtain⟨g1,e,f,g2⟩:=hm.glob b cs hg;refine⟨g1,e,f,?_⟩;rcases h.heap b with g|⟨_,x,y,g3,g4⟩
  ·show w'.heap[b]?=_;rw[g];exact g2
  ·rw[g3]at g2;cases g2⟩
  have hb:=hm.blk i p k h1 h2
  have keep:∀o,m.w.heap[p.b]?=some o->(∀x,o≠ .deferred x)->w'.heap[p.b]?=some o:=by
   intro o ho hno;rcases h.heap p.b with g|⟨_,x,y,g1,g2⟩
   ·rw[g];exact ho
   ·rw[g1]at ho;cases ho;exact oI rfl (hno x)
  cases k with
  | cells cs=>
    obtain⟨b1,b2,b3⟩:=hb;refine⟨b1,fun o ho ho'=>?_,fun j c hc=>?_⟩
    ·exact zwck
    ·obtain⟨y,y1,y0,y2⟩:=b3 j c hc;exact⟨y,by show w'.cell? _=_;rw[h.cell];exact y1,y0,h.srel y2⟩
  | tail n=>
    intro o ho ho'
    have:=hb o ho ho'
    unfold Free at this⊢;show(w'.cell? _).isSome=true/\w'.frozen? _=false;rw[h.cell,h.frozen];exact this
  | row e cs=>
    obtain⟨b1,b2,b3⟩:=hb;refine⟨⟨b1.1,b1.2.1,fun hp=>by show w'.shape? _=_;rw[h.shape];exact b1.2.2 hp⟩,fun o ho ho'=>?_,fun j c hc=>?_⟩
    ·exact zwck
    ·obtain⟨y,y1,y0,y2⟩:=b3 j c hc;exact⟨y,by show w'.cell? _=_;rw[h.cell];exact y1,y0,h.trel y2⟩
  | map kt vt es=>
    obtain⟨b1,b2,a,clock,b3,b4,b5⟩:=hb;exact⟨b1,b2,a,clock,keep _ b3 (by intro x e;cases e),b4,fun i k t e he ha=>⟨(b5 i k t e he ha).1,h.trel (b5 i k t e he ha).2.1,(b5 i k t e he ha).2.2⟩⟩
  | loop fn st pe n env ps aas bo=>
    obtain⟨b1,b2,L,b3,b4,b5⟩:=hb;exact⟨b1,b2,L,keep _ b3 (by intro x e;cases e),b4,b5.1,fun i v hv=>let ⟨x,x1,x2⟩:=b5.2 i v hv;⟨x,x1,h.srel x2⟩⟩
  | dead=>trivial
theorem zdt{P:Program}{F:Fence}{N:Nat}{fn:Func}{tmps:Array Value}{R:Ending->World->Prop}{s0:Nat}{u:FrameMode}(hu:u≠ .run){ds:List Deferred}{w0:World}:∀(ks:List Nat) (w:World),Shut s0 w0 w->ks.Nodup->(∀k∈ks,s0≤k/\w.heap[k]?=some (.deferred (some [])))->
  (∀w',Shut s0 w0 w'->(∀b,b ∉ ks->w'.heap[b]?=w.heap[b]?)->LeavesInM F N P fn tmps R ds u w')->LeavesInM F N P fn tmps R (ks.map mark++ds) u w
 | [],w,hs,_,_,h=>h w hs fun _ _=>rfl
 | k::ks,w,hs,hn,hk,h=>by
   obtain⟨hk1,hk2⟩:=hk k qah;have hn':=qbz.1 hn;refine⟨hu,.inl ⟨k,_,rfl,run_takeDeferred hk2,?_⟩⟩
   refine zdt hu ks _ (hs.put hk1 hk2 none) hn'.2 (fun k' hk'=>?_) (fun w' q1 q2=>h w' q1 fun b hb=>by
    rw[q2 b fun hb'=>hb (qai _ hb'),World.putObj_heap_other (fun e=>hb (by rw[e];exact qah))])
   obtain⟨g1,g2⟩:=hk k' (qai _ hk');exact⟨g1,by rw[World.putObj_heap_other (by intro e;subst e;exact hn'.1 hk')];exact g2⟩
theorem zgZ{f:FuncId}{fn:Func}{args:Array Value}{w:World}{R:Ending->World->Prop}(hf:P.funcs[f]?=some fn)(hb:fn.body=some c)
  (h:Code.wpr P none c (bodyPostM (Fr none) 0 P fn R) { tmps:=args++Array.replicate (fn.ntmps-args.size) undef,defers:=[] } w):Calls P f args w R:=by
 refine zhZ (r:=none) ⟨trivial,fun cs hr=>?_⟩
 let b:Frame:={ (default:Frame)with fn:=f,kind:=.normal,roundOf:=none }
 have henter:Frame.enter P f args .normal=b.atR { tmps:=args++Array.replicate (fn.ntmps-args.size) undef,defers:=[] } [.code c]:=by
  simp[Frame.enter,Frame.atR,hf,hb,b]
 obtain⟨e,a',w',hq,harr⟩:=h b [] cs rfl (by simp[b,hf]);rw[<-henter]at harr;have wide:∀ {m m':Machine},StepsIn (fun _=>True) P m m'->StepsIn (Machine.fenced P (Fr none)) P m m':=fun h=>stepsIn_wide.2 (steps_iff.2 h)
 cases e with
 | normal=>
   obtain⟨e',w'',fr',hR,hs,hfn,hl⟩:=leaves_stepsInM a'.defers .returning w' { b.atR a' []with mode:=.returning } cs rfl rfl rfl hf rfl trivial hr hq;exact⟨e',w'',fr',hR,ComesIn.of_steps (wide (StepsIn.trans harr (.one trivial (stepR_end rfl)))) hs,hfn,hl⟩
 | ret=>
   obtain⟨todo,hs₀⟩:=harr.1 rfl;obtain⟨e',w'',fr',hR,hs,hfn,hl⟩:=leaves_stepsInM a'.defers .returning w' { b.atR a' todo with mode:=.returning } cs rfl rfl rfl hf rfl trivial hr hq;exact⟨e',w'',fr',hR,ComesIn.of_steps (wide hs₀) hs,hfn,hl⟩
 | panic chain=>
   obtain⟨todo,hs₀⟩:=harr;obtain⟨e',w'',fr',hR,hs,hfn,hl⟩:=leaves_stepsInM a'.defers (.panicking chain) w' { b.atR a' todo with mode:=.panicking chain } cs rfl rfl rfl hf rfl trivial hr hq;exact⟨e',w'',fr',hR,ComesIn.of_steps (wide hs₀) hs,hfn,hl⟩
 | exit id=>exact hq.elim
 | goto l=>exact hq.elim
 | outgrown=>exact⟨.outgrown,w',b,hq,harr.resolve_left (by simp[b]),rfl,trivial⟩
theorem zmo{tab:Tab}(hT:zas P tab){fn:Func}(h1:m.H=H)(h2:HRel m)(hs0:s0=m.w.heap.size){e:Exit}{a':Act}
  (hp:Post ⟨none,s0,[]⟩ m fn.ntmps (RetK tab fn.results.toList H.length R) e a' w'):bodyPostM (Fr none) 0 P fn (fun e w'=>∃(m':M) (r:Res),m'.w=w'/\Step m m'/\HRel m'/\zbZ m' r e/\R r m'.H) e a' w':=by
 subst hs0;obtain⟨m',env,te,rfl,s,hm',he,⟨⟨ks,hd,_,hnd,hks⟩,_,_⟩,hx,hK⟩:=hp;simp only[qaz]at hd
 have fin:∀vs v k,zbO tab env m'.H fn.results.toList=some vs->Le (pack vs) v->H.length≤k->k≤m'.H.length->v.under k=true->zaa k (m'.H.take k)=true->R (.ret v) (m'.H.take k)->
   ∀w'',Shut m.w.heap.size m'.w w''->∃v,(results fn a'.tmps).run P w''= .ok v w''/\∃(m2:M) (r:Res),m2.w=w''/\Step m m2/\HRel m2/\zbZ m2 r (.returned v)/\R r m2.H:=by
  intro vs v k g1 g2 g3 g4 g5 g6 g7 w'' hsh;obtain⟨s2,hm2⟩:=hsh.ok hm' s;have he2:ERel ⟨m'.A,m'.β,m'.H,w''⟩ fn.ntmps env a'.tmps:=⟨he.1,fun i v hv=>let ⟨x,x1,x2⟩:=he.2 i v hv;⟨x,x1,hsh.srel x2⟩⟩;obtain⟨x,hr,hp⟩:=ziv hT hm2 he2 g1;obtain⟨c1,c2,c3⟩:=zg3 hm2 s2 g4 (by rw[h2.len,h1];exact g3) g6;exact⟨x,hr,_,.ret v,rfl,c1,c2,c3 _ _ g5 (g2 _ _ hp),g7⟩
 have out:∀(u:FrameMode) (R:Ending->World->Prop),u≠ .run->(∀w'',Shut m.w.heap.size m'.w w''->LeavesIn (Fr none) 0 P fn a'.tmps R [] u w'')->LeavesInM (Fr none) 0 P fn a'.tmps R a'.defers u m'.w:=by
  intro u R hu h;rw[hd,<-qaz (ks.map mark)];exact zdt hu ks m'.w (.refl _ _) hnd hks fun w'' hw _=>h w'' hw
 cases te with
 | normal=>
   cases e <;> simp[zbe]at hx
   obtain⟨vs,v,k,g1,g2,g3,g4,g5,g6,g7⟩:=hK;exact out .returning _ oC fun w'' hw=>fin vs v k g1 g2 g3 g4 g5 g6 g7 w'' hw
 | ret=>
   cases e <;> simp[zbe]at hx
   obtain⟨vs,v,k,g1,g2,g3,g4,g5,g6,g7⟩:=hK;exact out .returning _ oC fun w'' hw=>fin vs v k g1 g2 g3 g4 g5 g6 g7 w'' hw
 | panic u=>
   cases e with
   | panic ch=>
     obtain⟨x,rfl,hux⟩:=hx;obtain⟨v,k,g2,g3,g4,g5,g6,g7⟩:=hK;refine out (.panicking _) _ oC fun w'' hw=>?_
     obtain⟨s2,hm2⟩:=hw.ok hm' s;obtain⟨c1,c2,c3⟩:=zg3 hm2 s2 g4 (by rw[h2.len,h1];exact g3) g6;exact⟨_,.panic v,rfl,c1,c2,⟨x,rfl,c3 _ _ g5 (g2 _ _ (hw.srel hux))⟩,g7⟩
   | _=>simp[zbe]at hx
 | exit i=>exact hK.elim
theorem Sound.of{tab:Tab}(hT:zas P tab){f:FuncId}{fn:Func}{args:List SV}(hf:P.funcs[f]?=some fn)(hn:(fn.name == "runtime.NumGoroutine")=false)(hb:fn.body=some c)
  (ha:Nat.ble args.length fn.ntmps=true)(h:TR P fn.ntmps c (zfj 0 args) H (RetK tab fn.results.toList H.length R)):Sound P f args H R:=by
 refine⟨⟨fn,hf,hn,by rw[hb];rfl⟩,fun m vs h1 h2 h3=>?_⟩;have hal:=qaj ha;refine zgZ hf hb (za5 (h ⟨none,m.w.heap.size,[]⟩ m _ h1 h2 ⟨by simp[h3.1];omega,fun i v hv=>?_⟩ ⟨⟨[],rfl,fun _=>rfl,qbI,oC⟩,qag _,fun l h=>by cases h⟩) ?_)
 ·exact zwm
 ·intro e a' w' hp;exact zmo hT h1 h2 rfl hp
theorem Sound.mono{P:Program}{f:FuncId}{args:List SV}{H:Heap}{R R':Res->Heap->Prop}(h:Sound P f args H R)(hr:∀r H',R r H'->R' r H'):Sound P f args H R':=
 ⟨h.1,fun m vs h1 h2 h3=>(h.2 m vs h1 h2 h3).mono fun e w' ⟨m',r,g1,g2,g3,g4,g5⟩=>⟨m',r,g1,g2,g3,g4,hr _ _ g5⟩⟩
theorem TRel.zBo{w:World}{y:Value}(h:TRel A w (.v x) y):y=x:=by
 cases h;rfl
theorem zej(h2:HRel m)(k:Keeps m.w w'):Step m ⟨m.A,m.β,m.H,w'⟩/\HRel ⟨m.A,m.β,m.H,w'⟩:=by
 have:=grow h2 (A':=m.A) (βn:=[]) (Hn:=[]) (w':=w') k.os k.tape k.output k.size k.block (fun _ _ h=>h) (fun _ _ h=>.inl h) rfl oC oC (fun _ _ h h'=>oI h h') oC
 simpa using this
theorem Keeps.trans{a b c:World}(h:Keeps a b)(k:Keeps b c):Keeps a c:=
 ⟨k.os.trans h.os,k.tape.trans h.tape,k.output.trans h.output,qax h.size k.size,fun x hx=>(k.block x (qbc hx h.size)).trans (h.block x hx)⟩
def M.lent(m:M):M:=⟨fun b o=>m.A b o\/Own m b o,[],[],m.w⟩
theorem zss(hm:HRel m):HRel m.lent where
 len:=rfl
 blk:=fun i p k h=>by simp[M.lent]at h
 apart:=fun i j p q k l _ h=>by simp[M.lent]at h
 still:=fun b o _ ⟨i,p,k,h,_⟩=>by simp[M.lent]at h
 inA:=fun b o h=>by
  rcases h with h|⟨i,p,k,h1,h2,h3,h4,h5,h6⟩
  ·exact hm.inA b o h
  ·rw[<-h4];exact hm.inO i p k h1 h2 h3 oA
 inO:=fun i p k h=>by simp[M.lent]at h
 glob:=fun b cs h=>⟨fun o=>.inl ((hm.glob b cs h).1 o),(hm.glob b cs h).2⟩
def LeB(H:Heap)(s c:SV):Prop:=∀(m:M) (x:Value),m.H=H->HRel m->SRel m s x->SRel m.lent c x
theorem zmQ{t:T}(h:TRel m.A m.w t x):TRel m.lent.A m.lent.w t x:=h.mono (fun _ _ h=>.inl h) (fun _ _ _=>rfl)
theorem LeB.tree{s:SV}{t:T}(h:s.toT=some t)(k:TLe t u):LeB H s (.t u):=fun m x _ _ hx=>.t _ _ (zmQ (k.rel _ (hx.toT h)))
theorem LeB.t{H:Heap}(t:T):LeB H (.t t) (.t t):=LeB.tree (t:=t) rfl (.refl t)
theorem LeB.cp{H:Heap}(cs:List T)(off:Nat):LeB H (.cp cs off) (.cp cs off):=fun m x _ _ hx=>by
 cases hx with
 | cp _ _ b o f h1 hA hw h=>exact .cp _ _ b o f h1 (fun j hj=>.inl (hA j hj)) hw (fun j c hc=>zmQ (h j c hc))
theorem LeB.fn{H:Heap}(f:FuncId){cs ds:List SV}(hl:cs.length=ds.length)(h:∀(i:Nat) c d,cs[i]?=some c->ds[i]?=some d->LeB H c d):LeB H (.fn f cs) (.fn f ds):=fun m x hH hm hx=>by
 cases hx with
 | fn _ _ arr hs hr=>
   refine .fn _ _ _ oA fun i d y hd hy=>?_
   have hi:=(qaa.1 hd).1;have hc:cs[i]?=some (cs[i]' oA):=qad _;exact h i _ d hc hd m y hH hm (hr i _ y hc hy)
def LesB(H:Heap):List SV->List SV->Prop
 | [],[]=>True
 | a::aas,b::bs=>LeB H a b/\LesB H aas bs
 | _,_=>False
theorem LesB.get{H:Heap}:∀ {aas bs:List SV},LesB H aas bs->aas.length=bs.length/\∀(i:Nat) a b,aas[i]?=some a->bs[i]?=some b->LeB H a b
 | [],[],_=>oC
 | [],_::_,h=>by cases h
 | _::_,[],h=>by cases h
 | a::aas,b::bs,h=>by
   obtain⟨g1,g2⟩:=LesB.get h.2;exact zwbh
def Rigid(v:SV):Prop:=∃x0,(∀m x,SRel m v x->x=x0)/\∀m,SRel m v x0
theorem Rigid.v(x:Value):Rigid (.t (.v x)):=⟨x,fun _ _ h=>h.v_eq,fun _=>.t _ _ (.v x)⟩
section rules
variable {n:Nat}{tab:Tab}
variable {pos:String}
theorem TO.zuc{v:SV}{args:Array Operand}{ts:Array TypeId}(hs:Pure P fid cargs v)(hd:Nat.ble (d+1) n=true)
  (hf:env.val f=some (.fn fid caps))(ha:env.vals args.toList=some vs)(hl:LesB H (vs++caps) cargs)(hv:Rigid v)
  (k:TO q P n all rest ((d,v)::env) H K):
  TO q P n all (⟨some d,.call { callee:=.value f,args:=args,argTypes:=ts },ty,pos,aft,none⟩::rest) env H K:=by
 intro φ m ac h1 h2 h3 h4;obtain⟨arr,hq,har⟩:=zm1 h3 hf ha;obtain⟨x0,hx1,hx2⟩:=hv;obtain⟨g1,g2⟩:=hl.get
 have key:∀w',Keeps m.w w'->Calls P fid (args.map ac.eval++arr) w' fun e w''=>e= .returned x0/\Keeps m.w w'':=by
  intro w' kw;obtain⟨s,hm'⟩:=zej h2 kw
  have harc:ARel (M.lent ⟨m.A,m.β,m.H,w'⟩) cargs (args.map ac.eval++arr):=by
   refine⟨by rw[har.1,g1],fun i c x hc hx=>?_⟩;have hi:=(qaa.1 hc).1;have hc0:(vs++caps)[i]?=some ((vs++caps)[i]' oA):=qad _;exact g2 i _ c hc0 hc ⟨m.A,m.β,m.H,w'⟩ x h1 hm' (s.srel h2 (har.2 i _ x hc0 hx))
  have hcall:=hs.2 (M.lent ⟨m.A,m.β,m.H,w'⟩) _ rfl (zss hm') harc;refine Calls.mono hcall ?_;rintro e w'' ⟨mc',r,rfl,st,hmc,hr,hR,hH⟩;subst hR;cases e with
  | returned x=>
    refine⟨by rw[hx1 _ _ hr],kw.trans ⟨st.os,st.tape,st.output,st.size,fun b hb=>st.block b hb fun o ho=>?_⟩⟩;obtain⟨i,p,k,h,_⟩:=ho;simp[M.lent]at h
  | _=>simp[zbZ]at hr
 have hk:=k φ m (ac.put (some d) x0) h1 h2 (h3.put d (qaj hd) (hx2 m)) (by simpa [Act.put]using h4);cases q with
 | false=>
   refine wpListIn_plain rfl fun K' hK=>?_
   unfold Oper.wpIn;refine⟨fun _ _=>trivial,?_⟩;rw[za9 (zfM hq hs.1) (by intro d e;cases e)];simp only[Oper.uponIn];refine⟨fun h=>by simp[Fence.wide]at h,zfN (Calls.mono (key m.w ⟨rfl,rfl,rfl,qag _,fun _ _=>rfl⟩) ?_)⟩;rintro e w'' ⟨rfl,kw⟩;obtain⟨s,hm'⟩:=zej h2 kw;exact hK _ _ (TO.zfF (m':=⟨m.A,m.β,m.H,w''⟩) s (k φ _ _ h1 hm' ((h3.step h2 s).put d (qaj hd) (hx2 _)) (by simpa [Act.put]using h4.step h2 s)))
 | true=>
   simp only at hk⊢;unfold wpQuiet;simp only[Region.wanted,if_true];refine⟨x0,fun w' hw'=>?_,hk⟩;unfold Oper.quietAt;rw[zfM hq hs.1];exact⟨rfl,key w' hw'⟩
theorem zht{sz:Nat}(pl:Nat->Option (Nat×Nat))(hpl:∀i,pl i=some (i*sz,sz)):∀(vals:List (Nat×Value)) (k:Nat) (arr:Array Value),(∀(i:Nat) p,vals[i]?=some p->p.1=k+i/\p.2.cells.size=sz)->(k+vals.length)*sz≤arr.size->
  ∃arr',Instr.fill pl arr vals=some arr'/\arr'.size=arr.size/\(∀q,q<k*sz->arr'[q]?=arr[q]?)/\∀(i:Nat) p,vals[i]?=some p->∀j,j<sz->arr'[(k+i)*sz+j]?=p.2.cells[j]?
 | [],k,arr,_,_=>⟨arr,rfl,rfl,fun _ _=>rfl,oC⟩
 | (i0,x)::vals,k,arr,hv,hl=>by
   obtain⟨h0,hx⟩:=hv 0 _ rfl;simp only[qcl]at h0;simp only at hx;subst h0;simp only[qae]at hl;have hle:(i0+1)*sz≤(i0+(vals.length+1))*sz:=qaH _ oA;rw[qa3]at hle;have hfold:=zo1 x.cells.toList (i0*sz) 0 arr oF
   have hstep:Instr.fill pl arr ((i0,x)::vals)=Instr.fill pl ((x.cells.toList.zipIdx 0).foldl (fun cs (x:Value×Nat)=>cs.setIfInBounds (i0*sz+x.2) x.1) arr) vals:=by
    rw[Instr.fill,hpl];simp only;rw[oH (by simp[hx];omega),<-Array.foldl_toList,Array.toList_zipIdx]
   obtain⟨arr',g1,g2,g3,g4⟩:=zht pl hpl vals (i0+1) _ (fun i p hp=>by
    obtain⟨e1,e2⟩:=hv (i+1) p (by simpa using hp);exact⟨oA,e2⟩) (by rw[hfold.1,show i0+1+vals.length=i0+(vals.length+1) from oA];exact hl)
   refine⟨arr',by rw[hstep];exact g1,by rw[g2,hfold.1],fun q hq=>?_,fun i p hp j hj=>?_⟩
   ·have h2:q<(i0+1)*sz:=by rw[qa3];omega
    rw[g3 q h2,hfold.2 q,oH oF]
   ·cases i with
    | zero=>
      simp at hp;subst hp
      have h2:(i0+0)*sz+j<(i0+1)*sz:=by
       have:(i0+1)*sz=i0*sz+sz:=by rw[qa3,Nat.one_mul]
       rw[this,qcl];omega
      rw[g3 _ h2,hfold.2,oG oF];simp
    | succ i=>
      have:=g4 i p (by simpa using hp) j hj
      rw[show i0+(i+1)=i0+1+i from oA];exact this
def zeH(sz:Nat):Nat->List (Nat×SV)->Option (List T)
 | _,[]=>some []
 | k,(i,v)::r=>match v.toT,zeH sz (k+1) r with
   | some t,some l=>bif Nat.beq i k && v.solid && t.solid then some (t::l) else none
   | _,_=>none
theorem zh3{sz:Nat}:∀ {k:Nat} {l:List (Nat×SV)} {es:List T},zeH sz k l=some es->es.length=l.length/\∀(i:Nat) p,l[i]?=some p->∃t,es[i]?=some t/\p.1=k+i/\p.2.toT=some t/\p.2.solid=true/\t.solid=true
 | k,[],es,h=>by simp[zeH]at h;subst h;simp
 | k,(i0,v)::r,es,h=>by
   simp only[zeH]at h;cases h1:v.toT with
   | none=>rw[h1]at h;cases h
   | some t=>
     rw[h1]at h;cases h2:zeH sz (k+1) r with
     | none=>rw[h2]at h;cases h
     | some l=>
       rw[h2]at h;simp only at h;cases h3:(Nat.beq i0 k && v.solid && t.solid) with
       | false=>rw[h3]at h;cases h
       | true=>
         rw[h3]at h;cases h
         simp only[qar]at h3;obtain⟨⟨e1,e2⟩,e3⟩:=h3;have e1':=qaY e1;obtain⟨g1,g2⟩:=zh3 h2;refine⟨by simp[g1],fun i p hp=>?_⟩;cases i with
         | zero=>simp at hp;subst hp;exact⟨t,rfl,by simpa using e1',h1,e2,e3⟩
         | succ i=>
           obtain⟨t',q1,q2,q3⟩:=g2 i p (by simpa using hp);exact⟨t',by simpa using q1,oA,q3⟩
theorem TO.buildSlice(hT:zas P tab){t e:TypeId}{i ie:TyI}{len sz:Nat}{parts:Array (Nat×Operand)}{ps:List (Nat×SV)}{es:List T}(hd:Nat.ble (d+1) n=true)(ht:tab.get t=some i)(hk:i.k= .slice e)(he:tab.get e=some ie)(hs:ie.size=sz)
  (hp:env.parts parts.toList=some ps)(hes:zeH sz 0 ps=some es)(hlen:Nat.beq len es.length=true)(hsz:∀t∈es,t.cells.length=sz)(hsm:Nat.ble (len*sz) 16777216=true)
  (k:TO false P n all rest ((d,.t (.sl sz es))::env) H K):TO false P n all (⟨some d,.buildSlice t len parts,ty,pos,aft,none⟩::rest) env H K:=
 TO.eff hd (fun m ac h1 h2 h3=>by
  subst h1;have hlen':=qaY hlen;have hsm':=qaj hsm;obtain⟨e1,e2⟩:=zh3 hes;obtain⟨p1,p2⟩:=h3.parts parts.toList ps hp;obtain⟨z,hz1,hz2,_,_⟩:=(hT e ie he).zero
  have hzl:z.cells.size=sz:=by
   exact zwdp
  have hval:∀(i:Nat) p,(parts.toList.map fun x=>(x.1,ac.eval x.2))[i]?=some p->∃t,es[i]?=some t/\p.1=0+i/\p.2.cells.size=sz/\(∀(j:Nat) y,p.2.cells[j]?=some y->y.oneCell'=true)/\∀(j:Nat) c y,t.cells[j]?=some c->p.2.cells[j]?=some y->TRel m.A m.w c y:=by
   intro i p hpi;have hi:=(qaa.1 hpi).1;have hps:ps[i]?=some (ps[i]' oA):=qad _;obtain⟨t,q1,q2,q3,q4,q5⟩:=e2 i _ hps;obtain⟨r1,r2⟩:=p2 i _ p hps hpi;obtain⟨c1,c2,c3⟩:=(r2.toT q3).cells q5;exact⟨t,q1,by rw[<-r1];exact q2,by rw[c1];exact hsz t (qau q1),c2,c3⟩
  obtain⟨z0,hz0⟩:∃z0:Array Value,z0=if len*sz=0 then #[] else z.cells:=⟨_,rfl⟩
  obtain⟨arr,g1,g2,_,g4⟩:=zht (sz:=sz) (fun i=>some (i*sz,sz)) (fun _=>rfl) (parts.toList.map fun x=>(x.1,ac.eval x.2)) 0 ((Array.range (len*sz)).map (fun j=>z0[j % z0.size]!)) (fun i p hpi=>by
   obtain⟨t,_,h5,h6,_⟩:=hval i p hpi;exact⟨h5,h6⟩) (by
   simp;have h1:parts.size=len:=by simp at p1;omega
   rw[h1];exact qag _)
  have g2':arr.size=len*sz:=by rw[g2];simp
  have hcell:∀o,(m.w.alloc (.cells arr e)).cell? ⟨m.w.heap.size,o,none⟩=arr[o]? :=fun o=>World.cell?_alloc_new ..
  obtain⟨s,hm'⟩:=grow h2 (A':=fun b o=>m.A b o\/(b=m.w.heap.size/\o<arr.size)) (βn:=[]) (Hn:=[]) (w':=m.w.alloc (.cells arr e)) rfl rfl rfl oC (fun b hb=>RowKit.Below.heap_alloc _ _ _ hb) (fun _ _ h=>.inl h) (fun b o h=>by
   rcases h with h|h
   ·exact .inl h
   ·exact .inr ⟨oA,oF⟩) rfl oC oC oC oC
  refine⟨.slice (some ⟨m.w.heap.size,0,none⟩) len len,⟨fun b o=>m.A b o\/(b=m.w.heap.size/\o<arr.size),m.β,m.H,m.w.alloc (.cells arr e)⟩,?_,by simpa using s,by simpa using hm',rfl,?_⟩
  ·have hrun:(Instr.buildSlice t len (parts.map fun(i,x)=>(i,ac.eval x))).run P m.w= .ok (.slice (some ⟨m.w.heap.size,0,none⟩) len len) (m.w.alloc (.cells arr e)):=by
    have hbig:¬len*sz > 2 ^ 24:=oA
    have hfl:(parts.map fun(x:Nat×Operand)=>(x.1,ac.eval x.2)).toList=parts.toList.map fun x=>(x.1,ac.eval x.2):=oC
    unfold Instr.buildSlice;by_cases h0:len*sz=0
    ·simp only[h0,if_true]at hz0;subst hz0;simp only[Sem.run_bind,underlying,run_program,Result.andThen_ok,(hT t i ht).slice hk,Sem.run_pure,(hT e ie he).sizeOf,hs,oH hbig,oG h0];rw[h0]at g1⊢;rw[hfl,g1];simp[newRow]
    ·simp only[oH h0]at hz0;subst hz0;simp only[Sem.run_bind,underlying,run_program,Result.andThen_ok,(hT t i ht).slice hk,Sem.run_pure,(hT e ie he).sizeOf,hs,oH hbig,oH h0,hz1];rw[hfl,g1];simp[newRow]
   simp only[execOp,Sem.run_bind,hrun];rfl
  ·have s':Step m ⟨fun b o=>m.A b o\/(b=m.w.heap.size/\o<arr.size),m.β,m.H,m.w.alloc (.cells arr e)⟩:=by simpa using s
   refine .t _ _ ?_;rw[hlen']
   have bnd:∀i j,i<es.length->j<sz->i*sz+j<len*sz:=by
    intro i j hi hj
    have:(i+1)*sz≤len*sz:=qaH _ oA
    rw[qa3]at this;omega
   have getp:∀i,i<es.length->∃p,(parts.toList.map fun x=>(x.1,ac.eval x.2))[i]?=some p:=fun i hi=>⟨_,qad oA⟩
   refine .sl sz es m.w.heap.size 0 es.length (fun q=>(arr[q]?).getD undef) (qag _) (fun i t ht=>hsz t (qau ht)) (fun i j hi hj=>.inr ⟨rfl,by have:=bnd i j hi hj;omega⟩) (fun i j hi hj=>?_) (fun i j hi hj=>?_) (fun i t j c ht hc=>?_)
   ·have:=bnd i j hi hj
    rw[qaV];show(m.w.alloc (.cells arr e)).cell? _=_;rw[hcell,qaq oA];rfl
   ·obtain⟨p,hpi⟩:=getp i hi;obtain⟨t,_,_,h6,h7,_⟩:=hval i p hpi
    have:=g4 i p hpi j hj
    rw[qaV]at this;simp only[this];rw[qaq oA];exact h7 j _ (qaq oA)
   ·have hi:=(qaa.1 ht).1;have hjl:=(qaa.1 hc).1;have hjs:j<sz:=by rw[<-hsz t (qau ht)];exact hjl
    obtain⟨p,hpi⟩:=getp i hi;obtain⟨t',h4,_,h6,_,h8⟩:=hval i p hpi;rw[ht]at h4;cases h4
    have:=g4 i p hpi j hjs
    rw[qaV]at this;simp only[this];rw[qaq oA];exact s'.trel h2 (h8 j c _ hc (qaq oA))) k
end rules
section rules
variable {n:Nat}{tab:Tab}
variable {pos:String}
theorem Then.normal{y:Code}(h:TR P n y env H K):Then P n y K .normal env H:=h
theorem Then.exit{y:Code}{i:Nat}(h:K (.exit i) env H):Then P n y K (.exit i) env H:=h
theorem Then.ret{y:Code}(h:K .ret env H):Then P n y K .ret env H:=h
theorem zaj.normal{i:Nat}(h:K .normal env H):zaj i K .normal env H:=h
theorem zaj.ret{i:Nat}(h:K .ret env H):zaj i K .ret env H:=h
theorem zaj.same{i:Nat}(e:Nat.beq j i=true)(h:K .normal env H):zaj i K (.exit j) env H:=by
 have:=qaY e
 subst this;show(if j=j then K .normal env H else _);rw[oG rfl];exact h
theorem zaj.other{i:Nat}(e:Nat.beq j i=false)(h:K (.exit j) env H):zaj i K (.exit j) env H:=by
 have:j≠i:=fun e'=>by subst e';simp at e
 show(if j=i then _ else _);rw[oH this];exact h
theorem TR.zy0{c:Operand}{x y:Code}(hc:env.val c=some (.t (.v (.bool true))))(h:TR P n x env H K):TR P n (.cond c x y) env H K:=TR.cond hc (fun _=>h) (fun e=>by cases e)
theorem TR.zyZ{c:Operand}{x y:Code}(hc:env.val c=some (.t (.v (.bool false))))(h:TR P n y env H K):TR P n (.cond c x y) env H K:=TR.cond hc (fun e=>by cases e) (fun _=>h)
theorem TO.cmp{op:BinOp}{t:TypeId}{x:Operand}{a b:Value}{c:Bool}(hd:Nat.ble (d+1) n=true)(hx:env.val x=some (.t (.v a)))(hy:env.val y=some (.t (.v b)))
  (hz:zbE op a b=some (.bool c))(ht:c=true->TO q P n all rest ((d,.t (.v (.bool true)))::env) H K)(hf:c=false->TO q P n all rest ((d,.t (.v (.bool false)))::env) H K):
  TO q P n all (⟨some d,.binOp op t x y t',ty,pos,aft,none⟩::rest) env H K:=by
 cases c
 ·exact TO.bin hd hx hy hz (hf rfl)
 ·exact TO.bin hd hx hy hz (ht rfl)
theorem TO.zes{b:Bool}{args:Array Operand}{ts:Array TypeId}(hs:Pure P fid cargs (.t (.v (.bool b))))(hd:Nat.ble (d+1) n=true)
  (hf:env.val f=some (.fn fid caps))(ha:env.vals args.toList=some vs)(hl:LesB H (vs++caps) cargs)
  (kt:b=true->TO q P n all rest ((d,.t (.v (.bool true)))::env) H K)(kf:b=false->TO q P n all rest ((d,.t (.v (.bool false)))::env) H K):
  TO q P n all (⟨some d,.call { callee:=.value f,args:=args,argTypes:=ts },ty,pos,aft,none⟩::rest) env H K:=by
 cases b
 ·exact TO.zuc hs hd hf ha hl (.v _) (kf rfl)
 ·exact TO.zuc hs hd hf ha hl (.v _) (kt rfl)
theorem Le.of_eq{a b:SV}(h:a=b):Le a b:=h ▸ Le.refl a
theorem RetK.pure{v:SV}(hr:zbO tab env H rs=some vs)(hl:Le (pack vs) v)(hu:v.under 0=true):RetK tab rs 0 (fun r H'=>r= .ret v/\H'=[]) .ret env H:=
 ⟨vs,v,0,hr,hl,qag _,qaM _,hu,rfl,rfl,rfl⟩
theorem TO.eqs{t:TypeId}{x:Operand}{a b:Str}(hd:Nat.ble (d+1) n=true)(hx:env.val x=some (.t (.v (str a))))(hy:env.val y=some (.t (.v (str b))))
  (ht:(a == b)=true->TO q P n all rest ((d,.t (.v (.bool true)))::env) H K)(hf:(a == b)=false->TO q P n all rest ((d,.t (.v (.bool false)))::env) H K):
  TO q P n all (⟨some d,.binOp .eql t x y t',ty,pos,aft,none⟩::rest) env H K:=
 TO.cmp (c:=(a == b)) hd hx hy rfl ht hf
theorem TO.nes{t:TypeId}{x:Operand}{a b:Str}(hd:Nat.ble (d+1) n=true)(hx:env.val x=some (.t (.v (str a))))(hy:env.val y=some (.t (.v (str b))))
  (ht:(a == b)=true->TO q P n all rest ((d,.t (.v (.bool false)))::env) H K)(hf:(a == b)=false->TO q P n all rest ((d,.t (.v (.bool true)))::env) H K):
  TO q P n all (⟨some d,.binOp .neq t x y t',ty,pos,aft,none⟩::rest) env H K:=
 TO.cmp (c:=!(a == b)) hd hx hy rfl (fun h=>hf (by simpa using h)) (fun h=>ht (by simpa using h))
theorem TO.zl0(hT:zas P tab){t:TypeId}{i:TyI}{x:Operand}{l:Str}{c:UInt8}(hd:Nat.ble (d+1) n=true)(ht:tab.get t=some i)(hk:i.k= .str)(hx:env.val x=some (.t (.v (str l))))
  (hy:env.val y=some (.t (.v (.int ik (j:Int)))))(hc:l[j]?=some c)(k:TO q P n all rest ((d,.t (.v (.int .u8 c.toNat)))::env) H K):TO q P n all (⟨some d,.index t x y,ty,pos,aft,none⟩::rest) env H K:=
 TO.zf1 hT hd ht hk hx hy oA (by simpa using hc) k
theorem TO.ze4(hT:zas P tab){t e:TypeId}{i:TyI}{x:Operand}{v:SV}{el:T}{cs:List T}(hd:Nat.ble (d+1) n=true)(ht:tab.get t=some i)(hk:i.k= .slice e)
  (he:tab.get e=some ie)(hs:ie.size=sz)(hx:env.val x=some v)(hv:v.elems sz=some es)(hy:env.val y=some (.t (.v (.int ik (j:Int)))))(hj:es[j]?=some el)(hcs:el.cells=cs)
  (k:TO q P n all rest ((d,.cp cs 0)::env) H K):TO q P n all (⟨some d,.indexAddr t x y,ty,pos,aft,none⟩::rest) env H K:=
 TO.indexAddr hT hd ht hk he hs hx hv hy oA (by simpa using hj) (by rw[hcs];exact k)
theorem TO.zwH(hT:zas P tab){t:TypeId}{i:TyI}{x z:Operand}{l:Str}{b:Nat}(hd:Nat.ble (d+1) n=true)(ht:tab.get t=some i)(hk:i.k= .str)
  (hx:env.val x=some (.t (.v (str l))))(hy:env.val y=some (.t (.v (.int ik (a:Int)))))(hz:env.val z=some (.t (.v (.int ik' (b:Int)))))(h1:a≤b)(h2:b≤l.length)
  (k:TO q P n all rest ((d,.t (.v (str ((l.take b).drop a))))::env) H K):TO q P n all (⟨some d,.slice t x (some y) (some z) none,ty,pos,aft,none⟩::rest) env H K:=
 TO.ziJ hT hd ht hk hx (.inr ⟨y,ik,rfl,hy⟩) (.inr ⟨z,ik',rfl,hz⟩) h1 h2 k
theorem TO.zhD(hT:zas P tab){t:TypeId}{i:TyI}{x:Operand}{l:Str}(hd:Nat.ble (d+1) n=true)(ht:tab.get t=some i)(hk:i.k= .str)
  (hx:env.val x=some (.t (.v (str l))))(hy:env.val y=some (.t (.v (.int ik (a:Int)))))(h1:a≤l.length)
  (k:TO q P n all rest ((d,.t (.v (str (l.drop a))))::env) H K):TO q P n all (⟨some d,.slice t x (some y) none none,ty,pos,aft,none⟩::rest) env H K:=
 TO.ziJ hT hd ht hk hx (.inr ⟨y,ik,rfl,hy⟩) (.inl ⟨rfl,rfl⟩) h1 (qag _) (by rw[qap];exact k)
theorem TO.zgf(hT:zas P tab){t:TypeId}{i:TyI}{x z:Operand}{l:Str}{b:Nat}(hd:Nat.ble (d+1) n=true)(ht:tab.get t=some i)(hk:i.k= .str)
  (hx:env.val x=some (.t (.v (str l))))(hz:env.val z=some (.t (.v (.int ik' (b:Int)))))(h2:b≤l.length)
  (k:TO q P n all rest ((d,.t (.v (str (l.take b))))::env) H K):TO q P n all (⟨some d,.slice t x none (some z) none,ty,pos,aft,none⟩::rest) env H K:=
 TO.ziJ hT hd ht hk hx (.inl ⟨rfl,rfl⟩) (.inr ⟨z,ik',rfl,hz⟩) (qaM _) h2 (by simpa using k)
theorem Hands.one{G:Heap}{i:Nat}{b:Blk}(h:G[i]?=some (b.ren (names [i] G.length)))(hb:b.under 1=true):Hands G [i] [b] where
 nodup:=oC
 lt:=fun x hx=>by
  have:x=i:=by simpa using hx
  subst this;exact(qaa.1 h).1
 len:=rfl
 H:=fun j k c h1 h2=>by
  cases j with
  | zero=>simp at h1 h2;subst h1;subst h2;exact h
  | succ j=>simp at h1
 under:=fun j c h2=>by
  cases j with
  | zero=>simp at h2;subst h2;exact hb
  | succ j=>simp at h2
theorem TO.zcm(l:List Nat){Hc1:Heap}{v:SV}{args:Array Operand}{ts:Array TypeId}(hs:Sound P fid cargs Hc fun r H'=>r= .ret v/\H'=Hc1)(hd:Nat.ble (d+1) n=true)
  (hf:env.val f=some (.fn fid caps))(ha:env.vals args.toList=some vs)(hl:Les (vs++caps) (rens (names l H.length) cargs))(hu:unders Hc.length cargs=true)(hh:Hands H l Hc)
  (hv:v.ren (names l H.length)=v')(hH:patch H l (Hc1.map (Blk.ren (names l H.length)))=H')(k:TO false P n all rest ((d,v')::env) H' K):
  TO false P n all (⟨some d,.call { callee:=.value f,args:=args,argTypes:=ts },ty,pos,aft,none⟩::rest) env H K:=
 TO.call l hs hd hf ha hl hu hh (fun u Hc' h=>by
  obtain⟨h1,rfl⟩:=h;cases h1;rw[hv,hH];exact k) (fun u Hc' h=>by cases h.1)
def Env.under(k:Nat)(env:Env):Bool:=env.all fun x=>x.2.under k
theorem Env.zgP{k:Nat}:∀ {env:Env},env.under k=true->∀i v,env.look i=some v->v.under k=true
 | [],_,i,v,h=>by simp[Env.look]at h
 | (j,u)::r,hs,i,v,h=>by
   simp only[Env.under,qbH,qar]at hs;by_cases hi:j=i
   ·subst hi;rw[Env.zap]at h;cases h;exact hs.1
   ·rw[Env.zah _ _ hi]at h;exact Env.zgP (env:=r) hs.2 i v h
def zac{ι:Type}(I:ι->Prop)(μ:ι->Nat)(E:ι->Env)(G:ι->Heap)(x:ι)(K:TK):TK
 | .normal,env,H=>∃y,I y/\μ y<μ x/\env.sub (E y)/\(H=G y\/∃j,Nat.ble (G x).length j=true/\Nat.ble j H.length=true/\zaa j (H.take j)=true/\(E y).under j=true/\H.take j=G y)
 | e,env,H=>K e env H
theorem TR.zbk{ι:Type}(I:ι->Prop)(μ:ι->Nat)(E:ι->Env)(G:ι->Heap)(x0:ι)(hI:I x0)(h0:env.sub (E x0))(hH:H=G x0)
  (step:∀x,I x->TR P n c (E x) (G x) (zac I μ E G x K)):TR P n (.loop c) env H K:=by
 have key:∀m x,μ x=m->I x->TR P n (.loop c) (E x) (G x) K:=by
  intro m
  induction m using Nat.strongRecOn with
  | _ m ih=>
    intro x hm hx;refine TR.loop ?_;intro φ m0 a h1 h2 h3 h4;refine za5 (step x hx φ m0 a h1 h2 h3 h4) ?_;rintro e a' w ⟨m',env',te,rfl,s,hm',he,hd,hx',hk⟩;cases te with
    | normal=>
      obtain⟨y,hy,hlt,hs,hc⟩:=hk;have hl:=ih (μ y) oA y rfl hy;rcases hc with hc|⟨j,b1,b2,b3,b4,b5⟩
      ·exact⟨m',env',.normal,rfl,s,hm',he,hd,hx',by rw[hc];exact TR.sub (E y) hs hl⟩
      ·have hbl:=qaj b1;obtain⟨s1,hm1,hr⟩:=zg3 hm' s (qaj b2) (by rw[h2.len,h1];exact hbl) b3;refine⟨m'.cut j,E y,.normal,rfl,s1,hm1,⟨he.1,fun i v hv=>?_⟩,hd,by cases e <;> first|exact hx'|exact trivial,?_⟩
       ·obtain⟨z,g1,g2⟩:=he.2 i v (Env.zgh hs i v hv);exact⟨z,g1,hr v z (Env.zgP b4 i v hv) g2⟩
       ·show TR P n (.loop c) (E y) (m'.H.take j) K;rw[b5];exact hl
    | exit i=>exact⟨m',env',.exit i,rfl,s,hm',he,hd,hx',hk⟩
    | ret=>exact⟨m',env',.ret,rfl,s,hm',he,hd,hx',hk⟩
    | panic v=>
      cases e with
      | panic ch=>
        obtain⟨z,q1,q2⟩:=hx';exact⟨m',env',.panic v,rfl,s,hm',he,hd,⟨z,q1,q2⟩,hk⟩
      | _=>exact oI hx' (by simp[zbe])
 subst hH;exact TR.sub (E x0) h0 (key _ x0 rfl hI)
section loopk
variable {ι:Type}{I:ι->Prop}{μ:ι->Nat}{E:ι->Env}{G:ι->Heap}{x:ι}
theorem zac.next(y:ι)(hI:I y)(hm:μ y<μ x)(hs:env.sub (E y))(hH:H=G y):zac I μ E G x K .normal env H:=⟨y,hI,hm,hs,.inl hH⟩
theorem zac.cut(j:Nat)(y:ι)(hI:I y)(hm:μ y<μ x)(hs:env.sub (E y))(h1:Nat.ble (G x).length j=true)(h2:Nat.ble j H.length=true)(hH:H.take j=G y)(h3:zaa j (G y)=true)(h4:(E y).under j=true):zac I μ E G x K .normal env H:=⟨y,hI,hm,hs,.inr ⟨j,h1,h2,by rw[hH];exact h3,h4,hH⟩⟩
theorem zac.exit{i:Nat}(h:K (.exit i) env H):zac I μ E G x K (.exit i) env H:=h
theorem zac.ret(h:K .ret env H):zac I μ E G x K .ret env H:=h
theorem zac.panic{v:SV}(h:K (.panic v) env H):zac I μ E G x K (.panic v) env H:=h
end loopk
theorem TO.zhY(hT:zas P tab){t e:TypeId}{i:TyI}{len:Nat}{parts:Array (Nat×Operand)}{ps:List (Nat×SV)}(hd:Nat.ble (d+1) n=true)(ht:tab.get t=some i)(hk:i.k= .slice e)(he:tab.get e=some ie)(hs:ie.size=sz)
  (hp:env.parts parts.toList=some ps)(hes:zeH sz 0 ps=some es)(hlen:Nat.beq len es.length=true)(hsz:(es.all fun t=>Nat.beq t.cells.length sz)=true)(hsm:Nat.ble (len*sz) 16777216=true)
  (k:TO false P n all rest ((d,.t (.sl sz es))::env) H K):TO false P n all (⟨some d,.buildSlice t len parts,ty,pos,aft,none⟩::rest) env H K:=
 TO.buildSlice hT hd ht hk he hs hp hes hlen (fun t h=>qaY (qaB.1 hsz t h)) hsm k
theorem TO.zm5(hT:zas P tab){t e:TypeId}{i i':TyI}{id:Nat}{ys:List T}{x:Operand}{vy:SV}(hd:Nat.ble (d+1) n=true)(ht:tab.get t=some i)(hk:i.k= .slice e)(ht':tab.get t'=some i')(hk':i'.k= .slice e)
  (he:tab.get e=some ie)(hs:ie.size=sz)(hpos:Nat.ble 1 sz=true)(hx:env.val x=some (.sl sz es id))(hH:H[id]?=some (.tail es.length))(hy:env.val y=some vy)(hvy:vy.elems sz=some ys)
  (hby:Nat.ble ie.bytes 4096=true)(hb1:es.length+ys.length≤10000000000)(hH':H.set id (.tail (es.length+ys.length))=H')
  (k:TO false P n all rest ((d,.sl sz (es++ys) id)::env) H' K):TO false P n all (⟨some d,.call { callee:=.builtin .append,args:=#[x,y],argTypes:=#[t,t'] },ty,pos,aft,none⟩::rest) env H K:=by
 have h1:=qaj hby;have h2:(es.length+ys.length)*ie.bytes≤10000000000*4096:=qbU hb1 h1;exact TO.append hT hd ht hk ht' hk' he hs (qaj hpos) hx hH hy hvy oA oA oA hH' k
theorem RetK.keep(k:Nat){N:Nat}{v:SV}(hr:zbO tab env H rs=some vs)(hl:Le (pack vs) v)(hN:Nat.ble N k=true)(hk:Nat.ble k H.length=true)(hu:v.under k=true)(hH:H.take k=H')
  (hb:zaa k H'=true)(hR:R (.ret v) H'):RetK tab rs N R .ret env H:=
 ⟨vs,v,k,hr,hl,qaj hN,qaj hk,hu,by rw[hH];exact hb,by rw[hH];exact hR⟩
theorem RetK.zih(k:Nat){N:Nat}{v:SV}(hr:zbO tab env H rs=some vs)(hl:Le (pack vs) v)(hN:Nat.ble N k=true)(hk:Nat.ble k H.length=true)(hu:v.under k=true)(hH:H.take k=H')
  (hb:zaa k H'=true)(hR:R (.ret v) H'):RetK tab rs N R .normal env H:=
 ⟨vs,v,k,hr,hl,qaj hN,qaj hk,hu,by rw[hH];exact hb,by rw[hH];exact hR⟩
end rules
end Go.TL
