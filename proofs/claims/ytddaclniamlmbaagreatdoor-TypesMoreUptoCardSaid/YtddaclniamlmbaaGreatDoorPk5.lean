import Derived.Test.YtddaclniamlmbaaGreatDoorPk4
set_option linter.unusedSimpArgs false
set_option linter.unusedVariables false
namespace Go.TL
open Go
mutual
def SV.ren (r:Nat->Nat):SV->SV
 | .t u=>.t u
 | .sl sz es id=>.sl sz es (r id)
 | .ms sz id off len=>.ms sz (r id) off len
 | .cp cs off=>.cp cs off
 | .ref id off=>.ref (r id) off
 | .tref e n id off=>.tref e n (r id) off
 | .rw id len=>.rw (r id) len
 | .mp id=>.mp (r id)
 | .yl id=>.yl (r id)
 | .ag cs=>.ag (rens r cs)
 | .tup cs=>.tup (rens r cs)
 | .fn f cs=>.fn f (rens r cs)
 | .bnd f cs=>.bnd f (rens r cs)
 | .ifc ty x=>.ifc ty (SV.ren r x)
 | .any=>.any
def rens (r:Nat->Nat):List SV->List SV
 | []=>[]
 | c::cs=>SV.ren r c::rens r cs
end
mutual
def SV.under (k:Nat):SV->Bool
 | .t _| .cp _ _| .any=>true
 | .sl _ _ id| .ms _ id _ _| .ref id _| .tref _ _ id _| .rw id _| .mp id| .yl id=>Nat.blt id k
 | .ag cs| .tup cs| .fn _ cs| .bnd _ cs=>unders k cs
 | .ifc _ x=>SV.under k x
def unders (k:Nat):List SV->Bool
 | []=>true
 | c::cs=>SV.under k c && unders k cs
end
theorem rens_eq(r:Nat->Nat):∀cs,rens r cs=cs.map (SV.ren r)
 | []=>rfl
 | c::cs=>by simp[rens,rens_eq r cs]
theorem unders_get{k:Nat}:∀ {cs:List SV},unders k cs=true->∀(i:Nat) c,cs[i]?=some c->c.under k=true
 | [],_,i,c,h=>by simp at h
 | a::cs,hb,i,c,h=>by
   simp only[unders,Bool.and_eq_true]at hb
   cases i with
   | zero=>simp at h;subst h;exact hb.1
   | succ i=>exact unders_get hb.2 i c (by simpa using h)
def Blk.ren(r:Nat->Nat):Blk->Blk
 | .cells cs=>.cells (rens r cs)
 | .loop fn st pe n env ps aas bo=>.loop fn st pe n (env.map fun x=>(x.1,x.2.ren r)) ps aas bo
 | b=>b
def Blk.under(k:Nat):Blk->Bool
 | .cells cs=>unders k cs
 | .loop _ _ _ _ env _ _ _=>env.all fun x=>x.2.under k
 | _=>true
theorem Env.look_ren(r:Nat->Nat):∀(env:Env) (i:Nat),Env.look (env.map fun x=>(x.1,x.2.ren r)) i=(env.look i).map (SV.ren r)
 | [],i=>rfl
 | (j,v)::env,i=>by
   simp only[List.map_cons,Env.look]
   cases Nat.beq j i with
   | true=>rfl
   | false=>exact Env.look_ren r env i
theorem Env.all_look{f:SV->Bool}:∀ {env:Env},(env.all fun x=>f x.2)=true->∀i v,env.look i=some v->f v=true
 | [],_,i,v,h=>by simp[Env.look]at h
 | (j,u)::r,hs,i,v,h=>by
   simp only[List.all_cons,Bool.and_eq_true]at hs
   by_cases hi:j=i
   ·subst hi
    rw[Env.look_cons_same]at h
    cases h
    exact hs.1
   ·rw[Env.look_cons_other _ _ hi]at h
    exact Env.all_look (env:=r) hs.2 i v h
theorem Blk.ren_live(r:Nat->Nat)(b:Blk):(b.ren r).live=b.live:=by cases b <;> rfl
theorem tlOf_ren(r:Nat->Nat)(b:Option Blk):tlOf (b.map (Blk.ren r))=tlOf b:=by
 cases b with
 | none=>rfl
 | some b=>cases b <;> simp[Blk.ren,tlOf]
structure Lies (mc m:M) (r:Nat->Nat):Prop where
 A:mc.A=m.A
 w:mc.w=m.w
 len:mc.β.length=mc.H.length
 β:∀(j:Nat) p,mc.β[j]?=some p->m.β[r j]?=some p
 H:∀(j:Nat) b,mc.H[j]?=some b->m.H[r j]?=some (b.ren r)
 inj:∀i j,i<mc.H.length->j<mc.H.length->r i=r j->i=j
 below:∀(j:Nat) b,mc.H[j]?=some b->b.under mc.H.length=true
theorem Lies.noTail{mc m:M}{r:Nat->Nat}(l:Lies mc m r){id:Nat}(hid:id<mc.H.length)(h:NoTail m.H (r id)):NoTail mc.H id:=by
 intro n hn
 refine h n ?_
 rw[<-hn,l.H id _ (List.getElem?_eq_getElem hid),List.getElem?_eq_getElem hid]
 exact tlOf_ren r (some _)
theorem Lies.place{mc m:M}{r:Nat->Nat}(l:Lies mc m r){id:Nat}(hid:id<mc.H.length){p:Place}(h:m.β[r id]?=some p):mc.β[id]?=some p:=by
 have:mc.β[id]?=some (mc.β[id]'(by rw[l.len];exact hid)):=List.getElem?_eq_getElem _
 have h2:=l.β id _ this
 rw[h]at h2
 cases h2;exact this
theorem Lies.srel_down{mc m:M}{r:Nat->Nat}(l:Lies mc m r):∀ {v:SV} {x:Value},SRel m (v.ren r) x->v.under mc.H.length=true->SRel mc v x:=by
 have list:∀(cs:List SV),(∀c∈cs,∀x,SRel m (c.ren r) x->c.under mc.H.length=true->SRel mc c x)->unders mc.H.length cs=true->∀(arr:Array Value),
   (∀(i:Nat) c y,(rens r cs)[i]?=some c->arr[i]?=some y->SRel m c y)->∀(i:Nat) c y,cs[i]?=some c->arr[i]?=some y->SRel mc c y:=by
  intro cs ih hb arr h i c y hc hy
  refine ih c (List.mem_of_getElem? hc) y (h i _ y ?_ hy) (unders_get hb i c hc)
  rw[rens_eq,List.getElem?_map,hc];rfl
 suffices h:∀(v:SV),∀x,SRel m (v.ren r) x->v.under mc.H.length=true->SRel mc v x from fun{v x}=>h v x
 intro v
 refine SV.rec (motive_1:=fun v=>∀x,SRel m (v.ren r) x->v.under mc.H.length=true->SRel mc v x) (motive_2:=fun cs=>∀c∈cs,∀x,SRel m (c.ren r) x->c.under mc.H.length=true->SRel mc c x)
  ?_ ?_ ?_ ?_ ?_ ?_ ?_ ?_ ?_ ?_ ?_ ?_ ?_ ?_ ?_ ?_ ?_ v
 ·intro u x h _
  simp only[SV.ren]at h
  cases h with|t _ _ h=>exact .t _ _ (by rw[l.A,l.w];exact h)
 ·intro sz es id x h hb
  simp only[SV.ren]at h
  have hid:id<mc.H.length:=by simpa [SV.under,Nat.blt_eq]using hb
  cases h with
  | sl _ _ _ _ p h hp ho=>
    refine .sl _ _ _ _ p (by rw[l.A,l.w];exact h) (l.place hid hp) fun n hn=>ho n ?_
    rw[<-hn,l.H id _ (List.getElem?_eq_getElem hid),List.getElem?_eq_getElem hid]
    exact tlOf_ren r (some _)
 ·intro sz id off len x h hb
  simp only[SV.ren]at h
  have hid:id<mc.H.length:=by simpa [SV.under,Nat.blt_eq]using hb
  cases h with
  | ms _ _ _ _ cap p hp hn hc hh=>exact .ms _ _ _ _ cap p (l.place hid hp) (l.noTail hid hn) hc hh
 ·intro cs off x h _
  simp only[SV.ren]at h
  cases h with
  | cp _ _ b o f h1 hA hw h=>exact .cp _ _ b o f h1 (by rw[l.A];exact hA) (by rw[l.w];exact hw) (fun j c hc=>by rw[l.A,l.w];exact h j c hc)
 ·intro id off x h hb
  simp only[SV.ren]at h
  have hid:id<mc.H.length:=by simpa [SV.under,Nat.blt_eq]using hb
  cases h with
  | ref _ _ p hp hn=>exact .ref _ _ p (l.place hid hp) (l.noTail hid hn)
 ·intro e n id off x h hb
  simp only[SV.ren]at h
  have hid:id<mc.H.length:=by simpa [SV.under,Nat.blt_eq]using hb
  cases h with
  | tref _ _ _ _ p hp hn h0 hs=>exact .tref _ _ _ _ p (l.place hid hp) (l.noTail hid hn) h0 (by rw[l.w];exact hs)
 ·intro id len x h hb
  simp only[SV.ren]at h
  have hid:id<mc.H.length:=by simpa [SV.under,Nat.blt_eq]using hb
  cases h with
  | rw _ _ _ p hp hx ho=>
    refine .rw _ _ _ p (l.place hid hp) hx fun n hn=>ho n ?_
    rw[<-hn,l.H id _ (List.getElem?_eq_getElem hid),List.getElem?_eq_getElem hid]
    exact tlOf_ren r (some _)
 ·intro id x h hb
  simp only[SV.ren]at h
  have hid:id<mc.H.length:=by simpa [SV.under,Nat.blt_eq]using hb
  cases h with
  | mp _ p hp hn=>exact .mp _ p (l.place hid hp) (l.noTail hid hn)
 ·intro id x h hb
  simp only[SV.ren]at h
  have hid:id<mc.H.length:=by simpa [SV.under,Nat.blt_eq]using hb
  cases h with
  | yl _ p hp hn=>
    exact .yl _ p (l.place hid hp) (l.noTail hid hn)
 ·intro cs ih x h hb
  simp only[SV.ren]at h
  cases h with
  | ag _ arr hs h1 h=>exact .ag _ _ (by rw[hs,rens_eq];simp) h1 (list cs ih hb arr h)
 ·intro cs ih x h hb
  simp only[SV.ren]at h
  cases h with
  | tup _ arr hs h=>exact .tup _ _ (by rw[hs,rens_eq];simp) (list cs ih hb arr h)
 ·intro f cs ih x h hb
  simp only[SV.ren]at h
  cases h with
  | fn _ _ arr hs h=>exact .fn _ _ _ (by rw[hs,rens_eq];simp) (list cs ih hb arr h)
 ·intro f cs ih x h hb
  simp only[SV.ren]at h
  cases h with
  | bnd _ _ arr hs h=>exact .bnd _ _ _ (by rw[hs,rens_eq];simp) (list cs ih hb arr h)
 ·intro ty s ih x h hb
  simp only[SV.ren]at h
  cases h with
  | ifc _ _ y h=>exact .ifc _ _ _ (ih y h hb)
 ·intro x _ _
  exact .any x
 ·intro c hc;cases hc
 ·intro a cs h1 h2 c hc
  cases hc with
  | head=>exact h1
  | tail _ h=>exact h2 c h
theorem Lies.hrel{mc m:M}{r:Nat->Nat}(l:Lies mc m r)(hm:HRel m):HRel mc where
 len:=l.len
 blk:=fun i p k h1 h2=>by
  have hb:=hm.blk (r i) p _ (l.β i p h1) (l.H i k h2)
  cases k with
  | cells cs=>
    obtain⟨b1,b2,b3⟩:=hb
    have hbel:=l.below i _ h2
    refine⟨by rw[rens_eq]at b1;simpa using b1,by rw[l.w];exact b2,fun j c hc=>?_⟩
    obtain⟨y,y1,y0,y2⟩:=b3 j (c.ren r) (by rw[rens_eq,List.getElem?_map,hc];rfl)
    exact⟨y,by rw[l.w];exact y1,y0,l.srel_down y2 (unders_get hbel j c hc)⟩
  | tail n=>show ∀o,_;rw[l.w];exact hb
  | row e cs=>
    obtain⟨b1,b2,b3⟩:=hb
    refine⟨by rw[l.w];exact b1,by rw[l.w];exact b2,fun j c hc=>?_⟩
    obtain⟨y,y1,y0,y2⟩:=b3 j c hc
    exact⟨y,by rw[l.w];exact y1,y0,by rw[l.A,l.w];exact y2⟩
  | map kt vt es=>
    obtain⟨b1,b2,a,clock,b3,b4,b5⟩:=hb
    exact⟨b1,b2,a,clock,by rw[l.w];exact b3,b4,by rw[l.A,l.w];exact b5⟩
  | loop fn st pe n env ps aas bo=>
    obtain⟨b1,b2,L,b3,b4,b5⟩:=hb
    have hbel:=l.below i _ h2
    refine⟨b1,b2,L,by rw[l.w];exact b3,b4,b5.1,fun j v hv=>?_⟩
    obtain⟨x,x1,x2⟩:=b5.2 j (v.ren r) (by rw[Env.look_ren,hv];rfl)
    exact⟨x,x1,l.srel_down x2 (Env.all_look (f:=fun v=>v.under mc.H.length) hbel j v hv)⟩
  | dead=>trivial
 apart:=fun i j p q k k' hij h1 h2 h3 h4 hk hl=>by
  have hi:=(List.getElem?_eq_some_iff.1 h2).1
  have hj:=(List.getElem?_eq_some_iff.1 h4).1
  exact hm.apart (r i) (r j) p q _ _ (fun e=>hij (l.inj i j hi hj e)) (l.β i p h1) (l.H i k h2) (l.β j q h3) (l.H j k' h4) (by rw[Blk.ren_live];exact hk) (by rw[Blk.ren_live];exact hl)
 still:=fun b o h=>by
  rintro⟨i,p,k,h1,h2,h3,h4⟩
  exact hm.still b o (by rw[<-l.A];exact h) ⟨r i,p,_,l.β i p h1,l.H i k h2,by rw[Blk.ren_live];exact h3,h4⟩
 inA:=fun b o h=>by rw[l.w];exact hm.inA b o (by rw[<-l.A];exact h)
 inO:=fun i p k h1 h2 hk hlt=>by rw[l.w];exact hm.inO (r i) p _ (l.β i p h1) (l.H i k h2) (by rw[Blk.ren_live];exact hk) hlt
 glob:=by rw[l.A,l.w];exact hm.glob
theorem Lies.own{mc m:M}{r:Nat->Nat}(l:Lies mc m r){b o:Nat}(h:Own mc b o):Own m b o:=by
 obtain⟨i,p,k,h1,h2,h3,h4⟩:=h
 exact⟨r i,p,_,l.β i p h1,l.H i k h2,by rw[Blk.ren_live];exact h3,h4⟩
def patch{α:Type}:List α->List Nat->List α->List α
 | G,[],bs=>G++bs
 | G,i::l,b::bs=>patch (G.set i b) l bs
 | G,_::_,[]=>G
theorem patch_out{α:Type}:∀(l:List Nat) (G bs:List α) (i:Nat),i<G.length->i ∉ l->(patch G l bs)[i]?=G[i]?
 | [],G,bs,i,hi,_=>by rw[patch,List.getElem?_append_left hi]
 | a::l,G,[],i,hi,_=>rfl
 | a::l,G,b::bs,i,hi,hn=>by
   rw[patch,patch_out l (G.set a b) bs i (by simpa using hi) (fun h=>hn (List.mem_cons_of_mem _ h)),List.getElem?_set_ne]
   intro e;exact hn (by rw[e];exact List.mem_cons_self)
theorem patch_in{α:Type}:∀(l:List Nat) (G bs:List α) (j i:Nat),l.Nodup->(∀x∈l,x<G.length)->l.length≤bs.length->l[j]?=some i->(patch G l bs)[i]?=bs[j]?
 | [],G,bs,j,i,_,_,_,h=>by simp at h
 | a::l,G,[],j,i,_,_,hl,_=>by simp at hl
 | a::l,G,b::bs,j,i,hnd,hlt,hl,h=>by
   rw[patch]
   have hnd':=List.nodup_cons.1 hnd
   cases j with
   | zero=>
     simp at h;subst h
     rw[patch_out l _ _ _ (by simpa using hlt a List.mem_cons_self) hnd'.1,List.getElem?_set_self (hlt a List.mem_cons_self)];rfl
   | succ j=>exact patch_in l (G.set a b) bs j i hnd'.2 (fun x hx=>by simpa using hlt x (List.mem_cons_of_mem _ hx)) (by simpa using hl) (by simpa using h)
theorem patch_new{α:Type}:∀(l:List Nat) (G bs:List α) (t:Nat),l.length≤bs.length->(patch G l bs)[G.length+t]?=bs[l.length+t]?
 | [],G,bs,t,_=>by rw[patch,List.getElem?_append_right (by omega)];simp
 | a::l,G,[],t,hl=>by simp at hl
 | a::l,G,b::bs,t,hl=>by
   rw[patch]
   have:=patch_new l (G.set a b) bs t (by simpa using hl)
   simp only[List.length_set]at this
   rw[this,show(a::l).length+t=(l.length+t)+1 from by simp;omega]
   rfl
theorem patch_len{α:Type}:∀(l:List Nat) (G bs:List α),l.length≤bs.length->(patch G l bs).length=G.length+(bs.length-l.length)
 | [],G,bs,_=>by simp[patch]
 | a::l,G,[],hl=>by simp at hl
 | a::l,G,b::bs,hl=>by rw[patch,patch_len l _ _ (by simpa using hl)];simp
def names(l:List Nat)(N:Nat)(j:Nat):Nat:=
 match l[j]? with
 | some i=>i
 | none=>N+(j-l.length)
def cutM(m:M)(l:List Nat)(Hc:Heap):M:=⟨m.A,l.map fun i=>(m.β[i]?).getD ⟨0,0,0⟩,Hc,m.w⟩
structure Hands (G:Heap) (l:List Nat) (Hc:Heap):Prop where
 nodup:l.Nodup
 lt:∀x∈l,x<G.length
 len:l.length=Hc.length
 H:∀(j i:Nat) b,l[j]?=some i->Hc[j]?=some b->G[i]?=some (b.ren (names l G.length))
 under:∀(j:Nat) b,Hc[j]?=some b->b.under Hc.length=true
theorem names_in{l:List Nat}{N j i:Nat}(h:l[j]?=some i):names l N j=i:=by simp[names,h]
theorem names_out{l:List Nat}{N j:Nat}(h:l.length≤j):names l N j=N+(j-l.length):=by simp[names,List.getElem?_eq_none h]
theorem nodup_get{l:List Nat}(hn:l.Nodup){i j a:Nat}(h1:l[i]?=some a)(h2:l[j]?=some a):i=j:=by
 obtain⟨g1,g2⟩:=List.getElem?_eq_some_iff.1 h1
 obtain⟨g3,g4⟩:=List.getElem?_eq_some_iff.1 h2
 exact(List.getElem_inj hn).1 (by rw[g2,g4])
theorem lies_cut{m:M}(hm:HRel m){l:List Nat}{Hc:Heap}(h:Hands m.H l Hc):Lies (cutM m l Hc) m (names l m.H.length) where
 A:=rfl
 w:=rfl
 len:=by simp[cutM,h.len]
 β:=fun j p hp=>by
  simp only[cutM,List.getElem?_map]at hp
  cases hj:l[j]? with
  | none=>rw[hj]at hp;cases hp
  | some i=>
    rw[hj]at hp
    rw[names_in hj]
    have hlt:=h.lt i (List.mem_of_getElem? hj)
    have:m.β[i]?=some (m.β[i]'(by rw[hm.len];exact hlt)):=List.getElem?_eq_getElem _
    simp only[Option.map_some,this]at hp
    rw[this]
    simpa using hp
 H:=fun j b hb=>by
  have hjl:=(List.getElem?_eq_some_iff.1 hb).1
  have hj:l[j]?=some (l[j]'(by rw[h.len];exact hjl)):=List.getElem?_eq_getElem _
  rw[names_in hj]
  exact h.H j _ b hj hb
 inj:=fun i j hi hj e=>by
  have h1:l[i]?=some (l[i]'(by rw[h.len];exact hi)):=List.getElem?_eq_getElem _
  have h2:l[j]?=some (l[j]'(by rw[h.len];exact hj)):=List.getElem?_eq_getElem _
  rw[names_in h1,names_in h2]at e
  exact nodup_get h.nodup h1 (by rw[e];exact h2)
 below:=h.under
def back(m mc':M)(l:List Nat):M:=⟨mc'.A,patch m.β l mc'.β,patch m.H l (mc'.H.map (Blk.ren (names l m.H.length))),mc'.w⟩
section back
variable {m mc':M}{l:List Nat}{Hc:Heap}
theorem back_β(hm:HRel m)(h:Hands m.H l Hc)(hl:l.length≤mc'.β.length)(j:Nat):(back m mc' l).β[names l m.H.length j]?=mc'.β[j]? :=by
 by_cases hj:j<l.length
 ·have h1:l[j]?=some l[j]:=List.getElem?_eq_getElem hj
  rw[names_in h1]
  exact patch_in l m.β mc'.β j _ h.nodup (fun x hx=>by rw[hm.len];exact h.lt x hx) hl h1
 ·rw[names_out (by omega),<-hm.len]
  have:=patch_new l m.β mc'.β (j-l.length) hl
  rw[show l.length+(j-l.length)=j from by omega]at this
  exact this
theorem back_H(h:Hands m.H l Hc)(hl:l.length≤mc'.H.length)(j:Nat):(back m mc' l).H[names l m.H.length j]?=(mc'.H[j]?).map (Blk.ren (names l m.H.length)):=by
 rw[<-List.getElem?_map]
 by_cases hj:j<l.length
 ·have h1:l[j]?=some l[j]:=List.getElem?_eq_getElem hj
  rw[names_in h1]
  exact patch_in l m.H _ j _ h.nodup h.lt (by simpa using hl) h1
 ·rw[names_out (by omega)]
  have:=patch_new l m.H (mc'.H.map (Blk.ren (names l m.H.length))) (j-l.length) (by simpa using hl)
  rw[show l.length+(j-l.length)=j from by omega]at this
  exact this
theorem back_pick(hm:HRel m)(h:Hands m.H l Hc)(hmc:HRel mc')(hl:l.length≤mc'.H.length){i:Nat}{p:Place}{k:Blk}(h1:(back m mc' l).β[i]?=some p)(h2:(back m mc' l).H[i]?=some k):
  (∃j k0,names l m.H.length j=i/\mc'.β[j]?=some p/\mc'.H[j]?=some k0/\k=k0.ren (names l m.H.length))\/(i<m.H.length/\i ∉ l/\m.β[i]?=some p/\m.H[i]?=some k):=by
 have hlβ:l.length≤mc'.β.length:=by rw[hmc.len];exact hl
 have from_j:∀j,names l m.H.length j=i->∃j k0,names l m.H.length j=i/\mc'.β[j]?=some p/\mc'.H[j]?=some k0/\k=k0.ren (names l m.H.length):=by
  intro j hj
  rw[<-hj,back_β hm h hlβ]at h1
  rw[<-hj,back_H h hl]at h2
  cases hk:mc'.H[j]? with
  | none=>rw[hk]at h2;cases h2
  | some k0=>rw[hk]at h2;cases h2;exact⟨j,k0,hj,h1,hk,rfl⟩
 by_cases hi:i<m.H.length
 ·by_cases hil:i∈l
  ·obtain⟨j,hj⟩:=List.getElem?_of_mem hil
   exact .inl (from_j j (names_in hj))
  ·refine .inr ⟨hi,hil,?_,?_⟩
   ·rw[<-h1];exact(patch_out l m.β mc'.β i (by rw[hm.len];exact hi) hil).symm
   ·rw[<-h2];exact(patch_out l m.H _ i hi hil).symm
 ·refine .inl (from_j (l.length+(i-m.H.length)) ?_)
  rw[names_out (by omega)];omega
theorem back_srel(hm:HRel m)(h:Hands m.H l Hc)(hmc:HRel mc')(hl:l.length≤mc'.H.length):∀ {v:SV} {x:Value},SRel mc' v x->SRel (back m mc' l) (v.ren (names l m.H.length)) x:=by
 have hlβ:l.length≤mc'.β.length:=by rw[hmc.len];exact hl
 have nt:∀id,NoTail mc'.H id->NoTail (back m mc' l).H (names l m.H.length id):=by
  intro id hn n hk
  rw[back_H h hl,tlOf_ren]at hk
  exact hn n hk
 have list:∀(cs:List SV) (arr:Array Value),(∀(i:Nat) c y,cs[i]?=some c->arr[i]?=some y->SRel (back m mc' l) (c.ren (names l m.H.length)) y)->
   ∀(i:Nat) c y,(rens (names l m.H.length) cs)[i]?=some c->arr[i]?=some y->SRel (back m mc' l) c y:=by
  intro cs arr ih i c y hc hy
  rw[rens_eq,List.getElem?_map]at hc
  cases hq:cs[i]? with
  | none=>rw[hq]at hc;cases hc
  | some c0=>rw[hq]at hc;cases hc;exact ih i c0 y hq hy
 intro v x hs
 induction hs with
 | t t x h=>exact .t t x h
 | sl sz es id x p h' hp ho=>
   refine .sl sz es _ x p h' (by rw[back_β hm h hlβ];exact hp) fun n hn=>ho n ?_
   rw[back_H h hl,tlOf_ren]at hn
   exact hn
 | rw id len x p hp hx ho=>
   refine .rw _ len x p (by rw[back_β hm h hlβ];exact hp) hx fun n hn=>ho n ?_
   rw[back_H h hl,tlOf_ren]at hn
   exact hn
 | tref e n id off p hp hn h0 hs=>exact .tref e n _ off p (by rw[back_β hm h hlβ];exact hp) (nt _ hn) h0 hs
 | ms sz id off len cap p hp hn hc hh=>exact .ms sz _ off len cap p (by rw[back_β hm h hlβ];exact hp) (nt _ hn) hc hh
 | cp cs off b o f h1 hA hw h'=>exact .cp cs off b o f h1 hA hw h'
 | ref id off p hp hn=>exact .ref _ off p (by rw[back_β hm h hlβ];exact hp) (nt _ hn)
 | mp id p hp hn=>exact .mp _ p (by rw[back_β hm h hlβ];exact hp) (nt _ hn)
 | yl id p hp hn=>exact .yl _ p (by rw[back_β hm h hlβ];exact hp) (nt _ hn)
 | ag cs arr hs h1 _ ih=>exact .ag _ arr (by rw[rens_eq];simpa using hs) h1 (list cs arr ih)
 | tup cs arr hs _ ih=>exact .tup _ arr (by rw[rens_eq];simpa using hs) (list cs arr ih)
 | fn f cs arr hs _ ih=>exact .fn f _ arr (by rw[rens_eq];simpa using hs) (list cs arr ih)
 | bnd f cs arr hs _ ih=>exact .bnd f _ arr (by rw[rens_eq];simpa using hs) (list cs arr ih)
 | ifc ty s x _ ih=>exact .ifc ty _ x ih
 | any x=>exact .any x
theorem back_ok(hm:HRel m)(h:Hands m.H l Hc)(s:Step (cutM m l Hc) mc')(hmc:HRel mc'):Step m (back m mc' l)/\HRel (back m mc' l):=by
 have lies:=lies_cut hm h
 have hl:l.length≤mc'.H.length:=by
  rw[<-hmc.len]
  by_cases h0:l.length=0
  ·omega
  ·have hlt:l.length-1<(cutM m l Hc).β.length:=by simp[cutM];omega
   obtain⟨p',hp',_⟩:=s.ids (l.length-1) _ (List.getElem?_eq_getElem hlt)
   have:=(List.getElem?_eq_some_iff.1 hp').1
   omega
 have hlβ:l.length≤mc'.β.length:=by rw[hmc.len];exact hl
 have far:∀(i:Nat) p k,i<m.H.length->i ∉ l->m.β[i]?=some p->m.H[i]?=some k->k.live=true->∀o,p.lo≤o->o<p.hi->¬Own (cutM m l Hc) p.b o:=by
  rintro i p k hi hil h1 h2 hk o ho ho' ⟨j,q,kq,g1,g2,g3,g4,g5,g6⟩
  have hjl:j<l.length:=by have:=(List.getElem?_eq_some_iff.1 g1).1;simpa [cutM]using this
  have hj:l[j]?=some l[j]:=List.getElem?_eq_getElem hjl
  have:=hm.apart i (names l m.H.length j) p q k _ (by rw[names_in hj];intro e;exact hil (by rw[e];exact List.getElem_mem hjl)) h1 h2 (lies.β j q g1) (lies.H j kq g2) hk (by rw[Blk.ren_live];exact g3) g4.symm
  omega
 have st:Step m (back m mc' l):=by
  refine⟨s.os,s.tape,s.output,s.size,s.more,fun b o hA=>?_,fun b o hO=>?_,fun b o hb hn=>s.cell b o hb fun hO=>hn (lies.own hO),fun b o hb hn hc=>s.frozen b o hb (fun hO=>hn (lies.own hO)) hc,fun b hb hn=>s.block b hb fun o hO=>hn o (lies.own hO),s.shape,s.loop,s.isSome,fun i p hp=>?_⟩
  ·rcases s.fromA b o hA with g|g|g
   ·exact .inl g
   ·exact .inr (.inl (lies.own g))
   ·exact .inr (.inr g)
  ·obtain⟨i,p,k,g1,g2,g3,g4⟩:=hO
   rcases back_pick hm h hmc hl g1 g2 with ⟨j,k0,q1,q2,q3,rfl⟩|⟨q1,q2,q3,q4⟩
   ·rcases s.fromO b o ⟨j,p,k0,q2,q3,by rw[Blk.ren_live]at g3;exact g3,g4⟩ with g|g
    ·exact .inl (lies.own g)
    ·exact .inr g
   ·exact .inl ⟨i,p,k,q3,q4,g3,g4⟩
  ·have hi:=(List.getElem?_eq_some_iff.1 hp).1
   by_cases hil:i∈l
   ·obtain⟨j,hj⟩:=List.getElem?_of_mem hil
    have hjl:=(List.getElem?_eq_some_iff.1 hj).1
    have hcβ:(cutM m l Hc).β[j]?=some p:=by simp[cutM,hj,hp]
    obtain⟨p',hp',hid⟩:=s.ids j p hcβ
    refine⟨p',by rw[<-names_in (N:=m.H.length) hj,back_β hm h hlβ];exact hp',?_⟩
    obtain⟨b,hb⟩:∃b,Hc[j]?=some b:=⟨_,List.getElem?_eq_getElem (by rw[<-h.len];exact hjl)⟩
    have hHi:=h.H j i b hj hb
    have hHb:=back_H (mc':=mc') h hl j
    rw[names_in hj]at hHb
    rw[hHi,hHb]
    have hcH:(cutM m l Hc).H[j]?=some b:=hb
    rw[hcH]at hid
    unfold IdStep at hid⊢
    rw[show tlOf (some (b.ren (names l m.H.length)))=tlOf (some b) from tlOf_ren _ (some b),tlOf_ren]
    exact hid
   ·refine⟨p,by rw[<-hp];exact patch_out l m.β mc'.β i hi hil,idStep_same ?_⟩
    exact patch_out l m.H _ i (by rw[<-hm.len];exact hi) hil
 refine⟨st,?_,fun i p k h1 h2=>?_,fun i j p q k k' hij h1 h2 h3 h4 hk hk'=>?_,fun b o hA=>?_,hmc.inA,fun i p k h1 h2 hk hlt=>?_,st.glob hm⟩
 ·show(patch m.β l mc'.β).length=(patch m.H l _).length
  rw[patch_len l _ _ hlβ,patch_len l _ _ (by simpa using hl)]
  simp[hm.len,hmc.len]
 ·rcases back_pick hm h hmc hl h1 h2 with ⟨j,k0,q1,q2,q3,rfl⟩|⟨q1,q2,q3,q4⟩
  ·have hb:=hmc.blk j p k0 q2 q3
   cases k0 with
   | cells cs=>
     obtain⟨b1,b2,b3⟩:=hb
     refine⟨by rw[rens_eq];simpa using b1,b2,fun j c hc=>?_⟩
     rw[rens_eq,List.getElem?_map]at hc
     cases hq:cs[j]? with
     | none=>rw[hq]at hc;cases hc
     | some c0=>
       rw[hq]at hc;cases hc
       obtain⟨y,y1,y0,y2⟩:=b3 j c0 hq
       exact⟨y,y1,y0,back_srel hm h hmc hl y2⟩
   | tail n=>exact hb
   | row e cs=>exact hb
   | map kt vt es=>exact hb
   | loop fn st pe n env ps aas bo=>
     obtain⟨b1,b2,L,b3,b4,b5⟩:=hb
     refine⟨b1,b2,L,b3,b4,b5.1,fun j v hv=>?_⟩
     rw[Env.look_ren]at hv
     cases hq:Env.look env j with
     | none=>rw[hq]at hv;cases hv
     | some v0=>
       rw[hq]at hv;cases hv
       obtain⟨x,x1,x2⟩:=b5.2 j v0 hq
       exact⟨x,x1,back_srel hm h hmc hl x2⟩
   | dead=>trivial
  ·have hb:=hm.blk i p k q3 q4
   cases hlv:k.live with
   | false=>cases k <;> simp[Blk.live]at hlv;trivial
   | true=>
     refine hb.step hm st (fun o ho ho'=>?_) (fun e=>?_)
     ·have hps:=hm.inO i p k q3 q4 hlv (by omega)
      exact⟨s.cell _ _ hps (far i p k q1 q2 q3 q4 hlv o ho ho'),fun hc=>s.frozen _ _ hps (far i p k q1 q2 q3 q4 hlv o ho ho') hc⟩
     ·obtain⟨e1,e2,e3⟩:=hb.obj_place e
      have hps:=hm.inO i p _ q3 q4 hlv (by omega)
      refine s.block _ hps fun o hO=>?_
      obtain⟨j,q,kq,g1,g2,g3,g4,g5,g6⟩:=lies.own hO
      have hjb:=hm.blk j q kq g1 g2
      by_cases hji:j=i
      ·subst hji
       have hpq:q=p:=by rw[q3]at g1;cases g1;rfl
       subst hpq
       have:o=0:=by omega
       subst this
       exact far j q _ q1 q2 q3 q4 hlv 0 (by omega) (by omega) hO
      ·cases kq with
       | cells cs=>
         have:=(hjb.2.1 o g5 g6).1
         rw[g4,e3]at this
         cases this
       | tail n=>
         have:=(hjb o g5 g6).1
         rw[g4,e3]at this
         cases this
       | row e cs=>
         have:=(hjb.2.1 o g5 g6).1
         rw[g4,e3]at this
         cases this
       | map kt' vt' es'=>
         obtain⟨f1,f2,_⟩:=hjb
         have:=hm.apart i j p q _ _ (fun e=>hji e.symm) q3 q4 g1 g2 hlv rfl g4.symm
         omega
       | loop fn' st' pe' n' env' ps' aas' bo'=>
         obtain⟨f1,f2,_⟩:=hjb
         have:=hm.apart i j p q _ _ (fun e=>hji e.symm) q3 q4 g1 g2 hlv rfl g4.symm
         omega
       | dead=>simp[Blk.live]at g3
 ·have mix:∀(i j:Nat) p q k0 k',i<m.H.length->i ∉ l->m.β[i]?=some p->m.H[i]?=some k'->k'.live=true->mc'.β[j]?=some q->mc'.H[j]?=some k0->k0.live=true->p.apart q:=by
   intro i j p q k0 k' hi hil g1 g2 g3 g4 g5 g6 e
   by_cases hov:p.lo<q.hi/\q.lo<p.hi/\p.lo<p.hi/\q.lo<q.hi
   ·exfalso
    have hO:Own mc' p.b (max p.lo q.lo):=⟨j,q,k0,g4,g5,g6,e.symm,by omega,by omega⟩
    rcases s.fromO _ _ hO with g|g
    ·exact far i p k' hi hil g1 g2 g3 _ (by omega) (by omega) g
    ·have:=hm.inO i p k' g1 g2 g3 (by omega)
     have hw:(cutM m l Hc).w=m.w:=rfl
     rw[hw]at g
     omega
   ·omega
  rcases back_pick hm h hmc hl h1 h2 with ⟨a,k0,q1,q2,q3,rfl⟩|⟨q1,q2,q3,q4⟩ <;> rcases back_pick hm h hmc hl h3 h4 with ⟨b,k1,r1,r2,r3,rfl⟩|⟨r1,r2,r3,r4⟩
  ·exact hmc.apart a b p q k0 k1 (fun e=>hij (by rw[<-q1,<-r1,e])) q2 q3 r2 r3 (by rw[Blk.ren_live]at hk;exact hk) (by rw[Blk.ren_live]at hk';exact hk')
  ·intro e
   have:=mix j a q p k0 k' r1 r2 r3 r4 hk' q2 q3 (by rw[Blk.ren_live]at hk;exact hk) e.symm
   omega
  ·exact mix i b p q k1 k q1 q2 q3 q4 hk r2 r3 (by rw[Blk.ren_live]at hk';exact hk')
  ·exact hm.apart i j p q k k' hij q3 q4 r3 r4 hk hk'
 ·rintro⟨i,p,k,h1,h2,h3,h4,h5,h6⟩
  rcases back_pick hm h hmc hl h1 h2 with ⟨a,k0,q1,q2,q3,rfl⟩|⟨q1,q2,q3,q4⟩
  ·exact hmc.still b o hA ⟨a,p,k0,q2,q3,by rw[Blk.ren_live]at h3;exact h3,h4,h5,h6⟩
  ·rcases s.fromA b o hA with g|g|g
   ·exact hm.still b o g ⟨i,p,k,q3,q4,h3,h4,h5,h6⟩
   ·exact far i p k q1 q2 q3 q4 h3 o h5 h6 (by rw[h4];exact g)
   ·have:=hm.inO i p k q3 q4 h3 (by omega)
    have hw:(cutM m l Hc).w=m.w:=rfl
    rw[hw]at g
    omega
 ·rcases back_pick hm h hmc hl h1 h2 with ⟨a,k0,q1,q2,q3,rfl⟩|⟨q1,q2,q3,q4⟩
  ·exact hmc.inO a p k0 q2 q3 (by rw[Blk.ren_live]at hk;exact hk) hlt
  ·exact Nat.lt_of_lt_of_le (hm.inO i p k q3 q4 hk hlt) s.size
end back
end Go.TL
