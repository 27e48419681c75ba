import Derived.Test.YtpnnpgbaiobbjaaGreatDoorBk36
set_option linter.all false
namespace Go.Proofs.YtpnnpgbaiobbjaaGreatDoor
open Go Go.TL
attribute [local irreducible] TR TO Then zap RetK Sound zab Kf GG za3
def gR:Nat->Nat->Nat
 | 0,_=>0
 | k+1,v=>8*(8*v+400)+64*gR k (2*v+300)
def gE:Nat->Nat
 | 0=>0
 | k+1=>8+64*gE k
def gB:Nat->Nat
 | 0=>1
 | k+1=>64*gB k+1
def cQ(v:Nat):Nat:=2215000+8*(324+135*v)+465*(v+2)
structure NdK (es:List En) (k v:Nat) (n:Nod):Prop where
 hal:n.autos.length≤8
 vars:(zav n).length≤v
 clk:∀d∈zav n,d.clock.length≤4
 eqs:n.eqs.length≤1000
 autos:∀a∈n.autos,OkA es k a/\(zae a).w≤2200000
 sh:∀d∈zav n,Sh d.name
 w:(nodT n).w≤2201500+100*v
theorem ztK{es:List En}{d:Decl}(h:OkD es d):Sh d.name:=(zqY h.name).1
theorem zvX{a:Auto}{s:Sta}(hs:s∈a.states):(staT s).w≤(zae a).w:=by
 have h3:=zau (f:=staT) (sz:=6) hs
 have h4:=zbH a
 omega
theorem zsp{es:List En}{k v n:Nat}{au:Auto}{s:Sta}{vars L0:List Decl}(hv:vars.length≤v)(hvs:∀d∈vars,Sh d.name)(ha:OkA es (k+1) au)(hw:(zae au).w≤2200000)(hs:s∈au.states)(x:KS)(i:Nat)(hd:x.defs=zaZ vars au)(hk:KW L0 (n+9) x):NdK es k (2*v+300) (zcK x i s vars).2:=by
 obtain⟨_,ho⟩:=ha
 have hS:=ho s hs
 obtain⟨f1,f2,f3,f4,f5⟩:=hS.few
 have hi:=zkU x i s vars
 have hdl:=zhj vars au
 have hic:=zkb (zbM 100000000 s) x.defs vars [] (by simp)
 have hdc:=zlb vars au
 obtain⟨u1,u2,u3⟩:=zoK x.t s.unt ((frF (frF (frF x.a zbT).1 zbt).1 zcr).1,⟨[],[],s.locals,s.eqs⟩)
 dsimp only at u1 u2 u3
 rw[<-hd]at hdl hdc
 obtain⟨b1,b2⟩:=zv5 hk (v:=v) (by omega) hv hvs i s f5 fun d hd=>ztK (hS.locals d hd)
 have b3:=zvX hs
 refine⟨f3,?_,?_,?_,fun a ha=>⟨hS.autos a ha,qaC (zsn hs ha) hw⟩,b2,qaC b1 (by have b4:=qaC b3 hw;clear b1 b2;omega)⟩
 ·rw[zgz]
  show((zcK x i s vars).2.ins++(x.defs++[_,_])++(s.unt.foldl (untF x.t) _).2.locals).length≤_
  exact zwfy
 ·intro d hdm
  rw[zgz]at hdm
  have hdm:d∈vars.foldl (insF (zbM 100000000 s) x.defs) []++(x.defs++[_,_])++(s.unt.foldl (untF x.t) _).2.locals:=hdm
  rcases qaF.1 hdm with h|h
  ·rcases qaF.1 h with h|h
   ·rw[hic d h];exact qaK _
   ·rcases qaF.1 h with h|h
    ·rw[hdc d h];exact qaK _
    ·simp only[qbd,qb8,or_false]at h
     rcases h with rfl|rfl <;> exact qaK _
  ·rcases u3 d h with h|h
   ·exact(hS.locals d h).few
   ·rw[h];exact qaK _
 ·show((s.unt.foldl (untF x.t) _).2.eqs++[_,_]).length≤_
  exact zwfy
theorem zje{P:Nod->Prop}{vars L0 D:List Decl}{v:Nat}(hv:∀d∈vars,Sh d.name)(hD:D.length≤v):∀(l:List Sta) (n:Nat) (q:Nat×KS),(∀s∈l,s.unt.length≤4)->KW L0 (n+l.length*(v+9)) q.2->q.2.defs=D->(∀b∈q.2.bodies,P b)->(∀x i s n,s∈l->x.defs=D->KW L0 (n+9) x->P (zcK x i s vars).2)->∀b∈(l.foldl (fun(p:Nat×KS) s=>(p.1+1,zdT p.2 p.1 s vars)) q).2.bodies,P b
 | [],n,q,_,_,_,h,_=>h
 | s::l,n,q,hu,hk,hd,h,hP=>by
   rw[qam,qba,<-qa1]at hk
   rw[qaT]
   refine zje hv hD l n _ (fun t ht=>hu t (qar _ ht)) (KW.body (v:=v) hk (by rw[hd];exact hD) hv q.1 s (hu s (qas ..))) hd (fun b hb=>?_) fun x i t n ht=>hP x i t n (qar _ ht)
   rcases qaF.1 (show b∈q.2.bodies++[(zcK q.2 q.1 s vars).2] from hb)with hb|hb
   ·exact h b hb
   ·rw[qaJ.1 hb]
    exact hP _ _ s (n+l.length*(v+9)+v) (qas ..) hd hk
theorem zov{es:List En}{k v:Nat}{n:Nod}(h:NdK es k v n)(hv:v≤90000)(s:List Str×List En)
  (hau:∀au∈n.autos,au.states.length≤8/\∀x∈au.states,x.unl.length≤4/\x.unt.length≤4)
  (hR:∀j (h:j<n.autos.length),Room (autJ s n j).a ((zaZ (zav n) n.autos[j]).length*8+400)/\(autJ s n j).L.length≤10000000/\(autJ s n j).Q.length≤10000000/\(autJ s n j).es.length≤10000000/\(autJ s n (j+1)).bs.length≤1000000)
  (hB:(autJ s n n.autos.length).bs.length≤1000000):zmf s n:=by
 have h1:=h.vars
 have hl:=zhx n
 have h2:=h.eqs
 exact⟨h.hal,zcz n ⟨by omega,by omega,by omega⟩ fun d hd=>qaC (h.clk d hd) (by decide),by omega,by omega,by omega,fun au ha=>⟨qaC (h.autos au ha).2 (by decide),(hau au ha).1,(hau au ha).2,by have:=zhj (zav n) au;omega⟩,hR,hB⟩
theorem zr5(n:Nod):(nodT n).w=9+n.name.length+wsum zaa n.ins+wsum zaa n.outs+wsum zaa n.locals+wsum equT n.eqs+wsum zae n.autos+wsum exT n.assume+wsum exT n.ensure:=by
 rw[nodT,w_ag]
 simp only[qaj,qaw,qan,qaG,znM,w_s]
 omega
theorem zoX(s:Lc)(es:List En)(c:Nc)(Q:List T)(vars:List Decl)(au:Auto)(hl:au.states.length≤8)(hu:∀x∈au.states,x.unl.length≤4/\x.unt.length≤4)(h:Room s.1 ((zaZ vars au).length*8+400)):
  (∀b∈(zbA s es c Q vars au).bodies,b.ins.length≤vars.length)/\(∀p∈(zbA s es c Q vars au).parts,p.length=(zaZ vars au).length+2):=by
 have h1:=zn1 s es c Q vars au hl hu 0 (h.mono (by omega))
 exact⟨h1.ins,h1.pa⟩
structure AJ (es:List En) (k v N:Nat) (s:List Str×List En) (n:Nod) (j:Nat) (r:NS):Prop where
 room:Room r.a (N+64*gR k (2*v+300)+(8-j)*(8*v+400))
 L:r.L.length≤v+j*(8*(v+2)+42)
 Q:r.Q.length≤1000+j*(v+100)
 esl:r.es.length=s.2.length+j
 bs:r.bs.length≤8*j
 all:∀b∈r.bs,NdK es k (2*v+300) b
 wl:wsum zaa r.L≤wsum zaa n.locals+j*(100*(8*(v+2)+42))
 wq:wsum equT r.Q≤wsum equT n.eqs+j*cQ v
 tg:∀u∈r.es,u.tags.length≤16
theorem zrq{es:List En}{k:Nat}{a:Auto}(h:OkA es (k+1) a):a.states.length≤8/\∀x∈a.states,x.unl.length≤4/\x.unt.length≤4:=⟨h.1,fun x hx=>⟨(h.2 x hx).few.2.2.2.1,(h.2 x hx).few.2.2.2.2⟩⟩
theorem AJ.next{es:List En}{k v N j:Nat}{s:List Str×List En}{n:Nod}{r:NS}(hn:NdK es (k+1) v n)(h:AJ es k v N s n j r)(hj:j<8){au:Auto}(ha:au∈n.autos):AJ es k v N s n (j+1) (zeg (ncOf n) (zav n) r au):=by
 obtain⟨hA,hw⟩:=hn.autos au ha
 obtain⟨f1,f2⟩:=zrq hA
 have hd:=zhj (zav n) au
 have hv:=hn.vars
 have hsub:(8-j)*(8*v+400)=(8-(j+1))*(8*v+400)+(8*v+400):=by
  rw[show 8-j=8-(j+1)+1 by omega,qba]
 have hR:Room r.a (N+64*gR k (2*v+300)+(8-(j+1))*(8*v+400)+((zaZ (zav n) au).length*8+400)):=h.room.mono (by rw[hsub];omega)
 have y1:=zoY (r.a,r.L) r.es (ncOf n) (r.Q.map equT) (zav n) au f1 f2 _ hR
 have y2:=zub (r.a,r.L) r.es (ncOf n) (r.Q.map equT) (zav n) au f1 f2 (hR.mono (by omega))
 obtain⟨_,_,_,y3,y4,y5⟩:=zn2 (r.a,r.L) r.es (ncOf n) (r.Q.map equT) (zav n) au f1 f2 (hR.mono (by omega))
 have y6:=zqF (zbA (r.a,r.L) r.es (ncOf n) (r.Q.map equT) (zav n) au) (by rw[y3];exact fun x hx=>(f2 x hx).1)
 rw[y3,y4,y5]at y6
 obtain⟨h1,h2,h3,h4,h5,h6,h7,h8,h9⟩:=h
 obtain⟨k1,k2,k3⟩:=KW.auto (s:=(r.a,r.L)) (es:=r.es) (c:=ncOf n) (Q:=r.Q.map equT) (vars:=zav n) (au:=au) (n:=0) (v:=v) hn.sh f1 f2 (by omega) (h1.mono (by omega))
 refine⟨y1,?_,?_,?_,?_,fun b hb=>?_,?_,?_,fun u hu=>?_⟩
 ·show(zbA _ _ _ _ _ _).L.length≤_
  rw[qba]
  dsimp only at y2
  omega
 ·show(r.Q++zfE _).length≤_
  rw[qaf,qba]
  omega
 ·show(r.es++[_]).length=_
  rw[qaf,h4]
  simp[qa1]
 ·show(r.bs++(zbA _ _ _ _ _ _).bodies).length≤_
  rw[qaf,y5]
  omega
 ·rcases qaF.1 (show b∈r.bs++(zbA _ _ _ _ _ _).bodies from hb)with hb|hb
  ·exact h6 b hb
  ·have hm:au.states.length*(v+9)≤8*(v+9):=qaD _ f1
   obtain⟨k4,_,_⟩:=KW.start (s:=(r.a,r.L)) (es:=r.es) (c:=ncOf n) (Q:=r.Q.map equT) (vars:=zav n) (au:=au) (n:=au.states.length*(v+9)) hn.sh f1 (fun x hx=>(f2 x hx).1) (h1.mono (by omega))
   exact zje hn.sh (v:=v) (D:=zaZ (zav n) au) (qaC hd hv) au.states 0 (0,zb2 (r.a,r.L) r.es (ncOf n) (r.Q.map equT) (zav n) au) (fun x hx=>(f2 x hx).2) (by rw[qaO];exact k4) rfl (fun b hb=>by cases hb) (fun x i t n ht hx hk=>zsp hv hn.sh hA hw ht x i hx hk) b hb
 ·have:=k1.lc.ext.w
  show wsum zaa (zbA _ _ _ _ _ _).L≤_
  rw[qba]
  dsimp only at y2 this
  omega
 ·obtain⟨g1,g2⟩:=zoX (r.a,r.L) r.es (ncOf n) (r.Q.map equT) (zav n) au f1 f2 (hR.mono (by omega))
  have hW:wsum staT au.states≤2200000:=by
   have e1:=zbH au
   rw[znM]at e1
   omega
  have e2:=zv6 (v:=v) k1 ⟨k2,k3⟩ (by rw[y3];exact f1) (by rw[y3];exact fun x hx=>(f2 x hx).1) (by rw[y3];exact hW) (by rw[y4];omega) (by rw[y5];exact f1) (fun b hb=>qaC (g1 b hb) hv) (fun p hp=>by rw[g2 p hp];omega)
  show wsum equT (r.Q++zfE _)≤_
  rw[zcX,qba]
  unfold cQ at h8⊢
  omega
 ·rcases qaF.1 (show u∈r.es++[_] from hu)with hu|hu
  ·exact h9 u hu
  ·rw[qaJ.1 hu]
   show(zb7 _ au.states).2.length≤_
   rw[show(zb7 (frF r.a zc5).1 au.states).2.length=au.states.length from zcC _ _ _]
   omega
theorem AJ.zvh{es:List En}{k v N:Nat}{s:List Str×List En}{n:Nod}(hn:NdK es (k+1) v n)(hR:Room s.1 (N+gR (k+1) v))(ht:∀u∈s.2,u.tags.length≤16):∀j,j≤n.autos.length->AJ es k v N s n j (autJ s n j)
 | 0,_=>by
   have h1:=hn.vars
   have hl:=zhx n
   refine⟨hR.mono (by rw[show gR (k+1) v=8*(8*v+400)+64*gR k (2*v+300) from rfl];omega),?_,?_,rfl,qaK _,(fun b hb=>by cases hb),qbW _ _,qbW _ _,ht⟩
   ·show n.locals.length≤_
    omega
   ·show n.eqs.length≤_
    have:=hn.eqs
    omega
 | j+1,hj=>by
   have h:=AJ.zvh hn hR ht j (by omega)
   have hs:autJ s n (j+1)=zeg (ncOf n) (zav n) (autJ s n j) n.autos[j]:=zam _ _ (by omega)
   rw[hs]
   exact h.next hn (by have:=hn.hal;omega) (qad _)
set_option maxRecDepth 8000 in
theorem zou (es:List En):∀(k v:Nat) (s:List Str×List En) (n:Nod) (N:Nat),NdK es k v n->2 ^ k*(v+300)≤5472->Room s.1 (N+gR k v)->s.2.length+gE k≤10000000->gB k≤1000000->(∀u∈s.2,u.tags.length≤16)->
  NodX (k+1) s n/\Room (zaG (k+1) s n).1.1 N/\(zaG (k+1) s n).1.2.length≤s.2.length+gE k/\(zaG (k+1) s n).2.length≤gB k/\(∀u∈(zaG (k+1) s n).1.2,u.tags.length≤16)/\(∀b∈(zaG (k+1) s n).2,(nodT b).w≤90000000)
 | 0,v,s,n,N,h,hv,hR,hE,_,ht=>by
   have ha:n.autos=[]:=by
    rcases hq:n.autos with _|⟨a,l⟩
    ·rfl
    ·exact absurd (h.autos a (by rw[hq];exact qas ..)).1 id
   have hb:∀s,(autJ s n n.autos.length).bs=[]:=fun s=>by rw[ha];rfl
   have hp:∀s,zmf s n:=fun s=>zov h (by omega) s (fun au hau=>by rw[ha]at hau;cases hau) (fun j hj=>by rw[ha]at hj;exact absurd hj (qbJ _)) (by rw[hb];exact qaK _)
   have hf:zaG 1 s n=((s.1,s.2),[{ n with autos:=[] }]):=by
    unfold zaG
    rw[ha]
    rfl
   refine⟨⟨hp s,fun j hj=>?_,?_⟩,?_,?_,?_,?_,fun b hb1=>?_⟩
   ·rw[hb]at hj
    exact absurd hj (qbJ _)
   ·rw[hb]
    exact qaK _
   ·rw[hf]
    exact hR.mono (by omega)
   ·rw[hf]
    exact qbW _ _
   ·rw[hf]
    exact qag _
   ·rw[hf]
    exact ht
   ·rw[hf]at hb1
    rw[qaJ.1 hb1]
    have h1:=h.w
    rw[zr5]at h1⊢
    have hz:wsum zae []=0:=rfl
    dsimp only
    omega
 | k+1,v,s,n,N,h,hv,hR,hE,hB,ht=>by
   have hA:=AJ.zvh h hR ht
   have h8:=h.hal
   have hv2:v≤2436/\2 ^ k*(2*v+300+300)≤5472:=by
    rw[Nat.pow_succ,Nat.mul_assoc]at hv
    have h1:1≤2 ^ k:=Nat.one_le_two_pow
    refine⟨?_,by rw[show 2*v+300+300=2*(v+300) by omega];exact hv⟩
    have:1*(2*(v+300))≤2 ^ k*(2*(v+300)):=qaD _ h1
    omega
   have hgE:gE (k+1)=8+64*gE k:=rfl
   have hgB:gB (k+1)=64*gB k+1:=rfl
   have hP:zmf s n:=by
    refine zov h (by omega) s (fun au ha=>zrq (h.autos au ha).1) (fun j hj=>?_) ?_
    ·obtain⟨a1,a2,a3,a4,a5,a6,_,_,_⟩:=hA j (by omega)
     have b5:=(hA (j+1) (by omega)).bs
     have hd:=zhj (zav n) n.autos[j]
     have hvv:=h.vars
     have hm:1*(8*v+400)≤(8-j)*(8*v+400):=qaD _ (by omega)
     have hm2:j*(8*(v+2)+42)≤8*(8*(v+2)+42):=qaD _ (by omega)
     have hm3:j*(v+100)≤8*(v+100):=qaD _ (by omega)
     exact⟨a1.mono (by omega),by omega,by omega,by omega,by omega⟩
    ·have:=(hA n.autos.length (qag _)).bs
     omega
   obtain⟨a1,a2,a3,a4,a5,a6,a7,a8,a9⟩:=hA n.autos.length (qag _)
   have hr:n.autos.foldl (zeg (ncOf n) (zav n)) ⟨s.1,s.2,n.locals,n.eqs,[]⟩=autJ s n n.autos.length:=by unfold autJ;rw[qae]
   generalize hr2:autJ s n n.autos.length=r at*
   have hJ:∀j,j≤r.bs.length->Room (bodJ (k+1) r j).1.1 (N+(64-j)*gR k (2*v+300))/\(bodJ (k+1) r j).1.2.length≤r.es.length+j*gE k/\(bodJ (k+1) r j).2.length≤j*gB k/\(∀i (h:i<r.bs.length),i<j->NodX (k+1) (bodJ (k+1) r i).1 r.bs[i])/\(∀u∈(bodJ (k+1) r j).1.2,u.tags.length≤16)/\(∀b∈(bodJ (k+1) r j).2,(nodT b).w≤90000000):=by
    intro j
    induction j with
    | zero=>
      intro _
      exact⟨a1.mono (by omega),by show r.es.length≤_;omega,qaK _,fun i _ hi=>absurd hi (qbJ _),a9,fun b hb=>by cases hb⟩
    | succ j ih=>
      intro hj
      obtain⟨i1,i2,i3,i4,i5,i6⟩:=ih (by omega)
      have hst:bodJ (k+1) r (j+1)=((zaG (k+1) (bodJ (k+1) r j).1 r.bs[j]).1,(bodJ (k+1) r j).2++(zaG (k+1) (bodJ (k+1) r j).1 r.bs[j]).2):=zam (fun(p:(List Str×List En)×List Nod) b=>((zaG (k+1) p.1 b).1,p.2++(zaG (k+1) p.1 b).2)) _ (by omega)
      have hm:(64-j)*gR k (2*v+300)=(64-(j+1))*gR k (2*v+300)+gR k (2*v+300):=by
       rw[show 64-j=64-(j+1)+1 by omega,qba]
      have hm2:(j+1)*gE k≤64*gE k:=qaD _ (by omega)
      rw[qba]at hm2
      obtain⟨n1,n2,n3,n4,n5,n6⟩:=zou es k (2*v+300) (bodJ (k+1) r j).1 r.bs[j] (N+(64-(j+1))*gR k (2*v+300)) (a6 _ (qad _)) hv2.2 (i1.mono (by omega)) (by omega) (by omega) i5
      rw[hst]
      refine⟨n2,?_,?_,fun i hi hij=>?_,n5,fun b hb=>?_⟩
      ·dsimp only
       rw[qba]
       omega
      ·dsimp only
       rw[qaf,qba]
       omega
      ·by_cases he:i=j
       ·subst he
        exact n1
       ·exact i4 i hi (by omega)
      ·rcases qaF.1 hb with hb|hb
       ·exact i6 b hb
       ·exact n6 b hb
   obtain⟨j1,j2,j3,j4,j5,j6⟩:=hJ r.bs.length (qag _)
   have hb64:r.bs.length≤64:=by omega
   have hmE:r.bs.length*gE k≤64*gE k:=qaD _ hb64
   have hmB:r.bs.length*gB k≤64*gB k:=qaD _ hb64
   have hq:r.bs.foldl (fun(p:(List Str×List En)×List Nod) b=>((zaG (k+1) p.1 b).1,p.2++(zaG (k+1) p.1 b).2)) ((r.a,r.es),[])=bodJ (k+1) r r.bs.length:=by unfold bodJ;rw[qae]
   have hf:zaG (k+1+1) s n=((bodJ (k+1) r r.bs.length).1,(bodJ (k+1) r r.bs.length).2++[{ n with locals:=r.L,eqs:=r.Q,autos:=[] }]):=by
    rw[zaG,hr,hq]
   refine⟨?_,?_,?_,?_,by rw[hf];exact j5,fun b hb=>?_⟩
   ·unfold NodX
    rw[hr2]
    refine⟨hP,fun j hj=>⟨j4 j hj hj,?_⟩,?_⟩
    ·have h1:=(hJ (j+1) (by omega)).2.2.1
     have h2:(j+1)*gB k≤64*gB k:=qaD _ (by omega)
     omega
    ·omega
   ·rw[hf]
    exact j1.mono (by omega)
   ·rw[hf]
    dsimp only
    omega
   ·rw[hf]
    dsimp only
    rw[qaf,qam,qaE]
    omega
   ·rw[hf]at hb
    rcases qaF.1 hb with hb|hb
    ·exact j6 b hb
    ·rw[qaJ.1 hb]
     have h1:=h.w
     have h2:n.autos.length*(100*(8*(v+2)+42))≤8*(100*(8*(v+2)+42)):=qaD _ h8
     have h3:n.autos.length*cQ v≤8*cQ v:=qaD _ h8
     rw[zr5]at h1⊢
     have hz:wsum zae []=0:=rfl
     unfold cQ at a8 h3
     dsimp only
     omega
theorem zh9(a:List Str)(e:Ex):(zbr a e).length≤a.length+(exT e).w:=by
 have h1:=zdl (f:=oneA) (g:=fun _=>1) (l:=flat e) (a:=a) fun a x _=>by
  unfold oneA
  split
  ·omega
  ·exact zcj a x.name
 have h2:=zdh e
 have h3:=zcT e
 rw[zgu]at h1
 unfold zbr
 omega
theorem zlA:∀(m:Nat) (a:List Str) (qs:List Equ) (l:List Auto),(zcF m a qs l).length≤a.length+(T.sl 7 (qs.map equT)).w+(T.sl 1 (l.map zae)).w
 | 0,a,_,_=>by rw[zcF];omega
 | m+1,a,qs,l=>by
   rw[zcF]
   have h1:=za5 (f:=fun(a:List Str) (q:Equ)=>zbr (q.left.foldl ins a) q.right) (g:=equT) 7 (l:=qs) (a:=a) fun a q _=>by
    have h2:=zh9 (q.left.foldl ins a) q.right
    have h3:=zkf q.left a
    have h4:=zai T.s 1 q.left
    rw[znM]at h4
    rw[zr3]
    omega
   have h4:=za5 (f:=fun(a:List Str) (x:Auto)=>x.states.foldl (fun a s=>(s.unl++s.unt).foldl (fun a t=>zbr a t.cond) (zcF m (zaE (ins a s.name) s.locals) s.eqs s.autos)) a) (g:=zae) 1 (l:=l) (a:=qs.foldl (fun a q=>zbr (q.left.foldl ins a) q.right) a) fun a x _=>by
    have h5:=za5 (f:=fun(a:List Str) (s:Sta)=>(s.unl++s.unt).foldl (fun a t=>zbr a t.cond) (zcF m (zaE (ins a s.name) s.locals) s.eqs s.autos)) (g:=staT) 6 (l:=x.states) (a:=a) fun a s _=>by
     have h6:=zlA m (zaE (ins a s.name) s.locals) s.eqs s.autos
     have h7:=zeQ (ins a s.name) s.locals
     have h8:=zcj a s.name
     have ht:∀(l:List Tran) (a:List Str),(l.foldl (fun a t=>zbr a t.cond) a).length≤a.length+(T.sl 8 (l.map zah)).w:=fun l a=>za5 8 fun a t _=>by
      have h2:=zh9 a t.cond
      have h3:=zr6 t
      omega
     rw[qa5]
     have h9:=ht s.unl (zcF m (zaE (ins a s.name) s.locals) s.eqs s.autos)
     have h10:=ht s.unt (s.unl.foldl (fun a t=>zbr a t.cond) (zcF m (zaE (ins a s.name) s.locals) s.eqs s.autos))
     exact zwcn
    have h9:=zbH x
    omega
   omega
theorem zq8(m:Nat)(a:List Str)(n:Nod):(zfX m a n).length≤a.length+2*(nodT n).w:=by
 have h1:=zcj a n.name
 have h2:=zeQ (ins a n.name) (zav n)
 have h3:=zlA m (zaE (ins a n.name) (zav n)) n.eqs n.autos
 have h5:∀(l:List Ex) (a:List Str),(l.foldl zbr a).length≤a.length+(T.sl 6 (l.map exT)).w:=fun l a=>za5 6 fun a e _=>zh9 a e
 have h6:=h5 n.assume (zcF m (zaE (ins a n.name) (zav n)) n.eqs n.autos)
 have h7:=h5 n.ensure (n.assume.foldl zbr (zcF m (zaE (ins a n.name) (zav n)) n.eqs n.autos))
 have h8:(zad (zav n)).w=1+(wsum zaa n.ins+wsum zaa n.outs+wsum zaa n.locals):=by
  rw[zgz,show zad (n.ins++n.outs++n.locals)= .sl 3 ((n.ins++n.outs++n.locals).map zaa) from rfl,w_sl]
  simp[wsum,qa1]
 have h9:=zr5 n
 unfold zfX
 simp only[znM]at h3 h6 h7
 omega
theorem zra(p:Prog):(zbl 100000000 p).length≤2*(T.ag (zax p)).w:=by
 have h1:=za5 (f:=zdW) (g:=enT) 2 (l:=p.enums) (a:=[]) fun a u _=>by
  have h2:=zkf u.tags (ins a u.name)
  have h3:=zcj a u.name
  have h4:=zai T.s 1 u.tags
  rw[enT,w_ag]
  simp only[qaj,qaw,qan,qaG,w_s]
  show(u.tags.foldl ins (ins a u.name)).length≤_
  omega
 have h2:=zdl (f:=zfX 100000000) (g:=fun n=>2*(nodT n).w) (l:=p.nodes) (a:=p.enums.foldl zdW []) fun a n _=>zq8 _ a n
 have h3:∀l:List Nod,(l.map fun n=>2*(nodT n).w).sum=2*wsum nodT l:=by
  intro l
  induction l with
  | nil=>rfl
  | cons n l ih=>rw[qaj,qan,ih,zaW];omega
 rw[h3]at h2
 have h4:(T.ag (zax p)).w=1+((T.sl 2 (p.enums.map enT)).w+((1+wsum nodT p.nodes)+0)):=by
  rw[show zax p=[.sl 2 (p.enums.map enT),.sl 8 (p.nodes.map nodT)] from rfl,w_ag,qaj,qaj,qaw,qan,qan,qaG,w_sl 8]
 unfold zbl
 simp only[qaE]at h1
 omega
theorem zvM{p:Prog}(h:OkP p)(hw:(T.ag (zax p)).w≤2200000){n:Nod}(hn:n∈p.nodes):NdK p.enums 3 384 n:=by
 have ho:=h.nodes n hn
 obtain⟨f1,f2,f3,f4,f5,f6,f7⟩:=ho.few
 have h4:(T.ag (zax p)).w=1+((T.sl 2 (p.enums.map enT)).w+((T.sl 8 (p.nodes.map nodT)).w+0)):=by rw[w_ag];rfl
 have h5:=zau (f:=nodT) (sz:=8) hn
 have hd:∀d∈zav n,OkD p.enums d:=fun d hd=>by
  rw[zgz]at hd
  rcases qaF.1 hd with hd|hd
  ·rcases qaF.1 hd with hd|hd
   ·exact ho.ins d hd
   ·exact ho.outs d hd
  ·exact ho.locals d hd
 refine⟨f5,?_,fun d h=>(hd d h).few,by omega,fun a ha=>⟨ho.autos a ha,?_⟩,fun d h=>ztK (hd d h),by omega⟩
 ·rw[zhx]
  omega
 ·have h6:=zda n
  have h7:=zau (f:=zae) (sz:=1) ha
  omega
theorem gR3:gR 3 384=656297088:=by decide
theorem zmS{p:Prog}(h:OkP p)(hw:(T.ag (zax p)).w≤2200000):∀j,j≤p.nodes.length->Room (expJ p j).1.1 ((96-j)*1000000000)/\(expJ p j).1.2.length≤24+j*33288/\(expJ p j).2.length≤j*266305/\(∀u∈(expJ p j).1.2,u.tags.length≤16)/\(∀b∈(expJ p j).2,(nodT b).w≤90000000)/\∀i (hi:i<p.nodes.length),i<j->NodX 4 (expJ p i).1 p.nodes[i]
 | 0,_=>by
   refine⟨⟨zs6 p (by omega),?_⟩,?_,qaK _,fun u hu=>(h.enums u hu).few,(fun b hb=>by cases hb),fun i _ hi=>absurd hi (qbJ _)⟩
   ·have:=zra p
    show(zbl 100000000 p).length+_≤_
    omega
   ·have:=h.few.1
    show p.enums.length≤_
    omega
 | j+1,hj=>by
   obtain⟨i1,i2,i3,i4,i5,i6⟩:=zmS h hw j (by omega)
   have hJn:expJ p (j+1)=((zaG 4 (expJ p j).1 p.nodes[j]).1,(expJ p j).2++(zaG 4 (expJ p j).1 p.nodes[j]).2):=zam (fun(q:(List Str×List En)×List Nod) n=>((zaG 4 q.1 n).1,q.2++(zaG 4 q.1 n).2)) _ (by omega)
   have e3:gE 3=33288:=by decide
   have b3:gB 3=266305:=by decide
   have hf:=h.few.2
   obtain⟨n1,n2,n3,n4,n5,n6⟩:=zou p.enums 3 384 (expJ p j).1 p.nodes[j] ((96-(j+1))*1000000000) (zvM h hw (qad _)) (by decide) (i1.mono (by rw[gR3];omega)) (by rw[e3];omega) (by decide) i4
   simp only[Nat.reduceAdd,e3]at n3
   simp only[Nat.reduceAdd,b3]at n4
   rw[hJn]
   refine⟨n2,?_,?_,n5,fun b hb=>?_,fun i hi hij=>?_⟩
   ·dsimp only
    omega
   ·dsimp only
    rw[qaf]
    omega
   ·rcases qaF.1 hb with hb|hb
    ·exact i5 b hb
    ·exact n6 b hb
   ·by_cases he:i=j
    ·subst he
     exact n1
    ·exact i6 i hi (by omega)
theorem zvz(p:Prog):expF p=⟨(expJ p p.nodes.length).1.2,(expJ p p.nodes.length).2⟩:=by
 unfold expJ
 rw[qae]
 rfl
theorem zqI{p:Prog}(h:OkP p)(hw:(T.ag (zax p)).w≤2200000):zkK (expF p) 90000000:=by
 obtain⟨i1,i2,i3,i4,i5,_⟩:=zmS h hw p.nodes.length (qag _)
 have e3:gE 3=33288:=by decide
 have b3:gB 3=266305:=by decide
 have hf:=h.few.2
 rw[zvz]
 exact⟨by dsimp only;omega,fun u hu=>qaC (i4 u hu) (by decide),by dsimp only;omega,i5⟩
theorem znI{p:Prog}(h:(zaR p).2=0):(zcH p).2=0:=qaq fun hc=>by
 unfold zaR at h
 rw[if_pos hc]at h
 exact hc h
theorem zlW{p:Prog}(h:(zcH p).2=0):(zbf p).2=0:=qaq fun hc=>by
 unfold zcH at h
 rw[if_pos hc]at h
 exact hc h
theorem ziI{p:Prog}(h:(zaR p).2=0):(zbf p).2=0:=zlW (znI h)
theorem zgg(p:Prog)(hw:(T.ag (zax p)).w≤2200000)(v:SV)(h0:(zaR p).2≠0->v= .tup [.t (.ag [.sl 2 [],.sl 8 []]),.i (zaR p).2])
  (h1:(zaR p).2=0->(zbf (expF p)).2=0->v= .tup [.t (.ag (zax ⟨(expF p).enums,(expF p).nodes.map plnN⟩)),.i 0])
  (h2:(zaR p).2=0->(zbf (expF p)).2≠0->v= .tup [.t (.ag [.sl 2 [],.sl 8 []]),.i 3]):Pure Tryz.prog 11 [.t (.ag (zax p))] v:=by
 by_cases hc:(zaR p).2=0
 ·have ho:=ztL (ziI hc)
  refine zfF p (by omega) hc (fun j hj=>?_) (zqI ho hw) v (h1 hc) (h2 hc)
  obtain⟨_,_,i3,_,_,i6⟩:=zmS ho hw (j+1) (by omega)
  have hf:=ho.few.2
  exact⟨i6 j hj (by omega),by omega⟩
 ·rw[h0 hc]
  exact zmT p (by omega) hc
structure Gr (s t:Lc):Prop where
 sub:s.1 ⊆ t.1
 pre:s.2 <+: t.2
theorem Gr.refl(s:Lc):Gr s s:=⟨fun _ h=>h,List.prefix_refl _⟩
theorem Gr.trans{s t u:Lc}(h:Gr s t)(k:Gr t u):Gr s u:=⟨fun _ hx=>k.sub (h.sub hx),h.pre.trans k.pre⟩
theorem Gr.loc(b:Str)(t:I64)(ck:List OnC)(s:Lc):Gr s (locF b t ck s).1:=⟨zfi _ _,List.prefix_append _ _⟩
theorem Gr.maps{α β:Type}{f:Lc->α->Lc×β}(hf:∀s x,Gr s (f s x).1):∀(l:List α) (s:Lc),Gr s (mapS f s l).1
 | [],s=>Gr.refl s
 | x::l,s=>(hf s x).trans (Gr.maps hf l _)
theorem zoG:∀(l:List Sta) (a:List Str),a ⊆ (zb7 a l).1
 | [],_=>fun _ h=>h
 | _::l,a=>fun _ h=>zoG l _ (zfi a _ h)
theorem Gr.dcl(s:Lc)(n:Nat)(l:List Sta):Gr s (dclF s n l).1:=by
 have h1:Gr s ((zb7 (frF s.1 zc5).1 l).1,s.2):=⟨fun _ h=>zoG l _ (zfi _ _ h),List.prefix_refl _⟩
 exact((((h1.trans (Gr.loc ..)).trans (Gr.loc ..)).trans (Gr.maps (fun s x=>Gr.maps (fun s _=>Gr.loc ..) _ _) _ _)).trans (Gr.loc ..)).trans (Gr.loc ..)
theorem zrZ(t:I64):∀(l:List Tran) (u:List Str×Bd),u.1 ⊆ (l.foldl (untF t) u).1
 | [],_=>fun _ h=>h
 | _::l,u=>fun _ h=>zrZ t l _ (zfi _ _ h)
theorem zsq(x:KS)(i:Nat)(s:Sta)(vars:List Decl):ins x.a (zaF x.a zbT) ⊆ (zcK x i s vars).1:=fun _ h=>zrZ x.t s.unt _ (zfi _ _ (zfi _ _ h))
theorem Gr.body(x:KS)(i:Nat)(s:Sta)(vars:List Decl):Gr ((zcK x i s vars).1,x.L) ((zdT x i s vars).a,(zdT x i s vars).L):=
 ((Gr.maps (fun s _=>Gr.loc ..) x.defs _).trans (Gr.loc ..)).trans (Gr.loc ..)
structure FB (a0:List Str) (L0:List Decl) (l:List Sta) (x:KS):Prop where
 gr:Gr (a0,L0) (x.a,x.L)
 nd:(x.bodies.map Nod.name).Nodup
 new:∀m∈x.bodies.map Nod.name,m ∉ a0/\m∈x.a
 autos:x.bodies.map Nod.autos=l.map Sta.autos
theorem FB.next{a0:List Str}{L0:List Decl}{l:List Sta}{x:KS}(h:FB a0 L0 l x)(i:Nat)(s:Sta)(vars:List Decl):FB a0 L0 (l++[s]) (zdT x i s vars):=by
 have h1:=zsq x i s vars
 have h2:=Gr.body x i s vars
 have hs:x.a ⊆ (zdT x i s vars).a:=fun m hm=>h2.sub (h1 (zfi _ _ hm))
 have hn:(zcK x i s vars).2.name=zaF x.a zbT:=rfl
 have hb:(zdT x i s vars).bodies=x.bodies++[(zcK x i s vars).2]:=rfl
 refine⟨⟨fun m hm=>hs (h.gr.sub hm),h.gr.pre.trans h2.pre⟩,?_,?_,?_⟩
 ·rw[hb,qal,qbt]
  refine⟨h.nd,by simp,fun a ha b hb=>?_⟩
  rw[qaj,qaw,hn]at hb
  rw[qaJ.1 hb]
  exact fun e=>zlk x.a zbT (e ▸ (h.new a ha).2)
 ·intro m hm
  rw[hb,qal]at hm
  rcases qaF.1 hm with hm|hm
  ·exact⟨(h.new m hm).1,hs (h.new m hm).2⟩
  ·rw[qaj,qaw,hn]at hm
   rw[qaJ.1 hm]
   exact⟨fun h3=>zlk x.a zbT (h.gr.sub h3),h2.sub (h1 (zuF _ _))⟩
 ·rw[hb,qal,qal,h.autos]
  rfl
theorem FB.all{a0:List Str}{L0:List Decl}(vars:List Decl):∀(k l:List Sta) (q:Nat×KS),FB a0 L0 l q.2->FB a0 L0 (l++k) (k.foldl (fun(p:Nat×KS) s=>(p.1+1,zdT p.2 p.1 s vars)) q).2
 | [],l,q,h=>by simpa using h
 | s::k,l,q,h=>by
   rw[qaT,show l++s::k=(l++[s])++k by simp]
   exact FB.all vars k (l++[s]) _ (h.next q.1 s vars)
theorem FB.auto(s:Lc)(es:List En)(c:Nc)(Q:List T)(vars:List Decl)(au:Auto):FB s.1 s.2 au.states (zbA s es c Q vars au):=by
 have h0:FB s.1 s.2 [] (zb2 s es c Q vars au):=⟨Gr.dcl s es.length au.states,qbw,(by intro m hm;cases hm),rfl⟩
 have h1:=FB.all vars au.states [] (0,zb2 s es c Q vars au) h0
 rw[qa7]at h1
 unfold zbA zcZ
 dsimp only
 generalize (au.states.foldl (fun(p:Nat×KS) s=>(p.1+1,zdT p.2 p.1 s vars)) (0,zb2 s es c Q vars au)).2=x at*
 have h2:Gr (x.a,x.L) (locF zcr bT [] (locF zbt x.t [] (x.a,x.L)).1).1:=(Gr.loc ..).trans (Gr.loc ..)
 exact⟨h1.gr.trans h2,h1.nd,fun m hm=>⟨(h1.new m hm).1,h2.sub (h1.new m hm).2⟩,h1.autos⟩
structure FN (s:List Str×List En) (n:Nod) (l:List Auto) (r:NS):Prop where
 sub:s.1 ⊆ r.a
 es:∃E,r.es=s.2++E/\E.length=l.length
 L:n.locals <+: r.L
 Q:n.eqs <+: r.Q
 nd:(r.bs.map Nod.name).Nodup
 new:∀m∈r.bs.map Nod.name,m ∉ s.1/\m∈r.a
 autos:r.bs.map Nod.autos=(l.map fun a=>a.states.map Sta.autos).flatten
theorem FN.next{s:List Str×List En}{n:Nod}{l:List Auto}{r:NS}(h:FN s n l r)(c:Nc)(vars:List Decl)(au:Auto):FN s n (l++[au]) (zeg c vars r au):=by
 have h1:=FB.auto (r.a,r.L) r.es c (r.Q.map equT) vars au
 have hb:(zeg c vars r au).bs=r.bs++(zbA (r.a,r.L) r.es c (r.Q.map equT) vars au).bodies:=rfl
 refine⟨fun m hm=>h1.gr.sub (h.sub hm),?_,h.L.trans h1.gr.pre,h.Q.trans (List.prefix_append _ _),?_,?_,?_⟩
 ·obtain⟨E,e1,e2⟩:=h.es
  refine⟨E++[(dclF (r.a,r.L) r.es.length au.states).2.1],?_,by simp[e2]⟩
  rw[show(zeg c vars r au).es=r.es++[(dclF (r.a,r.L) r.es.length au.states).2.1] from rfl,e1,qa0]
 ·rw[hb,qal,qbt]
  exact⟨h.nd,h1.nd,fun a ha b hb e=>(h1.new b hb).1 (e ▸ (h.new a ha).2)⟩
 ·intro m hm
  rw[hb,qal]at hm
  rcases qaF.1 hm with hm|hm
  ·exact⟨(h.new m hm).1,h1.gr.sub (h.new m hm).2⟩
  ·exact⟨fun h3=>(h1.new m hm).1 (h.sub h3),(h1.new m hm).2⟩
 ·rw[hb,qal,h.autos,h1.autos,qal,qbx]
  simp
theorem FN.all(s:List Str×List En)(n:Nod)(c:Nc)(vars:List Decl):∀(k l:List Auto) (r:NS),FN s n l r->FN s n (l++k) (k.foldl (zeg c vars) r)
 | [],l,r,h=>by simpa using h
 | a::k,l,r,h=>by
   rw[qaT,show l++a::k=(l++[a])++k by simp]
   exact FN.all s n c vars k (l++[a]) _ (h.next c vars a)
abbrev nsF (s:List Str×List En)(n:Nod):NS:=n.autos.foldl (zeg (ncOf n) (zav n)) ⟨s.1,s.2,n.locals,n.eqs,[]⟩
abbrev bdF (k:Nat)(q:(List Str×List En)×List Nod)(l:List Nod):(List Str×List En)×List Nod:=l.foldl (fun(p:(List Str×List En)×List Nod) b=>((zaG k p.1 b).1,p.2++(zaG k p.1 b).2)) q
theorem zgp(k:Nat)(s:List Str×List En)(n:Nod):zaG (k+1) s n=((bdF k (((nsF s n).a,(nsF s n).es),[]) (nsF s n).bs).1,(bdF k (((nsF s n).a,(nsF s n).es),[]) (nsF s n).bs).2++[{ n with locals:=(nsF s n).L,eqs:=(nsF s n).Q,autos:=[] }]):=rfl
def Dp:Nat->List Auto->Prop
 | 0,l=>l=[]
 | k+1,l=>∀a∈l,∀s∈a.states,Dp k s.autos
def cntD:Nat->List Auto->Nat
 | 0,_=>0
 | k+1,l=>(l.map fun a=>1+(a.states.map fun s=>cntD k s.autos).sum).sum
def staD:Nat->List Auto->Nat
 | 0,_=>0
 | k+1,l=>(l.map fun a=>(a.states.map fun s=>1+staD k s.autos).sum).sum
theorem zrP(a b:List Nat):(a++b).sum=a.sum+b.sum:=qbH ..
structure NR (k:Nat) (s:List Str×List En) (n:Nod) (o:(List Str×List En)×List Nod):Prop where
 sub:s.1 ⊆ o.1.1
 es:∃E,o.1.2=s.2++E/\E.length=cntD k n.autos
 nodes:∃B L Q,o.2=B++[{ n with locals:=n.locals++L,eqs:=n.eqs++Q,autos:=[] }]/\B.length=staD k n.autos/\(∀m∈B.map Nod.name,m ∉ s.1/\m∈o.1.1)/\(B.map Nod.name).Nodup
structure BR (k:Nat) (a0 ra:List Str) (es:List En) (l:List Nod) (q:(List Str×List En)×List Nod):Prop where
 sub:ra ⊆ q.1.1
 es:∃E,q.1.2=es++E/\E.length=((l.map Nod.autos).map (cntD k)).sum
 len:q.2.length=((l.map Nod.autos).map fun x=>1+staD k x).sum
 nd:(q.2.map Nod.name).Nodup
 new:∀m∈q.2.map Nod.name,m ∉ a0/\m∈q.1.1/\(m∈l.map Nod.name\/m ∉ ra)
theorem BR.next{k:Nat}{a0 ra:List Str}{es:List En}{l:List Nod}{q:(List Str×List En)×List Nod}(h:BR k a0 ra es l q)(h0:a0 ⊆ ra)(b:Nod)(hb:b.name ∉ l.map Nod.name)(hn:b.name ∉ a0/\b.name∈ra)(hr:NR k q.1 b (zaG k q.1 b)):
  BR k a0 ra es (l++[b]) ((zaG k q.1 b).1,q.2++(zaG k q.1 b).2):=by
 obtain⟨r1,⟨E2,r2,r3⟩,B,L,Q,r4,r5,r6,r7⟩:=hr
 obtain⟨E1,e1,e2⟩:=h.es
 have hnm:(zaG k q.1 b).2.map Nod.name=B.map Nod.name++[b.name]:=by rw[r4,qal];rfl
 refine⟨fun m hm=>r1 (h.sub hm),⟨E1++E2,?_,?_⟩,?_,?_,?_⟩
 ·dsimp only
  rw[r2,e1,qa0]
 ·rw[qaf,e2,r3,qal,qal,zrP]
  rfl
 ·dsimp only
  rw[qaf,h.len,r4,qaf,r5,qal,qal,zrP]
  show _+(staD k b.autos+1)=_+(1+staD k b.autos+0)
  omega
 ·dsimp only
  rw[qal,hnm,qbt]
  refine⟨h.nd,?_,fun x hx y hy e=>?_⟩
  ·rw[qbt]
   refine⟨r7,by simp,fun x hx y hy e=>?_⟩
   rw[qaJ.1 hy]at e
   subst e
   exact(r6 _ hx).1 (h.sub hn.2)
  ·subst e
   obtain⟨g1,g2,g3⟩:=h.new x hx
   rcases qaF.1 hy with hy|hy
   ·exact(r6 x hy).1 g2
   ·rw[qaJ.1 hy]at g3
    rcases g3 with g3|g3
    ·exact hb g3
    ·exact g3 hn.2
 ·intro m hm
  dsimp only at hm⊢
  rw[qal,hnm]at hm
  rcases qaF.1 hm with hm|hm
  ·obtain⟨g1,g2,g3⟩:=h.new m hm
   refine⟨g1,r1 g2,?_⟩
   rcases g3 with g3|g3
   ·exact .inl (by rw[qal];exact qbu _ g3)
   ·exact .inr g3
  ·rcases qaF.1 hm with hm|hm
   ·exact⟨fun h3=>(r6 m hm).1 (h.sub (h0 h3)),(r6 m hm).2,.inr fun h3=>(r6 m hm).1 (h.sub h3)⟩
   ·rw[qaJ.1 hm]
    exact⟨hn.1,r1 (h.sub hn.2),.inl (by rw[qal];simp)⟩
theorem BR.all{k:Nat}{a0 ra:List Str}{es:List En}(h0:a0 ⊆ ra)(hN:∀s n,Dp k n.autos->NR k s n (zaG k s n)):∀(m l:List Nod) (q:(List Str×List En)×List Nod),BR k a0 ra es l q->((l++m).map Nod.name).Nodup->(∀b∈m,b.name ∉ a0/\b.name∈ra)->(∀b∈m,Dp k b.autos)->BR k a0 ra es (l++m) (bdF k q m)
 | [],l,q,h,_,_,_=>by simpa using h
 | b::m,l,q,h,hd,hn,hp=>by
   have h1:=h.next h0 b (by
    rw[qal,qbt]at hd
    exact fun hb=>hd.2.2 _ hb _ (by simp) rfl) (hn b (qas ..)) (hN _ b (hp b (qas ..)))
   have h2:=BR.all h0 hN m (l++[b]) _ h1 (by simpa using hd) (fun c hc=>hn c (qar _ hc)) fun c hc=>hp c (qar _ hc)
   rw[show l++b::m=l++[b]++m by simp]
   exact h2
end Go.Proofs.YtpnnpgbaiobbjaaGreatDoor
