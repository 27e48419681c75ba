import Derived.Test.YtpnnpgbaiobbjaaGreatDoorCk30
set_option linter.all false
namespace Go.Proofs.YtpnnpgbaiobbjaaGreatDoor
open Go Go.TL
attribute [local irreducible] TR TO Then zao RetK Sound zab Kf GG za1
theorem ziL(x0:KS)(vars:List Decl):∀(l:List Sta) (j i:Nat) (x:KS) (n:Nat),(∀s∈l,s.unt.length≤4)->BK x0 vars.length (n+l.length*(x0.defs.length+9)) j x->BK x0 vars.length n (j+l.length) (l.foldl (fun(p:Nat×KS) s=>(p.1+1,zdn p.2 p.1 s vars)) (i,x)).2
 | [],j,i,x,n,_,h=>by
   rw[qaE,qcb]at h
   exact h
 | s::l,j,i,x,n,hu,h=>by
   rw[qaR,qam,show j+(l.length+1)=j+1+l.length by omega]
   refine ziL x0 vars l (j+1) (i+1) _ n (fun t ht=>hu t (qao _ ht)) (BK.next ?_ i s (hu s (qar ..)))
   exact zwfw
def zbe(s:Lc)(es:List En)(c:Nc)(Q:List T)(vars:List Decl)(au:Auto):KS:=
 let x:=(zcR vars (zbG s es c Q vars au) au.states).2
 let nx:=locF zbm x.t [] (x.a,x.L)
 let bk:=locF zb4 bT [] nx.1
 { x with a:=bk.1.1,L:=bk.1.2,next:=nx.2,back:=bk.2 }
theorem ztT(s:Lc)(es:List En)(c:Nc)(Q:List T)(vars:List Decl)(au:Auto):zlT s es c Q vars au= { zbe s es c Q vars au with Q:=(zbe s es c Q vars au).Q++(zd7 (zbe s es c Q vars au)).map equT }:=rfl
theorem zry(s:Lc)(es:List En)(c:Nc)(Q:List T)(vars:List Decl)(au:Auto)(hl:au.states.length≤8)(hu:∀x∈au.states,x.unl.length≤4)(n:Nat)(h:Room s.1 (n+100)):BK (zbG s es c Q vars au) vars.length n 0 (zbG s es c Q vars au):=by
 refine⟨rfl,rfl,rfl,(by intro p hp;cases hp),(by intro p hp;cases hp),?_,by omega⟩
 exact zkK s es.length au.states hl hu n h
theorem znu(s:Lc)(es:List En)(c:Nc)(Q:List T)(vars:List Decl)(au:Auto)(hl:au.states.length≤8)(hu:∀x∈au.states,x.unl.length≤4/\x.unt.length≤4)(n:Nat)(h:Room s.1 (n+((zaT vars au).length*8+200))):
  BK (zbG s es c Q vars au) vars.length n au.states.length (zcR vars (zbG s es c Q vars au) au.states).2:=by
 have h1:=zry s es c Q vars au hl (fun x hx=>(hu x hx).1) (n+au.states.length*((zaT vars au).length+9)) (h.mono (by
  have:au.states.length*((zaT vars au).length+9)≤8*((zaT vars au).length+9):=qaC _ hl
  omega))
 have h2:=ziL (zbG s es c Q vars au) vars au.states 0 0 (zbG s es c Q vars au) n (fun t ht=>(hu t ht).2) h1
 rw[qaO]at h2
 exact h2
theorem zoG(s:Lc)(es:List En)(c:Nc)(Q:List T)(vars:List Decl)(au:Auto)(hl:au.states.length≤8)(hu:∀x∈au.states,x.unl.length≤4/\x.unt.length≤4)(n:Nat)(h:Room s.1 (n+((zaT vars au).length*8+400))):Room (zbe s es c Q vars au).a n:=by
 have h1:=(znu s es c Q vars au hl hu (n+2) (h.mono (by omega))).room
 unfold zbe
 dsimp only
 generalize (zcR vars (zbG s es c Q vars au) au.states).2=x at*
 exact Room.loc1 (s:=(locF zbm x.t [] (x.a,x.L)).1) (Room.loc1 (s:=(x.a,x.L)) h1 (by decide)) (by decide)
theorem ztW(s:Lc)(es:List En)(c:Nc)(Q:List T)(vars:List Decl)(au:Auto)(hl:au.states.length≤8)(hu:∀x∈au.states,x.unl.length≤4/\x.unt.length≤4)(h:Room s.1 ((zaT vars au).length*8+400)):(zbe s es c Q vars au).L.length≤s.2.length+8*((zaT vars au).length+2)+42:=by
 have h1:=(znu s es c Q vars au hl hu 0 (h.mono (by omega))).L
 have h2:(zbG s es c Q vars au).L.length≤s.2.length+40:=znK s es.length au.states hl (fun x hx=>(hu x hx).1)
 have h3:au.states.length*((zaT vars au).length+2)≤8*((zaT vars au).length+2):=qaC _ hl
 have h4:(zbG s es c Q vars au).defs=zaT vars au:=rfl
 rw[h4]at h1
 unfold zbe
 dsimp only
 generalize (zcR vars (zbG s es c Q vars au) au.states).2=x at*
 simp only[locF,qae,qam,qaE]
 omega
theorem znv(s:Lc)(es:List En)(c:Nc)(Q:List T)(vars:List Decl)(au:Auto)(hl:au.states.length≤8)(hu:∀x∈au.states,x.unl.length≤4/\x.unt.length≤4)(h:Room s.1 ((zaT vars au).length*8+400)):
  (zbe s es c Q vars au).es=(es++[(dclF s es.length au.states).2.1]).map enT/\(zbe s es c Q vars au).Q=Q/\(zbe s es c Q vars au).c=c/\(zbe s es c Q vars au).sts=au.states/\(zbe s es c Q vars au).defs=zaT vars au/\(zbe s es c Q vars au).bodies.length=au.states.length:=by
 have h1:=znu s es c Q vars au hl hu 0 (h.mono (by omega))
 have h2:=h1.same
 have h3:=h1.bl
 unfold zbe
 dsimp only
 generalize (zcR vars (zbG s es c Q vars au) au.states).2=x at*
 refine⟨?_,?_,?_,?_,?_,h3⟩
 all_goals
  rw[h2]
  rfl
structure NS where
 a:List Str
 es:List En
 L:List Decl
 Q:List Equ
 bs:List Nod
def zdJ(c:Nc)(vars:List Decl)(p:NS)(au:Auto):NS:=
 ⟨(zbe (p.a,p.L) p.es c (p.Q.map equT) vars au).a,p.es++[(dclF (p.a,p.L) p.es.length au.states).2.1],(zbe (p.a,p.L) p.es c (p.Q.map equT) vars au).L,p.Q++zd7 (zbe (p.a,p.L) p.es c (p.Q.map equT) vars au),p.bs++(zbe (p.a,p.L) p.es c (p.Q.map equT) vars au).bodies⟩
def ncOf(n:Nod):Nc:=⟨.s n.name,zad n.ins,zad n.outs,.v (.slice none 0 0),.sl 6 (n.assume.map exT),.sl 6 (n.ensure.map exT)⟩
def zaC:Nat->List Str×List En->Nod->(List Str×List En)×List Nod
 | 0,s,n=>(s,[{ n with autos:=[] }])
 | k+1,s,n=>
   let r:=n.autos.foldl (zdJ (ncOf n) (zaz n)) ⟨s.1,s.2,n.locals,n.eqs,[]⟩
   let q:=r.bs.foldl (fun(p:(List Str×List En)×List Nod) b=>((zaC k p.1 b).1,p.2++(zaC k p.1 b).2)) ((r.a,r.es),[])
   (q.1,q.2++[{ n with locals:=r.L,eqs:=r.Q,autos:=[] }])
def expF(p:Prog):Prog:=
 let r:=p.nodes.foldl (fun(q:(List Str×List En)×List Nod) n=>((zaC 4 q.1 n).1,q.2++(zaC 4 q.1 n).2)) ((zb2 100000000 p,p.enums),[])
 ⟨r.1.2,r.2⟩
abbrev xH (a:List Str)(es:List T):Heap:=[setB a,adB,axB,.tail es.length,exB es]
def autJ(s:List Str×List En)(n:Nod)(j:Nat):NS:=(n.autos.take j).foldl (zdJ (ncOf n) (zaz n)) ⟨s.1,s.2,n.locals,n.eqs,[]⟩
def bodJ(k:Nat)(r:NS)(j:Nat):(List Str×List En)×List Nod:=(r.bs.take j).foldl (fun(p:(List Str×List En)×List Nod) b=>((zaC k p.1 b).1,p.2++(zaC k p.1 b).2)) ((r.a,r.es),[])
abbrev NodC (k:Nat)(s:List Str×List En)(n:Nod):Prop:=Sound Tryz.prog 28 [.ref 4 0,.t (nodT n)] (xH s.1 (s.2.map enT)) (fun r H'=>r= .ret (.t (.sl 8 ((zaC k s n).2.map nodT)))/\H'=xH (zaC k s n).1.1 ((zaC k s n).1.2.map enT))
set_option maxHeartbeats 16000000 in
theorem zjd (k:Nat) (s:List Str×List En) (n:Nod) (hal:n.autos.length≤8) (hv:Pure Tryz.prog 56 [.t (.ag (nodC n))] (.t (zad (zaz n)))) (hv2:(zaz n).length≤1000000) (hL:n.locals.length≤1000000) (hE:n.eqs.length≤1000000)
  (hau:∀au∈n.autos,(zae au).w≤90000000/\au.states.length≤8/\(∀x∈au.states,x.unl.length≤4/\x.unt.length≤4)/\(zaT (zaz n) au).length≤100000)
  (hR:∀j (h:j<n.autos.length),Room (autJ s n j).a ((zaT (zaz n) n.autos[j]).length*8+400)/\(autJ s n j).L.length≤10000000/\(autJ s n j).Q.length≤10000000/\(autJ s n j).es.length≤10000000/\(autJ s n (j+1)).bs.length≤1000000)
  (hB:(autJ s n n.autos.length).bs.length≤1000000) (hI:∀j (h:j<(autJ s n n.autos.length).bs.length),NodC k (bodJ k (autJ s n n.autos.length) j).1 (autJ s n n.autos.length).bs[j]/\(bodJ k (autJ s n n.autos.length) (j+1)).2.length≤1000000000) (hT:(bodJ k (autJ s n n.autos.length) (autJ s n n.autos.length).bs.length).2.length≤1000000000):NodC (k+1) s n:=by
 have cl:=zeb (n.locals.map zaa) (by rw[qaa];omega)
 have ce:=zgv (n.eqs.map equT) (by rw[qaa];omega)
 have hmA:(n.autos.map zae).length=n.autos.length:=qaa _
 have hnT:nodT n= .ag (nC n):=rfl
 have hnC:nodC n=(nC n):=rfl
 have hP0:autJ s n 0=⟨s.1,s.2,n.locals,n.eqs,[]⟩:=rfl
 have hPn:∀j (h:j<n.autos.length),autJ s n (j+1)=zdJ (ncOf n) (zaz n) (autJ s n j) n.autos[j]:=fun j h=>zau _ _ h
 rw[hnC]at hv
 unfold NodC
 rw[hnT]
 refine so Tryz.func28 ?_
 repeat' (first|refine zqx ?_|(apply TO.zdy cl;(iterate 3 exact rfl);exact zqb;exact rfl)|(apply TO.zdy ce;(iterate 3 exact rfl);exact zqb;exact rfl)|refine TR.region ?_|refine zqi ?_|refine zqh ?_|refine zqj ?_|refine zqg ?_|fail)
 refine TR.tail 8 6 rfl ?_
 refine TR.tail 8 7 rfl ?_
 refine TR.zal n.autos.length (fun _=>True) (fun j=>[(0,.ref 4 0),(3,.cp (nC n) 0),(5,.ref 5 0),(6,.sl 8 ((autJ s n j).bs.map nodT) 8),(7,.sl 8 [] 9),(23,.t (.sl 1 (n.autos.map zae))),(24,.i n.autos.length),(25,.i j)]) (fun j=>nH (autJ s n j).a ((autJ s n j).es.map enT) (ncOf n) ((autJ s n j).L.map zaa) ((autJ s n j).Q.map equT)++[.tail ((autJ s n j).bs.map nodT).length,.tail 0]) trivial (fun j hlt _=>?_) (fun _=>?_) ⟨rfl,rfl,rfl,rfl,rfl,rfl,by rw[<-hmA];rfl,rfl,trivial⟩ rfl
 ·have hx:=zas zae hlt
  obtain⟨w1,w2,w3,w4⟩:=hau _ (qad hlt)
  obtain⟨r1,r2,r3,r4,r5⟩:=hR j hlt
  have hn:=hPn j hlt
  rw[hn]at r5
  generalize autJ s n j=p at*
  have hmb:(p.bs.map nodT).length=p.bs.length:=qaa _
  have ca:=zgK (p.a,p.L) p.es (ncOf n) (p.Q.map equT) (zaz n) n.autos[j] w1 w2 w3 w4 hv2 r1 (by dsimp only;omega) (by rw[qaa];omega) (by omega)
  obtain⟨y1,y2,_,_,_,y6⟩:=znv (p.a,p.L) p.es (ncOf n) (p.Q.map equT) (zaz n) n.autos[j] w2 w3 r1
  rw[ztT]at ca
  dsimp only at ca y1 y2
  rw[y1,y2,<-qak]at ca
  have hbl:(zdJ (ncOf n) (zaz n) p n.autos[j]).bs=p.bs++(zbe (p.a,p.L) p.es (ncOf n) (p.Q.map equT) (zaz n) n.autos[j]).bodies:=rfl
  have hpe:zdJ (ncOf n) (zaz n) p n.autos[j]=⟨(zbe (p.a,p.L) p.es (ncOf n) (p.Q.map equT) (zaz n) n.autos[j]).a,p.es++[(dclF (p.a,p.L) p.es.length n.autos[j].states).2.1],(zbe (p.a,p.L) p.es (ncOf n) (p.Q.map equT) (zaz n) n.autos[j]).L,p.Q++zd7 (zbe (p.a,p.L) p.es (ncOf n) (p.Q.map equT) (zaz n) n.autos[j]),p.bs++(zbe (p.a,p.L) p.es (ncOf n) (p.Q.map equT) (zaz n) n.autos[j]).bodies⟩:=rfl
  rw[hpe]at hn
  rw[hbl,qae]at r5
  clear hpe hbl hPn hR hI hau hB hT
  generalize hY:zbe (p.a,p.L) p.es (ncOf n) (p.Q.map equT) (zaz n) n.autos[j]=y at*
  clear hY
  generalize p.es++[(dclF (p.a,p.L) p.es.length n.autos[j].states).2.1]=es1 at*
  generalize p.Q++zd7 y=Q1 at*
  have hmy:(y.bodies.map nodT).length=y.bodies.length:=qaa _
  rw[zb6]at hx ca
  generalize n.autos[j]=au at*
  repeat' (first|refine wkt ?_|refine zqp ?_|refine zab.exit ?_|exact wkc|intro hc|refine wk2 ?_ ?_|fail)
  apply TR.zg8 [6] 0 (g:=True) [(_,0,1),(_,0,0),(_,0,0),(_,0,0),(_,0,0),(_,1,0),(_,1,0),(_,2,2)] [nH p.a (p.es.map enT) (ncOf n) (p.L.map zaa) (p.Q.map equT)++[.tail (p.bs.map nodT).length,.tail 0],nH y.a (es1.map enT) (ncOf n) (y.L.map zaa) (Q1.map equT)++[.tail (p.bs.map nodT).length,.tail 0],nH y.a (es1.map enT) (ncOf n) (y.L.map zaa) (Q1.map equT)++[.tail ((p.bs.map nodT).length+(y.bodies.map nodT).length),.tail 0]] hmix
  case hB=>exact zqv
  case hw=>exact rfl
  case h0=>exact rfl
  case hp=>
   repeat' (first|exact trivial|exact⟨⟨rfl,rfl⟩,trivial⟩|exact qah rfl rfl|refine qah (fun env=>?_) ?_|refine qah ?_ ?_|refine wma ?_|refine wmv hv ?_|(apply TO.zaF 8 ca;(iterate 3 exact rfl);exact zqb;(iterate 8 exact rfl))|(apply TO.zba zag;(iterate 13 exact rfl);exact zqn;exact rfl)|refine wmk ?_|fail)
   done
  case hc=>exact rfl
  case hF=>exact rfl
  case hE=>exact rfl
  intro _
  repeat' (first|refine wkt ?_|refine zab.exit ?_|exact wkc|intro hc|refine wk2 ?_ ?_|refine wk ?_|fail)
  exact zab.zaw hlt trivial (by(try dsimp only);rw[hn];dsimp only;rw[qak];exact⟨rfl,rfl,rfl,rfl,rfl,rfl,rfl,rfl,trivial⟩) (by(try dsimp only);rw[hn];dsimp only;rw[qak (l₁:=p.bs),qae])
 clear hau hR hPn hP0 cl ce
 have hnf:zaC (k+1) s n=((bodJ k (autJ s n n.autos.length) (autJ s n n.autos.length).bs.length).1,(bodJ k (autJ s n n.autos.length) (autJ s n n.autos.length).bs.length).2++[{ n with locals:=(autJ s n n.autos.length).L,eqs:=(autJ s n n.autos.length).Q,autos:=[] }]):=by
  unfold bodJ autJ
  simp only[qag]
  rfl
 rw[hnf]
 clear hnf
 have hJn:∀j (h:j<(autJ s n n.autos.length).bs.length),bodJ k (autJ s n n.autos.length) (j+1)=((zaC k (bodJ k (autJ s n n.autos.length) j).1 (autJ s n n.autos.length).bs[j]).1,(bodJ k (autJ s n n.autos.length) j).2++(zaC k (bodJ k (autJ s n n.autos.length) j).1 (autJ s n n.autos.length).bs[j]).2):=fun j h=>zau (fun(p:(List Str×List En)×List Nod) b=>((zaC k p.1 b).1,p.2++(zaC k p.1 b).2)) _ h
 have hJ0:bodJ k (autJ s n n.autos.length) 0=(((autJ s n n.autos.length).a,(autJ s n n.autos.length).es),[]):=rfl
 generalize autJ s n n.autos.length=R at*
 have hmR:(R.bs.map nodT).length=R.bs.length:=qaa _
 repeat' (first|refine wkt ?_|refine zab.exit ?_|exact wkc|intro hc|refine wk2 ?_ ?_|fail)
 refine TR.zal R.bs.length (fun _=>True) (fun j=>[(0,.ref 4 0),(5,.ref 5 0),(7,.sl 8 ((bodJ k R j).2.map nodT) 9),(37,.sl 8 (R.bs.map nodT) 8),(38,.i R.bs.length),(39,.i j)]) (fun j=>nH (bodJ k R j).1.1 ((bodJ k R j).1.2.map enT) (ncOf n) (R.L.map zaa) (R.Q.map equT)++[.tail (R.bs.map nodT).length,.tail ((bodJ k R j).2.map nodT).length]) trivial (fun j hlt _=>?_) (fun _=>?_) ⟨rfl,rfl,by rw[hJ0];rfl,rfl,by rw[<-hmR];rfl,rfl,trivial⟩ (by(try dsimp only);rw[hJ0];rfl)
 ·have hx:=zas nodT hlt
  have hn:=hJn j hlt
  obtain⟨ci,ti⟩:=hI j hlt
  rw[hn]at ti
  clear hJn hI hT hJ0 hv
  generalize bodJ k R j=q at*
  obtain⟨⟨a1,es1⟩,bs1⟩:=q
  dsimp only at ci ti hn⊢
  unfold NodC at ci
  dsimp only at ci
  generalize zaC k (a1,es1) R.bs[j]=z at*
  obtain⟨⟨a2,es2⟩,bs2⟩:=z
  dsimp only at ci ti hn⊢
  rw[qae]at ti
  have m1:(bs1.map nodT).length=bs1.length:=qaa _
  have m2:(bs2.map nodT).length=bs2.length:=qaa _
  generalize R.bs[j]=b at*
  have hbT:nodT b= .ag (nC b):=rfl
  rw[hbT]at hx ci
  repeat' (first|refine wkt ?_|refine zqp ?_|(apply TO.zaF 5 ci;(iterate 3 exact rfl);exact zqb;(iterate 8 exact rfl))|refine zqe ?_|refine zab.exit ?_|exact wkc|intro hc|refine wk2 ?_ ?_|refine wk ?_|fail)
  exact zab.zaw hlt trivial (by(try dsimp only);rw[hn];dsimp only;rw[qak];exact⟨rfl,rfl,rfl,rfl,rfl,rfl,trivial⟩) (by(try dsimp only);rw[hn];dsimp only;rw[qak (l₁:=bs1),qae];rfl)
 clear hJn hI hJ0 hv
 generalize bodJ k R R.bs.length=q at*
 obtain⟨⟨a1,es1⟩,bs1⟩:=q
 dsimp only at hT⊢
 have m1:(bs1.map nodT).length=bs1.length:=qaa _
 refine TR.zfi 5 3 (Le.own _ _ _) rfl rfl rfl ?_
 refine TR.zfi 5 4 (Le.own _ _ _) rfl rfl rfl ?_
 refine TR.zfi 5 5 (v':=.t (.sl 1 [])) (Le.nil _) rfl rfl rfl ?_
 repeat' (first|refine wkt ?_|refine zqe ?_|refine zab.exit ?_|exact wkc|intro hc|refine wk2 ?_ ?_|refine wk ?_|fail)
 rw[qak]
 exact RetK.keep 5 rfl (Le.own _ _ _) rfl rfl rfl rfl rfl ⟨rfl,rfl⟩
theorem zgj(n:Nod):zaz n=n.ins++n.outs++n.locals:=by simp[zaz]
theorem zhb(n:Nod):(zaz n).length=n.ins.length+n.outs.length+n.locals.length:=by rw[zgj,qae,qae]
structure zlP (s:List Str×List En) (n:Nod):Prop where
 hal:n.autos.length≤8
 hv:Pure Tryz.prog 56 [.t (.ag (nodC n))] (.t (zad (zaz n)))
 hv2:(zaz n).length≤1000000
 hL:n.locals.length≤1000000
 hE:n.eqs.length≤1000000
 hau:∀au∈n.autos,(zae au).w≤90000000/\au.states.length≤8/\(∀x∈au.states,x.unl.length≤4/\x.unt.length≤4)/\(zaT (zaz n) au).length≤100000
 hR:∀j (h:j<n.autos.length),Room (autJ s n j).a ((zaT (zaz n) n.autos[j]).length*8+400)/\(autJ s n j).L.length≤10000000/\(autJ s n j).Q.length≤10000000/\(autJ s n j).es.length≤10000000/\(autJ s n (j+1)).bs.length≤1000000
 hB:(autJ s n n.autos.length).bs.length≤1000000
def NodX:Nat->List Str×List En->Nod->Prop
 | 0,s,n=>n.autos=[]/\zlP s n
 | k+1,s,n=>zlP s n/\(∀j (h:j<(autJ s n n.autos.length).bs.length),NodX k (bodJ k (autJ s n n.autos.length) j).1 (autJ s n n.autos.length).bs[j]/\(bodJ k (autJ s n n.autos.length) (j+1)).2.length≤1000000000)/\(bodJ k (autJ s n n.autos.length) (autJ s n n.autos.length).bs.length).2.length≤1000000000
theorem zhZ:∀(k:Nat) (s:List Str×List En) (n:Nod),NodX k s n->NodC k s n
 | 0,s,n,h=>by
   obtain⟨ha,hp⟩:=h
   have hb:(autJ s n n.autos.length).bs=[]:=by rw[ha];rfl
   have h1:=zjd 0 s n hp.hal hp.hv hp.hv2 hp.hL hp.hE hp.hau hp.hR hp.hB (fun j hj=>by rw[hb]at hj;exact absurd hj (qbC _)) (by rw[hb];exact qaK _)
   have h2:zaC 1 s n=zaC 0 s n:=by
    unfold zaC
    rw[ha]
    rfl
   unfold NodC at h1⊢
   rw[qaO,h2]at h1
   exact h1
 | k+1,s,n,h=>by
   obtain⟨hp,hI,hT⟩:=h
   exact zjd k s n hp.hal hp.hv hp.hv2 hp.hL hp.hE hp.hau hp.hR hp.hB (fun j hj=>⟨zhZ k _ _ (hI j hj).1,(hI j hj).2⟩) hT
theorem orE0{a b:Int}(h:orE a b=0):a=0/\b=0:=by
 exact zwep
theorem ite0{p:Prop}[Decidable p]{c:Int}(hc:c≠0)(h:(if p then 0 else c)=0):p:=by
 by_cases hp:p
 ·exact hp
 ·rw[if_neg hp]at h;exact absurd h hc
theorem ze6{s:Str}(h:zcx s=0):ident s=true:=ite0 (by decide) h
theorem zqK{s:Str}(h:ident s=true):s.length≤40/\s≠ []/\∀c∈s,zi5 c=true:=by
 unfold ident at h
 split at h
 ·cases h
 ·simp only[qaA,decide_eq_true_eq,qaz]at h
  exact⟨h.1.1.1,by simp,h.2⟩
structure OkU (u:En):Prop where
 name:ident u.name=true
 few:u.tags.length≤16
 some:u.tags≠ []
 tags:∀t∈u.tags,ident t=true
structure OkD (es:List En) (d:Decl):Prop where
 name:ident d.name=true
 few:d.clock.length≤4
 ck:∀o∈d.clock,ident o.name=true
structure OkQ (es:List En) (q:Equ):Prop where
 few:q.left.length≤64
 left:∀n∈q.left,ident n=true
 right:zca es q.right=0
structure OkT (es:List En) (n:Nat) (t:Tran):Prop where
 tgt:0≤t.to.1/\t.to.1<n
 cond:zca es t.cond=0
structure OkS (es:List En) (n:Nat) (P:Auto->Prop) (s:Sta):Prop where
 name:ident s.name=true
 few:s.locals.length≤256/\s.eqs.length≤256/\s.autos.length≤8/\s.unl.length≤4/\s.unt.length≤4
 locals:∀d∈s.locals,OkD es d
 eqs:∀q∈s.eqs,OkQ es q
 autos:∀a∈s.autos,P a
 unl:∀q∈s.unl,OkT es n q
 unt:∀q∈s.unt,OkT es n q
def OkA(es:List En):Nat->Auto->Prop
 | 0,_=>False
 | m+1,a=>a.states.length≤8/\∀s∈a.states,OkS es a.states.length (OkA es m) s
structure OkN (es:List En) (n:Nod):Prop where
 name:ident n.name=true
 few:n.ins.length≤64/\n.outs.length≤64/\n.locals.length≤256/\n.eqs.length≤256/\n.autos.length≤8/\n.assume.length≤8/\n.ensure.length≤8
 ins:∀d∈n.ins,OkD es d
 outs:∀d∈n.outs,OkD es d
 locals:∀d∈n.locals,OkD es d
 eqs:∀q∈n.eqs,OkQ es q
 autos:∀a∈n.autos,OkA es 3 a
 assume:∀e∈n.assume,zca es e=0
 ensure:∀e∈n.ensure,zca es e=0
structure OkP (p:Prog):Prop where
 few:p.enums.length≤24/\p.nodes.length≤96
 enums:∀u∈p.enums,OkU u
 nodes:∀n∈p.nodes,OkN p.enums n
theorem zn7{es:List En}{port:Bool}{d:Decl}(h:zfo es port d=0):OkD es d:=by
 unfold zfo at h
 obtain⟨h1,h⟩:=orE0 h
 obtain⟨_,h⟩:=orE0 h
 obtain⟨_,h⟩:=orE0 h
 obtain⟨h2,h⟩:=orE0 h
 exact⟨ze6 h1,ite0 (by decide) h2,fun o ho=>ze6 (orE0 (zaj h o ho)).1⟩
theorem ztw{es:List En}{q:Equ}(h:equE es q=0):OkQ es q:=by
 unfold equE at h
 obtain⟨_,h⟩:=orE0 h
 obtain⟨h1,h⟩:=orE0 h
 obtain⟨h2,h⟩:=orE0 h
 exact⟨ite0 (by decide) h1,fun n hn=>ze6 (zaj h2 n hn),(orE0 h).1⟩
theorem ztx{es:List En}{n:Nat}{b:Bool}{t:Tran}(h:zfa es n b t=0):OkT es n t:=by
 unfold zfa at h
 obtain⟨h1,h⟩:=orE0 h
 exact⟨ite0 (by decide) h1,(orE0 h).1⟩
theorem ztt{es:List En}:∀(m:Nat) (a:Auto),zcv es m a=0->OkA es m a
 | 0,a,h=>by cases h
 | m+1,a,h=>by
   unfold zcv at h
   obtain⟨_,h⟩:=orE0 h
   obtain⟨h1,h⟩:=orE0 h
   refine⟨ite0 (by decide) h1,fun s hs=>?_⟩
   have h2:=zaj h s hs
   unfold stE at h2
   obtain⟨g1,h2⟩:=orE0 h2
   obtain⟨g2,h2⟩:=orE0 h2
   obtain⟨g3,h2⟩:=orE0 h2
   obtain⟨g4,h2⟩:=orE0 h2
   obtain⟨g5,h2⟩:=orE0 h2
   obtain⟨g6,g7⟩:=orE0 h2
   exact⟨ze6 g1,ite0 (by decide) g2,fun d hd=>zn7 (zaj g3 d hd),fun q hq=>ztw (zaj g4 q hq),fun b hb=>ztt m b (zaj g5 b hb),fun q hq=>ztx (zaj g6 q hq),fun q hq=>ztx (zaj g7 q hq)⟩
theorem zvD{es:List En}{n:Nod}(h:(zci es n).2=0):OkN es n:=by
 unfold zci at h
 have h1:zmz es n=0:=qaw fun hh=>by rw[if_pos hh]at h;exact hh h
 rw[if_neg (by simp[h1])]at h
 have h2:zaf (equE es) n.eqs=0:=qaw fun hh=>by rw[if_pos hh,zcm]at h;exact hh h
 rw[if_neg (by simp[h2])]at h
 simp only at h
 unfold zpj at h
 obtain⟨g1,h⟩:=orE0 h
 obtain⟨g2,g3⟩:=orE0 h
 unfold zmz at h1
 obtain⟨f1,h1⟩:=orE0 h1
 obtain⟨f2,h1⟩:=orE0 h1
 obtain⟨_,h1⟩:=orE0 h1
 obtain⟨f3,h1⟩:=orE0 h1
 obtain⟨f4,f5⟩:=orE0 h1
 exact⟨ze6 f1,ite0 (by decide) f2,fun d hd=>zn7 (zaj f3 d hd),fun d hd=>zn7 (zaj f4 d hd),fun d hd=>zn7 (zaj f5 d hd),fun q hq=>ztw (zaj h2 q hq),fun a ha=>ztt 3 a (zaj g1 a ha),fun e he=>zaj g2 e he,fun e he=>zaj g3 e he⟩
theorem ztv{p:Prog}(h:(za9 p).2=0):OkP p:=by
 unfold za9 at h
 have h1:limE p=0:=qaw fun hh=>by rw[if_pos hh]at h;exact hh h
 rw[if_neg (by simp[h1])]at h
 have h2:zaf zfs p.enums=0:=qaw fun hh=>by rw[if_pos hh]at h;exact hh h
 rw[if_neg (by simp[h2])]at h
 have h3:zaf (fun n=>(zci p.enums n).2) p.nodes=0:=qaw fun hh=>by rw[if_neg hh]at h;exact hh h
 refine⟨ite0 (by decide) h1,fun u hu=>?_,fun n hn=>zvD (zaj h3 n hn)⟩
 have h4:=zaj h2 u hu
 unfold zfs at h4
 obtain⟨e1,h4⟩:=orE0 h4
 obtain⟨e2,h4⟩:=orE0 h4
 obtain⟨e3,h4⟩:=orE0 h4
 exact⟨ze6 e1,ite0 (by decide) e3,(fun hc=>by rw[hc]at e2;simp at e2),fun t ht=>ze6 (zaj h4 t ht)⟩
theorem zsN{l m:List Str}(h:l.Nodup)(hs:∀x∈l,x∈m):l.length≤m.length:=h.length_le_of_subset fun x hx=>hs x hx
theorem zli{l:List Str}(h:l.Nodup)(s:Str):(ins l s).Nodup:=by
 unfold ins
 split
 ·exact h
 ·rename_i hn
  rw[qbq]
  exact⟨h,by simp,fun a ha b hb=>by rw[qaG.1 hb];exact fun e=>hn (e ▸ ha)⟩
theorem zdD{α:Type}{f:List Str->α->List Str}(hf:∀o x,o.Nodup->(f o x).Nodup):∀(l:List α) (o:List Str),o.Nodup->(l.foldl f o).Nodup
 | [],_,h=>h
 | x::l,o,h=>zdD hf l (f o x) (hf o x h)
theorem zmg(m:Nat)(qs:List Equ)(l:List Auto):(zdo m qs l).Nodup:=by
 cases m with
 | zero=>exact qbh
 | succ m=>
   unfold zdo
   refine zdD (fun o a ho=>?_) l _ (zdD (fun o q ho=>zdD (fun o s ho=>zli ho s) _ _ ho) _ _ qbh)
   split
   ·exact ho
   ·refine zdD (fun o s ho=>?_) _ _ ho
    unfold defS
    split
    ·exact ho
    ·exact zli ho s
theorem ziW(vars:List Decl):∀(l:List Str) (o:List Decl),(l.foldl (defO vars) o).map Decl.name=o.map Decl.name++l.filter (fun s=>decide (0≤idxI (fun d:Decl=>decide (d.name=s)) vars))
 | [],o=>by simp
 | s::l,o=>by
   rw[qaR,ziW vars l,qcz]
   unfold defO
   by_cases h:0≤idxI (fun d:Decl=>decide (d.name=s)) vars
   ·simp[h]
   ·simp[h]
theorem zum{vars:List Decl}{s:Str}(h:0≤idxI (fun d:Decl=>decide (d.name=s)) vars):s∈vars.map Decl.name:=by
 induction vars with
 | nil=>exact absurd h (by unfold idxI;simp)
 | cons d l ih=>
   by_cases hd:d.name=s
   ·rw[qaj,hd]
    exact qar ..
   ·refine qao _ (ih ?_)
    unfold idxI at h
    rw[if_neg (by simpa using hd)]at h
    by_cases hx:idxI (fun d:Decl=>decide (d.name=s)) l<0
    ·rw[if_pos hx]at h
     omega
    ·omega
theorem ze3(vars:List Decl)(au:Auto):((zaT vars au).map Decl.name).Nodup/\∀s∈(zaT vars au).map Decl.name,s∈vars.map Decl.name:=by
 unfold zaT
 rw[ziW,qay,qa2]
 refine⟨(zmg _ _ _).filter _,fun s hs=>?_⟩
 exact zum (of_decide_eq_true (qbU.1 hs).2)
theorem zgZ(vars:List Decl)(au:Auto):(zaT vars au).length≤vars.length:=by
 have h:=zsN (ze3 vars au).1 (ze3 vars au).2
 rwa [qaa,qaa]at h
theorem znL(vars:List Decl):∀(l:List Str) (o:List Decl),(∀d∈o,d.clock=[])->∀d∈l.foldl (defO vars) o,d.clock=[]
 | [],_,h=>h
 | s::l,o,h=>znL vars l _ fun d hd=>by
   unfold defO at hd
   exact zwdc
theorem zkN(vars:List Decl)(au:Auto):∀d∈zaT vars au,d.clock=[]:=znL vars _ _ (by simp)
theorem zjM(rd:List Str)(defs:List Decl):∀(l o:List Decl),(∀d∈o,d.clock=[])->∀d∈l.foldl (insF rd defs) o,d.clock=[]
 | [],_,h=>h
 | s::l,o,h=>zjM rd defs l _ fun d hd=>by
   unfold insF at hd
   exact zwdc
theorem zoq(t:I64):∀(l:List Tran) (u:List Str×Bd),(l.foldl (untF t) u).2.locals.length=u.2.locals.length+l.length/\(l.foldl (untF t) u).2.eqs.length=u.2.eqs.length+l.length/\∀d∈(l.foldl (untF t) u).2.locals,d∈u.2.locals\/d.clock=[]
 | [],u=>⟨rfl,rfl,fun d hd=>.inl hd⟩
 | x::l,u=>by
   obtain⟨h1,h2,h3⟩:=zoq t l (untF t u x)
   rw[qaR]
   refine⟨?_,?_,fun d hd=>?_⟩
   ·rw[h1,show(untF t u x).2.locals.length=u.2.locals.length+1 by simp[untF],qam];omega
   ·rw[h2,show(untF t u x).2.eqs.length=u.2.eqs.length+1 by simp[untF],qam];omega
   ·rcases h3 d hd with h|h
    ·rcases qaB.1 (show d∈u.2.locals++[_] from h)with h|h
     ·exact .inl h
     ·rw[qaG.1 h];exact .inr rfl
    ·exact .inr h
theorem zr9{a:Auto}{s:Sta}{b:Auto}(hs:s∈a.states)(hb:b∈s.autos):(zae b).w≤(zae a).w:=by
 have h1:=zat (f:=zae) (sz:=1) hb
 have h2:=zd3 s
 have h3:=zat (f:=staT) (sz:=6) hs
 have h4:=zbN a
 omega
theorem zqA{α:Type}{c:Nat}:∀ {l:List (List α)},(∀x∈l,x.length≤c)->l.flatten.length≤c*l.length
 | [],_=>qaK _
 | x::l,h=>by
   have h1:=h x (qar ..)
   have h2:=zqA (l:=l) fun y hy=>h y (qao _ hy)
   rw[qa8,qae,qam,qca]
   omega
theorem zp2(x:KS)(h:∀s∈x.sts,s.unl.length≤4):(zd7 x).length≤4*x.sts.length+x.bodies.length+x.defs.length+6:=by
 have h1:(x.sts.mapIdx (eqU x)).flatten.length≤4*x.sts.length:=by
  have:=zqA (c:=4) (l:=x.sts.mapIdx (eqU x)) fun y hy=>by
   obtain⟨i,hi,rfl⟩:=qbm.1 hy
   have:=h _ (qad hi)
   unfold eqU
   rw[qa3]
   exact this
  rwa [qa3]at this
 unfold zd7 zhz zjD lefts
 simp only[qae,qa3,qam,qaE,qaa]
 omega
abbrev wsum {α:Type}(f:α->T)(l:List α):Nat:=((l.map f).map T.w).sum
theorem zcN{α:Type}(f:α->T)(a b:List α):wsum f (a++b)=wsum f a+wsum f b:=by simp[wsum]
theorem zaQ{α:Type}(f:α->T)(a:α)(b:List α):wsum f (a::b)=(f a).w+wsum f b:=rfl
theorem zds{α:Type}{f:α->T}{c:Nat}:∀ {l:List α},(∀x∈l,(f x).w≤c)->wsum f l≤c*l.length
 | [],_=>qaK _
 | x::l,h=>by
   have h1:=h x (qar ..)
   have h2:=zds (f:=f) (c:=c) (l:=l) fun y hy=>h y (qao _ hy)
   rw[zaQ,qam,qca]
   omega
theorem zlL{α β:Type}{f:β->T}{h:α->Nat}:∀ {l:List α} {g:Nat->α->List β},(∀i,∀x∈l,wsum f (g i x)≤h x)->wsum f (l.mapIdx g).flatten≤(l.map h).sum
 | [],_,_=>qaK _
 | x::l,g,hg=>by
   have h1:=hg 0 x (qar ..)
   have h2:=zlL (f:=f) (h:=h) (l:=l) (g:=fun i=>g (i+1)) fun i y hy=>hg (i+1) y (qao _ hy)
   rw[qce,qa8,zcN,qaj,qan]
   omega
theorem znf{α:Type}(sz:Nat)(f:α->T)(l:List α):(T.sl sz (l.map f)).w=1+wsum f l:=w_sl sz _
theorem w_n(k:I64):(T.n k).w=1:=by show(T.v _).w=1;rw[T.w];rfl
theorem zrP(d:Decl):(zaa d).w=4+d.name.length+wsum onT d.clock:=by
 rw[show zaa d= .ag [.s d.name,T.n d.ty,.sl 3 (d.clock.map onT)] from rfl,w_ag]
 exact zweh
theorem zwM(o:OnC):(onT o).w=4+o.name.length:=by
 rw[show onT o= .ag [.s o.name,T.n o.t,T.n o.tag] from rfl,w_ag]
 simp only[qaj,qay,qan,qaH,w_s,w_n]
 omega
theorem zne(k o t v:I64)(n:Str)(l:List Ex):(exT (.mk k o t v n l)).w=7+n.length+wsum exT l:=by
 rw[ztk,w_ag]
 exact zweh
theorem zrQ(q:Equ):(equT q).w=(exT q.right).w+1+wsum T.s q.left:=by
 rw[show equT q= .ag (.sl 1 (q.left.map T.s)::exC q.right) from rfl,w_ag,qaj,qan,znf,zax,w_ag]
 omega
def Ext(L0 L:List Decl):Prop:=∃A,L=L0++A/\∀d∈A,(zaa d).w≤100
theorem Ext.refl(L:List Decl):Ext L L:=⟨[],by simp,by simp⟩
theorem Ext.w{L0 L:List Decl}(h:Ext L0 L):wsum zaa L+100*L0.length≤wsum zaa L0+100*L.length:=by
 obtain⟨A,rfl,hA⟩:=h
 have:=zds hA
 rw[zcN,qae,Nat.mul_add]
 omega
abbrev Sh (s:Str):Prop:=s.length≤40
theorem zlw{a:List Str}{n:Nat}{b:Str}(h:Room a n)(hb:b.length≤9):Sh (zaP a b):=by
 have:=zf7 h b
 omega
structure LcOk (L0:List Decl) (n:Nat) (s:Lc):Prop where
 room:Room s.1 n
 ext:Ext L0 s.2
theorem LcOk.mono{L0:List Decl}{n k:Nat}{s:Lc}(h:LcOk L0 n s)(hk:k≤n):LcOk L0 k s:=⟨h.room.mono hk,h.ext⟩
theorem LcOk.loc{L0:List Decl}{n:Nat}{s:Lc}{b:Str}{t:I64}{ck:List OnC}(h:LcOk L0 (n+1) s)(hb:b.length≤9)(hc:∀o∈ck,Sh o.name)(h1:ck.length≤1):LcOk L0 n (locF b t ck s).1/\Sh (locF b t ck s).2:=by
 have hs:=zlw h.room hb
 refine⟨⟨h.room.loc1 (by omega),?_⟩,hs⟩
 obtain⟨A,h2,h3⟩:=h.ext
 refine⟨A++[⟨zaP s.1 b,t,ck⟩],by show s.2++_=_;rw[h2,qbf],fun d hd=>?_⟩
 rcases qaB.1 hd with hd|hd
 ·exact h3 d hd
 ·rw[qaG.1 hd,zrP]
  have h4:=zds (f:=onT) (c:=44) (l:=ck) fun o ho=>by rw[zwM];have:=hc o ho;omega
  have h5:44*ck.length≤44*1:=qbl _ h1
  dsimp only
  omega
theorem LcOk.maps{α:Type}{L0:List Decl}{f:Lc->α->Lc×Str}:∀ {l:List α} {s:Lc} {n:Nat},(∀x∈l,∀s n,LcOk L0 (n+1) s->LcOk L0 n (f s x).1/\Sh (f s x).2)->LcOk L0 (l.length+n) s->LcOk L0 n (mapS f s l).1/\∀y∈(mapS f s l).2,Sh y
 | [],s,n,_,h=>⟨h.mono (by simp),by intro y hy;cases hy⟩
 | x::l,s,n,hf,h=>by
   obtain⟨h1,h2⟩:=hf x (qar ..) s (l.length+n) (h.mono (by rw[qam];omega))
   obtain⟨h3,h4⟩:=LcOk.maps (l:=l) (fun y hy=>hf y (qao _ hy)) h1
   refine⟨h3,fun y hy=>?_⟩
   rcases qa4.1 (show y∈(f s x).2::(mapS f (f s x).1 l).2 from hy)with rfl|hy
   ·exact h2
   ·exact h4 y hy
theorem LcOk.cnds{L0:List Decl}:∀ {l:List Sta} {s:Lc} {n:Nat},(∀x∈l,x.unl.length≤4)->LcOk L0 (4*l.length+n) s->LcOk L0 n (zb7 s l).1/\∀c∈(zb7 s l).2,∀y∈c,Sh y
 | [],s,n,_,h=>⟨h.mono (by simp),by intro y hy;cases hy⟩
 | x::l,s,n,hu,h=>by
   have hx:=hu x (qar ..)
   obtain⟨h1,h2⟩:=LcOk.maps (f:=fun s (_:Tran)=>locF zea bT [] s) (l:=x.unl) (s:=s) (n:=4*l.length+n) (fun x _ s n h=>h.loc (by decide) (by simp) (by simp)) (h.mono (by rw[qam];omega))
   obtain⟨h3,h4⟩:=LcOk.cnds (l:=l) (s:=(cndS s x.unl).1) (n:=n) (fun y hy=>hu y (qao _ hy)) h1
   refine⟨h3,fun c hc=>?_⟩
   rcases qa4.1 (show c∈(cndS s x.unl).2::(zb7 (cndS s x.unl).1 l).2 from hc)with rfl|hc
   ·exact h2
   ·exact h4 c hc
theorem zrG:∀ {l:List Sta} {a:List Str} {n:Nat},Room a (l.length+n)->∀y∈(zcg a l).2,Sh y
 | [],_,_,_,y,hy=>by cases hy
 | x::l,a,n,h,y,hy=>by
   rcases qa4.1 (show y∈(frF a sAt).2::(zcg (frF a sAt).1 l).2 from hy)with rfl|hy
   ·exact zlw h (by decide)
   ·exact zrG (l:=l) (n:=n) (Room.fr1 (h.mono (by rw[qam];omega)) (by decide)) y hy
structure KW (L0:List Decl) (n:Nat) (x:KS):Prop where
 lc:LcOk L0 n (x.a,x.L)
 was:Sh x.was
 flag:Sh x.flag
 now:Sh x.now
 reset:Sh x.reset
 cs:∀c∈x.cs,∀y∈c,Sh y
 parts:∀c∈x.parts,∀y∈c,Sh y
 defs:∀d∈x.defs,Sh d.name/\d.clock=[]
 names:∀b∈x.bodies,Sh b.name/\∀d∈b.ins,Sh d.name
theorem zsm{vars:List Decl}(hv:∀d∈vars,Sh d.name)(au:Auto):∀d∈zaT vars au,Sh d.name/\d.clock=[]:=fun d hd=>by
 refine⟨?_,zkN vars au d hd⟩
 obtain⟨e,he,h⟩:=qa1.1 ((ze3 vars au).2 d.name (qbO hd))
 rw[<-h]
 exact hv e he
theorem KW.start{s:Lc}{es:List En}{c:Nc}{Q:List T}{vars:List Decl}{au:Auto}{n:Nat}(hv:∀d∈vars,Sh d.name)(hl:au.states.length≤8)(hu:∀x∈au.states,x.unl.length≤4)(h:Room s.1 (n+100)):
  KW s.2 n (zbG s es c Q vars au)/\Sh (dclF s es.length au.states).2.1.name/\∀y∈(dclF s es.length au.states).2.1.tags,Sh y:=by
 have h1:Room (frF s.1 ze9).1 (n+99):=Room.fr1 h (by decide)
 have h2:=zeO au.states _ (n+91) (h1.mono (by omega))
 have h3:LcOk s.2 (n+91) ((zcg (frF s.1 ze9).1 au.states).1,s.2):=⟨h2,Ext.refl _⟩
 obtain⟨h4,w1⟩:=LcOk.loc (n:=n+90) (b:=sWas) (t:=toI (3+es.length)) (ck:=[]) h3 (by decide) (by simp) (by simp)
 obtain⟨h5,w2⟩:=LcOk.loc (n:=n+89) (b:=zj0) (t:=bT) (ck:=[]) h4 (by decide) (by simp) (by simp)
 obtain⟨h6,w3⟩:=LcOk.cnds (l:=au.states) (n:=n+57) hu (h5.mono (by omega))
 obtain⟨h7,w4⟩:=LcOk.loc (n:=n+56) (b:=sNow) (t:=toI (3+es.length)) (ck:=[]) h6 (by decide) (by simp) (by simp)
 obtain⟨h8,w5⟩:=LcOk.loc (n:=n+55) (b:=zn9) (t:=bT) (ck:=[]) h7 (by decide) (by simp) (by simp)
 exact⟨⟨h8.mono (by omega),w1,w2,w4,w5,w3,(by intro c hc;cases hc),zsm hv au,(by intro b hb;cases hb)⟩,zlw h (by decide),zrG (n:=n+91) (h1.mono (by omega))⟩
theorem zmC(rd:List Str)(defs:List Decl):∀(l o:List Decl),(∀d∈l,Sh d.name)->(∀d∈o,Sh d.name)->∀d∈l.foldl (insF rd defs) o,Sh d.name
 | [],_,_,h=>h
 | s::l,o,hl,h=>zmC rd defs l _ (fun d hd=>hl d (qao _ hd)) fun d hd=>by
   unfold insF at hd
   split at hd
   ·rcases qaB.1 hd with hd|hd
    ·exact h d hd
    ·rw[qaG.1 hd]
     exact hl s (qar ..)
   ·exact h d hd
theorem KW.body{L0:List Decl}{n v:Nat}{x:KS}{vars:List Decl}(h:KW L0 (n+(v+9)) x)(hd:x.defs.length≤v)(hv:∀d∈vars,Sh d.name)(i:Nat)(s:Sta)(hu:s.unt.length≤4):KW L0 n (zdn x i s vars):=by
 have h1:=ziQ x i s vars (n+(v+2)) hu (h.lc.room.mono (by omega))
 have h2:LcOk L0 (n+(v+2)) ((zch x i s vars).1,x.L):=⟨h1,h.lc.ext⟩
 have hon:∀o∈[onL x x.now i],Sh o.name:=fun o ho=>by rw[qaG.1 ho];exact h.now
 obtain⟨h3,w1⟩:=LcOk.maps (f:=fun s (d:Decl)=>locF ziA d.ty [onL x x.now i] s) (l:=x.defs) (n:=n+2) (fun d _ s n h=>h.loc (by decide) hon (by simp)) (h2.mono (by omega))
 obtain⟨h4,w2⟩:=LcOk.loc (n:=n+1) (b:=zbm) (t:=x.t) (ck:=[onL x x.now i]) h3 (by decide) hon (by simp)
 obtain⟨h5,w3⟩:=LcOk.loc (n:=n) (b:=zb4) (t:=bT) (ck:=[onL x x.now i]) h4 (by decide) hon (by simp)
 refine⟨h5,h.was,h.flag,h.now,h.reset,h.cs,fun c hc=>?_,h.defs,fun b hb=>?_⟩
 ·rcases qaB.1 (show c∈x.parts++[(zgR x i ((zch x i s vars).1,x.L)).2] from hc)with hc|hc
  ·exact h.parts c hc
  ·rw[qaG.1 hc]
   intro y hy
   rcases qaB.1 (show y∈(prtS (onL x x.now i) ((zch x i s vars).1,x.L) x.defs).2++[_,_] from hy)with hy|hy
   ·exact w1 y hy
   ·simp only[qa4,qbD,or_false]at hy
    rcases hy with rfl|rfl
    ·exact w2
    ·exact w3
 ·rcases qaB.1 (show b∈x.bodies++[(zch x i s vars).2] from hb)with hb|hb
  ·exact h.names b hb
  ·rw[qaG.1 hb]
   exact⟨zlw h.lc.room (by decide),zmC (zbD 100000000 s) x.defs vars [] hv (by simp)⟩
theorem KW.bodies{L0:List Decl}{v:Nat}{vars:List Decl}(hv:∀d∈vars,Sh d.name):∀(l:List Sta) (n:Nat) (q:Nat×KS),(∀s∈l,s.unt.length≤4)->KW L0 (n+l.length*(v+9)) q.2->q.2.defs.length≤v->KW L0 n (l.foldl (fun(p:Nat×KS) s=>(p.1+1,zdn p.2 p.1 s vars)) q).2
 | [],n,q,_,h,_=>by simpa using h
 | s::l,n,q,hu,h,hd=>by
   rw[qaR]
   refine KW.bodies hv l n _ (fun t ht=>hu t (qao _ ht)) (KW.body (v:=v) ?_ hd hv q.1 s (hu s (qar ..))) hd
   exact zwfw
theorem KW.auto{s:Lc}{es:List En}{c:Nc}{Q:List T}{vars:List Decl}{au:Auto}{n v:Nat}(hv:∀d∈vars,Sh d.name)(hl:au.states.length≤8)(hu:∀x∈au.states,x.unl.length≤4/\x.unt.length≤4)(hd:(zaT vars au).length≤v)(h:Room s.1 (n+(v*8+200))):
  KW s.2 n (zbe s es c Q vars au)/\Sh (zbe s es c Q vars au).next/\Sh (zbe s es c Q vars au).back:=by
 have hm:au.states.length*(v+9)≤8*(v+9):=qaC _ hl
 obtain⟨h1,_,_⟩:=KW.start (s:=s) (es:=es) (c:=c) (Q:=Q) (vars:=vars) (au:=au) (n:=n+2+au.states.length*(v+9)) hv hl (fun x hx=>(hu x hx).1) (h.mono (by omega))
 have h2:=KW.bodies hv au.states (n+2) (0,zbG s es c Q vars au) (fun x hx=>(hu x hx).2) h1 hd
 unfold zbe zcR
 dsimp only
 generalize (au.states.foldl (fun(p:Nat×KS) s=>(p.1+1,zdn p.2 p.1 s vars)) (0,zbG s es c Q vars au)).2=x at*
 obtain⟨h3,w1⟩:=LcOk.loc (n:=n+1) (b:=zbm) (t:=x.t) (ck:=[]) h2.lc (by decide) (by simp) (by simp)
 obtain⟨h4,w2⟩:=LcOk.loc (n:=n) (b:=zb4) (t:=bT) (ck:=[]) h3 (by decide) (by simp) (by simp)
 exact⟨⟨h4,h2.was,h2.flag,h2.now,h2.reset,h2.cs,h2.parts,h2.defs,h2.names⟩,w1,w2⟩
end Go.Proofs.YtpnnpgbaiobbjaaGreatDoor
