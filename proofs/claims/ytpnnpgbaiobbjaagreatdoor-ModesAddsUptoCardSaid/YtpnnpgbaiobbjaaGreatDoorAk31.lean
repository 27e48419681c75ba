import Derived.Test.YtpnnpgbaiobbjaaGreatDoorAk30
set_option linter.all false
namespace Go.Proofs.YtpnnpgbaiobbjaaGreatDoor
open Go Go.TL
attribute [local irreducible] TR TO Then zao RetK Sound zab Kf GG zaZ
theorem zi0(x0:KS)(vars:List Decl):∀(l:List Sta) (j i:Nat) (x:KS) (n:Nat),(∀s∈l,s.unt.length≤4)->BK x0 vars.length (n+l.length*(x0.defs.length+9)) j x->BK x0 vars.length n (j+l.length) (l.foldl (fun(p:Nat×KS) s=>(p.1+1,zdN p.2 p.1 s vars)) (i,x)).2
 | [],j,i,x,n,_,h=>by
   rw[qaD,qca]at h
   exact h
 | s::l,j,i,x,n,hu,h=>by
   rw[qaU,qam,show j+(l.length+1)=j+1+l.length by omega]
   refine zi0 x0 vars l (j+1) (i+1) _ n (fun t ht=>hu t (qar _ ht)) (BK.next ?_ i s (hu s (qas ..)))
   exact zwfw
def zbv(s:Lc)(es:List En)(c:Nc)(Q:List T)(vars:List Decl)(au:Auto):KS:=
 let x:=(zcR vars (zbU s es c Q vars au) au.states).2
 let nx:=locF zbo x.t [] (x.a,x.L)
 let bk:=locF zcd bT [] nx.1
 { x with a:=bk.1.1,L:=bk.1.2,next:=nx.2,back:=bk.2 }
theorem zue(s:Lc)(es:List En)(c:Nc)(Q:List T)(vars:List Decl)(au:Auto):zl3 s es c Q vars au= { zbv s es c Q vars au with Q:=(zbv s es c Q vars au).Q++(zfv (zbv s es c Q vars au)).map equT }:=rfl
theorem zrK(s:Lc)(es:List En)(c:Nc)(Q:List T)(vars:List Decl)(au:Auto)(hl:au.states.length≤8)(hu:∀x∈au.states,x.unl.length≤4)(n:Nat)(h:Room s.1 (n+100)):BK (zbU s es c Q vars au) vars.length n 0 (zbU s es c Q vars au):=by
 refine⟨rfl,rfl,rfl,(by intro p hp;cases hp),(by intro p hp;cases hp),?_,by omega⟩
 exact zkS s es.length au.states hl hu n h
theorem znE(s:Lc)(es:List En)(c:Nc)(Q:List T)(vars:List Decl)(au:Auto)(hl:au.states.length≤8)(hu:∀x∈au.states,x.unl.length≤4/\x.unt.length≤4)(n:Nat)(h:Room s.1 (n+((zaU vars au).length*8+200))):
  BK (zbU s es c Q vars au) vars.length n au.states.length (zcR vars (zbU s es c Q vars au) au.states).2:=by
 have h1:=zrK s es c Q vars au hl (fun x hx=>(hu x hx).1) (n+au.states.length*((zaU vars au).length+9)) (h.mono (by
  have:au.states.length*((zaU vars au).length+9)≤8*((zaU vars au).length+9):=qaC _ hl
  omega))
 have h2:=zi0 (zbU s es c Q vars au) vars au.states 0 0 (zbU s es c Q vars au) n (fun t ht=>(hu t ht).2) h1
 rw[qaO]at h2
 exact h2
theorem zoK(s:Lc)(es:List En)(c:Nc)(Q:List T)(vars:List Decl)(au:Auto)(hl:au.states.length≤8)(hu:∀x∈au.states,x.unl.length≤4/\x.unt.length≤4)(n:Nat)(h:Room s.1 (n+((zaU vars au).length*8+400))):Room (zbv s es c Q vars au).a n:=by
 have h1:=(znE s es c Q vars au hl hu (n+2) (h.mono (by omega))).room
 unfold zbv
 dsimp only
 generalize (zcR vars (zbU s es c Q vars au) au.states).2=x at*
 exact Room.loc1 (s:=(locF zbo x.t [] (x.a,x.L)).1) (Room.loc1 (s:=(x.a,x.L)) h1 (by decide)) (by decide)
theorem zuh(s:Lc)(es:List En)(c:Nc)(Q:List T)(vars:List Decl)(au:Auto)(hl:au.states.length≤8)(hu:∀x∈au.states,x.unl.length≤4/\x.unt.length≤4)(h:Room s.1 ((zaU vars au).length*8+400)):(zbv s es c Q vars au).L.length≤s.2.length+8*((zaU vars au).length+2)+42:=by
 have h1:=(znE s es c Q vars au hl hu 0 (h.mono (by omega))).L
 have h2:(zbU s es c Q vars au).L.length≤s.2.length+40:=znR s es.length au.states hl (fun x hx=>(hu x hx).1)
 have h3:au.states.length*((zaU vars au).length+2)≤8*((zaU vars au).length+2):=qaC _ hl
 have h4:(zbU s es c Q vars au).defs=zaU vars au:=rfl
 rw[h4]at h1
 unfold zbv
 dsimp only
 generalize (zcR vars (zbU s es c Q vars au) au.states).2=x at*
 simp only[locF,qae,qam,qaD]
 omega
theorem znF(s:Lc)(es:List En)(c:Nc)(Q:List T)(vars:List Decl)(au:Auto)(hl:au.states.length≤8)(hu:∀x∈au.states,x.unl.length≤4/\x.unt.length≤4)(h:Room s.1 ((zaU vars au).length*8+400)):
  (zbv s es c Q vars au).es=(es++[(dclF s es.length au.states).2.1]).map enT/\(zbv s es c Q vars au).Q=Q/\(zbv s es c Q vars au).c=c/\(zbv s es c Q vars au).sts=au.states/\(zbv s es c Q vars au).defs=zaU vars au/\(zbv s es c Q vars au).bodies.length=au.states.length:=by
 have h1:=znE s es c Q vars au hl hu 0 (h.mono (by omega))
 have h2:=h1.same
 have h3:=h1.bl
 unfold zbv
 dsimp only
 generalize (zcR vars (zbU s es c Q vars au) au.states).2=x at*
 refine⟨?_,?_,?_,?_,?_,h3⟩
 all_goals
  rw[h2]
  rfl
structure NS where
 a:List Str
 es:List En
 L:List Decl
 Q:List Equ
 bs:List Nod
def zf0(c:Nc)(vars:List Decl)(p:NS)(au:Auto):NS:=
 ⟨(zbv (p.a,p.L) p.es c (p.Q.map equT) vars au).a,p.es++[(dclF (p.a,p.L) p.es.length au.states).2.1],(zbv (p.a,p.L) p.es c (p.Q.map equT) vars au).L,p.Q++zfv (zbv (p.a,p.L) p.es c (p.Q.map equT) vars au),p.bs++(zbv (p.a,p.L) p.es c (p.Q.map equT) vars au).bodies⟩
def ncOf(n:Nod):Nc:=⟨.s n.name,zac n.ins,zac n.outs,.v (.slice none 0 0),.sl 6 (n.assume.map exT),.sl 6 (n.ensure.map exT)⟩
def zaG:Nat->List Str×List En->Nod->(List Str×List En)×List Nod
 | 0,s,n=>(s,[{ n with autos:=[] }])
 | k+1,s,n=>
   let r:=n.autos.foldl (zf0 (ncOf n) (zaB n)) ⟨s.1,s.2,n.locals,n.eqs,[]⟩
   let q:=r.bs.foldl (fun(p:(List Str×List En)×List Nod) b=>((zaG k p.1 b).1,p.2++(zaG k p.1 b).2)) ((r.a,r.es),[])
   (q.1,q.2++[{ n with locals:=r.L,eqs:=r.Q,autos:=[] }])
def expF(p:Prog):Prog:=
 let r:=p.nodes.foldl (fun(q:(List Str×List En)×List Nod) n=>((zaG 4 q.1 n).1,q.2++(zaG 4 q.1 n).2)) ((zcg 100000000 p,p.enums),[])
 ⟨r.1.2,r.2⟩
abbrev xH (a:List Str)(es:List T):Heap:=[setB a,adB,axB,.tail es.length,exB es]
def autJ(s:List Str×List En)(n:Nod)(j:Nat):NS:=(n.autos.take j).foldl (zf0 (ncOf n) (zaB n)) ⟨s.1,s.2,n.locals,n.eqs,[]⟩
def bodJ(k:Nat)(r:NS)(j:Nat):(List Str×List En)×List Nod:=(r.bs.take j).foldl (fun(p:(List Str×List En)×List Nod) b=>((zaG k p.1 b).1,p.2++(zaG k p.1 b).2)) ((r.a,r.es),[])
abbrev NodC (k:Nat)(s:List Str×List En)(n:Nod):Prop:=Sound Tryz.prog 28 [.ref 4 0,.t (nodT n)] (xH s.1 (s.2.map enT)) (fun r H'=>r= .ret (.t (.sl 8 ((zaG k s n).2.map nodT)))/\H'=xH (zaG k s n).1.1 ((zaG k s n).1.2.map enT))
set_option maxHeartbeats 16000000 in
theorem zjo (k:Nat) (s:List Str×List En) (n:Nod) (hal:n.autos.length≤8) (hv:Pure Tryz.prog 56 [.t (.ag (nodC n))] (.t (zac (zaB n)))) (hv2:(zaB n).length≤1000000) (hL:n.locals.length≤1000000) (hE:n.eqs.length≤1000000)
  (hau:∀au∈n.autos,(zae au).w≤90000000/\au.states.length≤8/\(∀x∈au.states,x.unl.length≤4/\x.unt.length≤4)/\(zaU (zaB n) au).length≤100000)
  (hR:∀j (h:j<n.autos.length),Room (autJ s n j).a ((zaU (zaB n) n.autos[j]).length*8+400)/\(autJ s n j).L.length≤10000000/\(autJ s n j).Q.length≤10000000/\(autJ s n j).es.length≤10000000/\(autJ s n (j+1)).bs.length≤1000000)
  (hB:(autJ s n n.autos.length).bs.length≤1000000) (hI:∀j (h:j<(autJ s n n.autos.length).bs.length),NodC k (bodJ k (autJ s n n.autos.length) j).1 (autJ s n n.autos.length).bs[j]/\(bodJ k (autJ s n n.autos.length) (j+1)).2.length≤1000000000) (hT:(bodJ k (autJ s n n.autos.length) (autJ s n n.autos.length).bs.length).2.length≤1000000000):NodC (k+1) s n:=by
 have cl:=zee (n.locals.map zaa) (by rw[qaa];omega)
 have ce:=zgz (n.eqs.map equT) (by rw[qaa];omega)
 have hmA:(n.autos.map zae).length=n.autos.length:=qaa _
 have hnT:nodT n= .ag (nC n):=rfl
 have hnC:nodC n=(nC n):=rfl
 have hP0:autJ s n 0=⟨s.1,s.2,n.locals,n.eqs,[]⟩:=rfl
 have hPn:∀j (h:j<n.autos.length),autJ s n (j+1)=zf0 (ncOf n) (zaB n) (autJ s n j) n.autos[j]:=fun j h=>zau _ _ h
 rw[hnC]at hv
 unfold NodC
 rw[hnT]
 refine so Tryz.func28 ?_
 repeat' (first|refine zqx ?_|(apply TO.zdv cl;(iterate 3 exact rfl);exact zqb;exact rfl)|(apply TO.zdv ce;(iterate 3 exact rfl);exact zqb;exact rfl)|refine TR.region ?_|refine zqi ?_|refine zqh ?_|refine zqj ?_|refine zqg ?_|fail)
 refine TR.tail 8 6 rfl ?_
 refine TR.tail 8 7 rfl ?_
 refine TR.zal n.autos.length (fun _=>True) (fun j=>[(0,.ref 4 0),(3,.cp (nC n) 0),(5,.ref 5 0),(6,.sl 8 ((autJ s n j).bs.map nodT) 8),(7,.sl 8 [] 9),(23,.t (.sl 1 (n.autos.map zae))),(24,.i n.autos.length),(25,.i j)]) (fun j=>nH (autJ s n j).a ((autJ s n j).es.map enT) (ncOf n) ((autJ s n j).L.map zaa) ((autJ s n j).Q.map equT)++[.tail ((autJ s n j).bs.map nodT).length,.tail 0]) trivial (fun j hlt _=>?_) (fun _=>?_) ⟨rfl,rfl,rfl,rfl,rfl,rfl,by rw[<-hmA];rfl,rfl,trivial⟩ rfl
 ·have hx:=zar zae hlt
  obtain⟨w1,w2,w3,w4⟩:=hau _ (qad hlt)
  obtain⟨r1,r2,r3,r4,r5⟩:=hR j hlt
  have hn:=hPn j hlt
  rw[hn]at r5
  generalize autJ s n j=p at*
  have hmb:(p.bs.map nodT).length=p.bs.length:=qaa _
  have ca:=zgQ (p.a,p.L) p.es (ncOf n) (p.Q.map equT) (zaB n) n.autos[j] w1 w2 w3 w4 hv2 r1 (by dsimp only;omega) (by rw[qaa];omega) (by omega)
  obtain⟨y1,y2,_,_,_,y6⟩:=znF (p.a,p.L) p.es (ncOf n) (p.Q.map equT) (zaB n) n.autos[j] w2 w3 r1
  rw[zue]at ca
  dsimp only at ca y1 y2
  rw[y1,y2,<-qal]at ca
  have hbl:(zf0 (ncOf n) (zaB n) p n.autos[j]).bs=p.bs++(zbv (p.a,p.L) p.es (ncOf n) (p.Q.map equT) (zaB n) n.autos[j]).bodies:=rfl
  have hpe:zf0 (ncOf n) (zaB n) p n.autos[j]=⟨(zbv (p.a,p.L) p.es (ncOf n) (p.Q.map equT) (zaB n) n.autos[j]).a,p.es++[(dclF (p.a,p.L) p.es.length n.autos[j].states).2.1],(zbv (p.a,p.L) p.es (ncOf n) (p.Q.map equT) (zaB n) n.autos[j]).L,p.Q++zfv (zbv (p.a,p.L) p.es (ncOf n) (p.Q.map equT) (zaB n) n.autos[j]),p.bs++(zbv (p.a,p.L) p.es (ncOf n) (p.Q.map equT) (zaB n) n.autos[j]).bodies⟩:=rfl
  rw[hpe]at hn
  rw[hbl,qae]at r5
  clear hpe hbl hPn hR hI hau hB hT
  generalize hY:zbv (p.a,p.L) p.es (ncOf n) (p.Q.map equT) (zaB n) n.autos[j]=y at*
  clear hY
  generalize p.es++[(dclF (p.a,p.L) p.es.length n.autos[j].states).2.1]=es1 at*
  generalize p.Q++zfv y=Q1 at*
  have hmy:(y.bodies.map nodT).length=y.bodies.length:=qaa _
  rw[zbV]at hx ca
  generalize n.autos[j]=au at*
  repeat' (first|refine wkt ?_|refine zqp ?_|refine zab.exit ?_|exact wkc|intro hc|refine wk2 ?_ ?_|fail)
  apply TR.zhc [6] 0 (g:=True) [(_,0,1),(_,0,0),(_,0,0),(_,0,0),(_,0,0),(_,1,0),(_,1,0),(_,2,2)] [nH p.a (p.es.map enT) (ncOf n) (p.L.map zaa) (p.Q.map equT)++[.tail (p.bs.map nodT).length,.tail 0],nH y.a (es1.map enT) (ncOf n) (y.L.map zaa) (Q1.map equT)++[.tail (p.bs.map nodT).length,.tail 0],nH y.a (es1.map enT) (ncOf n) (y.L.map zaa) (Q1.map equT)++[.tail ((p.bs.map nodT).length+(y.bodies.map nodT).length),.tail 0]] hmix
  case hB=>exact zqv
  case hw=>exact rfl
  case h0=>exact rfl
  case hp=>
   repeat' (first|exact trivial|exact⟨⟨rfl,rfl⟩,trivial⟩|exact qaf rfl rfl|refine qaf (fun env=>?_) ?_|refine qaf ?_ ?_|refine wma ?_|refine wmv hv ?_|(apply TO.zaE 8 ca;(iterate 3 exact rfl);exact zqb;(iterate 8 exact rfl))|(apply TO.zbb zag;(iterate 13 exact rfl);exact zqn;exact rfl)|refine wmk ?_|fail)
   done
  case hc=>exact rfl
  case hF=>exact rfl
  case hE=>exact rfl
  intro _
  repeat' (first|refine wkt ?_|refine zab.exit ?_|exact wkc|intro hc|refine wk2 ?_ ?_|refine wk ?_|fail)
  exact zab.zat hlt trivial (by(try dsimp only);rw[hn];dsimp only;rw[qal];exact⟨rfl,rfl,rfl,rfl,rfl,rfl,rfl,rfl,trivial⟩) (by(try dsimp only);rw[hn];dsimp only;rw[qal (l₁:=p.bs),qae])
 clear hau hR hPn hP0 cl ce
 have hnf:zaG (k+1) s n=((bodJ k (autJ s n n.autos.length) (autJ s n n.autos.length).bs.length).1,(bodJ k (autJ s n n.autos.length) (autJ s n n.autos.length).bs.length).2++[{ n with locals:=(autJ s n n.autos.length).L,eqs:=(autJ s n n.autos.length).Q,autos:=[] }]):=by
  unfold bodJ autJ
  simp only[qah]
  rfl
 rw[hnf]
 clear hnf
 have hJn:∀j (h:j<(autJ s n n.autos.length).bs.length),bodJ k (autJ s n n.autos.length) (j+1)=((zaG k (bodJ k (autJ s n n.autos.length) j).1 (autJ s n n.autos.length).bs[j]).1,(bodJ k (autJ s n n.autos.length) j).2++(zaG k (bodJ k (autJ s n n.autos.length) j).1 (autJ s n n.autos.length).bs[j]).2):=fun j h=>zau (fun(p:(List Str×List En)×List Nod) b=>((zaG k p.1 b).1,p.2++(zaG k p.1 b).2)) _ h
 have hJ0:bodJ k (autJ s n n.autos.length) 0=(((autJ s n n.autos.length).a,(autJ s n n.autos.length).es),[]):=rfl
 generalize autJ s n n.autos.length=R at*
 have hmR:(R.bs.map nodT).length=R.bs.length:=qaa _
 repeat' (first|refine wkt ?_|refine zab.exit ?_|exact wkc|intro hc|refine wk2 ?_ ?_|fail)
 refine TR.zal R.bs.length (fun _=>True) (fun j=>[(0,.ref 4 0),(5,.ref 5 0),(7,.sl 8 ((bodJ k R j).2.map nodT) 9),(37,.sl 8 (R.bs.map nodT) 8),(38,.i R.bs.length),(39,.i j)]) (fun j=>nH (bodJ k R j).1.1 ((bodJ k R j).1.2.map enT) (ncOf n) (R.L.map zaa) (R.Q.map equT)++[.tail (R.bs.map nodT).length,.tail ((bodJ k R j).2.map nodT).length]) trivial (fun j hlt _=>?_) (fun _=>?_) ⟨rfl,rfl,by rw[hJ0];rfl,rfl,by rw[<-hmR];rfl,rfl,trivial⟩ (by(try dsimp only);rw[hJ0];rfl)
 ·have hx:=zar nodT hlt
  have hn:=hJn j hlt
  obtain⟨ci,ti⟩:=hI j hlt
  rw[hn]at ti
  clear hJn hI hT hJ0 hv
  generalize bodJ k R j=q at*
  obtain⟨⟨a1,es1⟩,bs1⟩:=q
  dsimp only at ci ti hn⊢
  unfold NodC at ci
  dsimp only at ci
  generalize zaG k (a1,es1) R.bs[j]=z at*
  obtain⟨⟨a2,es2⟩,bs2⟩:=z
  dsimp only at ci ti hn⊢
  rw[qae]at ti
  have m1:(bs1.map nodT).length=bs1.length:=qaa _
  have m2:(bs2.map nodT).length=bs2.length:=qaa _
  generalize R.bs[j]=b at*
  have hbT:nodT b= .ag (nC b):=rfl
  rw[hbT]at hx ci
  repeat' (first|refine wkt ?_|refine zqp ?_|(apply TO.zaE 5 ci;(iterate 3 exact rfl);exact zqb;(iterate 8 exact rfl))|refine zqe ?_|refine zab.exit ?_|exact wkc|intro hc|refine wk2 ?_ ?_|refine wk ?_|fail)
  exact zab.zat hlt trivial (by(try dsimp only);rw[hn];dsimp only;rw[qal];exact⟨rfl,rfl,rfl,rfl,rfl,rfl,trivial⟩) (by(try dsimp only);rw[hn];dsimp only;rw[qal (l₁:=bs1),qae];rfl)
 clear hJn hI hJ0 hv
 generalize bodJ k R R.bs.length=q at*
 obtain⟨⟨a1,es1⟩,bs1⟩:=q
 dsimp only at hT⊢
 have m1:(bs1.map nodT).length=bs1.length:=qaa _
 refine TR.zfj 5 3 (Le.own _ _ _) rfl rfl rfl ?_
 refine TR.zfj 5 4 (Le.own _ _ _) rfl rfl rfl ?_
 refine TR.zfj 5 5 (v':=.t (.sl 1 [])) (Le.nil _) rfl rfl rfl ?_
 repeat' (first|refine wkt ?_|refine zqe ?_|refine zab.exit ?_|exact wkc|intro hc|refine wk2 ?_ ?_|refine wk ?_|fail)
 rw[qal]
 exact RetK.keep 5 rfl (Le.own _ _ _) rfl rfl rfl rfl rfl ⟨rfl,rfl⟩
theorem zgm(n:Nod):zaB n=n.ins++n.outs++n.locals:=by simp[zaB]
theorem zhh(n:Nod):(zaB n).length=n.ins.length+n.outs.length+n.locals.length:=by rw[zgm,qae,qae]
structure zlZ (s:List Str×List En) (n:Nod):Prop where
 hal:n.autos.length≤8
 hv:Pure Tryz.prog 56 [.t (.ag (nodC n))] (.t (zac (zaB n)))
 hv2:(zaB n).length≤1000000
 hL:n.locals.length≤1000000
 hE:n.eqs.length≤1000000
 hau:∀au∈n.autos,(zae au).w≤90000000/\au.states.length≤8/\(∀x∈au.states,x.unl.length≤4/\x.unt.length≤4)/\(zaU (zaB n) au).length≤100000
 hR:∀j (h:j<n.autos.length),Room (autJ s n j).a ((zaU (zaB n) n.autos[j]).length*8+400)/\(autJ s n j).L.length≤10000000/\(autJ s n j).Q.length≤10000000/\(autJ s n j).es.length≤10000000/\(autJ s n (j+1)).bs.length≤1000000
 hB:(autJ s n n.autos.length).bs.length≤1000000
def NodX:Nat->List Str×List En->Nod->Prop
 | 0,s,n=>n.autos=[]/\zlZ s n
 | k+1,s,n=>zlZ s n/\(∀j (h:j<(autJ s n n.autos.length).bs.length),NodX k (bodJ k (autJ s n n.autos.length) j).1 (autJ s n n.autos.length).bs[j]/\(bodJ k (autJ s n n.autos.length) (j+1)).2.length≤1000000000)/\(bodJ k (autJ s n n.autos.length) (autJ s n n.autos.length).bs.length).2.length≤1000000000
theorem zh6:∀(k:Nat) (s:List Str×List En) (n:Nod),NodX k s n->NodC k s n
 | 0,s,n,h=>by
   obtain⟨ha,hp⟩:=h
   have hb:(autJ s n n.autos.length).bs=[]:=by rw[ha];rfl
   have h1:=zjo 0 s n hp.hal hp.hv hp.hv2 hp.hL hp.hE hp.hau hp.hR hp.hB (fun j hj=>by rw[hb]at hj;exact absurd hj (qbC _)) (by rw[hb];exact qaK _)
   have h2:zaG 1 s n=zaG 0 s n:=by
    unfold zaG
    rw[ha]
    rfl
   unfold NodC at h1⊢
   rw[qaO,h2]at h1
   exact h1
 | k+1,s,n,h=>by
   obtain⟨hp,hI,hT⟩:=h
   exact zjo k s n hp.hal hp.hv hp.hv2 hp.hL hp.hE hp.hau hp.hR hp.hB (fun j hj=>⟨zh6 k _ _ (hI j hj).1,(hI j hj).2⟩) hT
theorem orE0{a b:Int}(h:orE a b=0):a=0/\b=0:=by
 exact zwen
theorem ite0{p:Prop}[Decidable p]{c:Int}(hc:c≠0)(h:(if p then 0 else c)=0):p:=by
 by_cases hp:p
 ·exact hp
 ·rw[if_neg hp]at h;exact absurd h hc
theorem ze5{s:Str}(h:zcw s=0):ident s=true:=ite0 (by decide) h
theorem zla{s:Str}(h:ident s=true):s.length≤40/\s≠ []/\∀c∈s,zjh c=true:=by
 unfold ident at h
 split at h
 ·cases h
 ·simp only[qaz,decide_eq_true_eq,qaB]at h
  exact⟨h.1.1.1,by simp,h.2⟩
structure OkU (u:En):Prop where
 name:ident u.name=true
 few:u.tags.length≤16
 some:u.tags≠ []
 tags:∀t∈u.tags,ident t=true
structure OkD (es:List En) (d:Decl):Prop where
 name:ident d.name=true
 few:d.clock.length≤4
 ck:∀o∈d.clock,ident o.name=true
structure OkQ (es:List En) (q:Equ):Prop where
 few:q.left.length≤64
 left:∀n∈q.left,ident n=true
 right:zbY es q.right=0
structure OkT (es:List En) (n:Nat) (t:Tran):Prop where
 tgt:0≤t.to.1/\t.to.1<n
 cond:zbY es t.cond=0
structure OkS (es:List En) (n:Nat) (P:Auto->Prop) (s:Sta):Prop where
 name:ident s.name=true
 few:s.locals.length≤256/\s.eqs.length≤256/\s.autos.length≤8/\s.unl.length≤4/\s.unt.length≤4
 locals:∀d∈s.locals,OkD es d
 eqs:∀q∈s.eqs,OkQ es q
 autos:∀a∈s.autos,P a
 unl:∀q∈s.unl,OkT es n q
 unt:∀q∈s.unt,OkT es n q
def OkA(es:List En):Nat->Auto->Prop
 | 0,_=>False
 | m+1,a=>a.states.length≤8/\∀s∈a.states,OkS es a.states.length (OkA es m) s
structure OkN (es:List En) (n:Nod):Prop where
 name:ident n.name=true
 few:n.ins.length≤64/\n.outs.length≤64/\n.locals.length≤256/\n.eqs.length≤256/\n.autos.length≤8/\n.assume.length≤8/\n.ensure.length≤8
 ins:∀d∈n.ins,OkD es d
 outs:∀d∈n.outs,OkD es d
 locals:∀d∈n.locals,OkD es d
 eqs:∀q∈n.eqs,OkQ es q
 autos:∀a∈n.autos,OkA es 3 a
 assume:∀e∈n.assume,zbY es e=0
 ensure:∀e∈n.ensure,zbY es e=0
structure OkP (p:Prog):Prop where
 few:p.enums.length≤24/\p.nodes.length≤96
 enums:∀u∈p.enums,OkU u
 nodes:∀n∈p.nodes,OkN p.enums n
theorem zoe{es:List En}{port:Bool}{d:Decl}(h:zfp es port d=0):OkD es d:=by
 unfold zfp at h
 obtain⟨h1,h⟩:=orE0 h
 obtain⟨_,h⟩:=orE0 h
 obtain⟨_,h⟩:=orE0 h
 obtain⟨h2,h⟩:=orE0 h
 exact⟨ze5 h1,ite0 (by decide) h2,fun o ho=>ze5 (orE0 (zaj h o ho)).1⟩
theorem ztO{es:List En}{q:Equ}(h:equE es q=0):OkQ es q:=by
 unfold equE at h
 obtain⟨_,h⟩:=orE0 h
 obtain⟨h1,h⟩:=orE0 h
 obtain⟨h2,h⟩:=orE0 h
 exact⟨ite0 (by decide) h1,fun n hn=>ze5 (zaj h2 n hn),(orE0 h).1⟩
theorem ztP{es:List En}{n:Nat}{b:Bool}{t:Tran}(h:zfd es n b t=0):OkT es n t:=by
 unfold zfd at h
 obtain⟨h1,h⟩:=orE0 h
 exact⟨ite0 (by decide) h1,(orE0 h).1⟩
theorem ztL{es:List En}:∀(m:Nat) (a:Auto),zcu es m a=0->OkA es m a
 | 0,a,h=>by cases h
 | m+1,a,h=>by
   unfold zcu at h
   obtain⟨_,h⟩:=orE0 h
   obtain⟨h1,h⟩:=orE0 h
   refine⟨ite0 (by decide) h1,fun s hs=>?_⟩
   have h2:=zaj h s hs
   unfold stE at h2
   obtain⟨g1,h2⟩:=orE0 h2
   obtain⟨g2,h2⟩:=orE0 h2
   obtain⟨g3,h2⟩:=orE0 h2
   obtain⟨g4,h2⟩:=orE0 h2
   obtain⟨g5,h2⟩:=orE0 h2
   obtain⟨g6,g7⟩:=orE0 h2
   exact⟨ze5 g1,ite0 (by decide) g2,fun d hd=>zoe (zaj g3 d hd),fun q hq=>ztO (zaj g4 q hq),fun b hb=>ztL m b (zaj g5 b hb),fun q hq=>ztP (zaj g6 q hq),fun q hq=>ztP (zaj g7 q hq)⟩
theorem zvQ{es:List En}{n:Nod}(h:(zcf es n).2=0):OkN es n:=by
 unfold zcf at h
 have h1:zmF es n=0:=qav fun hh=>by rw[if_pos hh]at h;exact hh h
 rw[if_neg (by simp[h1])]at h
 have h2:zaf (equE es) n.eqs=0:=qav fun hh=>by rw[if_pos hh,zcj]at h;exact hh h
 rw[if_neg (by simp[h2])]at h
 simp only at h
 unfold zpq at h
 obtain⟨g1,h⟩:=orE0 h
 obtain⟨g2,g3⟩:=orE0 h
 unfold zmF at h1
 obtain⟨f1,h1⟩:=orE0 h1
 obtain⟨f2,h1⟩:=orE0 h1
 obtain⟨_,h1⟩:=orE0 h1
 obtain⟨f3,h1⟩:=orE0 h1
 obtain⟨f4,f5⟩:=orE0 h1
 exact⟨ze5 f1,ite0 (by decide) f2,fun d hd=>zoe (zaj f3 d hd),fun d hd=>zoe (zaj f4 d hd),fun d hd=>zoe (zaj f5 d hd),fun q hq=>ztO (zaj h2 q hq),fun a ha=>ztL 3 a (zaj g1 a ha),fun e he=>zaj g2 e he,fun e he=>zaj g3 e he⟩
theorem ztN{p:Prog}(h:(zba p).2=0):OkP p:=by
 unfold zba at h
 have h1:limE p=0:=qav fun hh=>by rw[if_pos hh]at h;exact hh h
 rw[if_neg (by simp[h1])]at h
 have h2:zaf zft p.enums=0:=qav fun hh=>by rw[if_pos hh]at h;exact hh h
 rw[if_neg (by simp[h2])]at h
 have h3:zaf (fun n=>(zcf p.enums n).2) p.nodes=0:=qav fun hh=>by rw[if_neg hh]at h;exact hh h
 refine⟨ite0 (by decide) h1,fun u hu=>?_,fun n hn=>zvQ (zaj h3 n hn)⟩
 have h4:=zaj h2 u hu
 unfold zft at h4
 obtain⟨e1,h4⟩:=orE0 h4
 obtain⟨e2,h4⟩:=orE0 h4
 obtain⟨e3,h4⟩:=orE0 h4
 exact⟨ze5 e1,ite0 (by decide) e3,(fun hc=>by rw[hc]at e2;simp at e2),fun t ht=>ze5 (zaj h4 t ht)⟩
theorem zs1{l m:List Str}(h:l.Nodup)(hs:∀x∈l,x∈m):l.length≤m.length:=h.length_le_of_subset fun x hx=>hs x hx
theorem zlt{l:List Str}(h:l.Nodup)(s:Str):(ins l s).Nodup:=by
 unfold ins
 split
 ·exact h
 ·rename_i hn
  rw[qbv]
  exact⟨h,by simp,fun a ha b hb=>by rw[qaG.1 hb];exact fun e=>hn (e ▸ ha)⟩
theorem zdC{α:Type}{f:List Str->α->List Str}(hf:∀o x,o.Nodup->(f o x).Nodup):∀(l:List α) (o:List Str),o.Nodup->(l.foldl f o).Nodup
 | [],_,h=>h
 | x::l,o,h=>zdC hf l (f o x) (hf o x h)
theorem zmn(m:Nat)(qs:List Equ)(l:List Auto):(zdk m qs l).Nodup:=by
 cases m with
 | zero=>exact qbn
 | succ m=>
   unfold zdk
   refine zdC (fun o a ho=>?_) l _ (zdC (fun o q ho=>zdC (fun o s ho=>zlt ho s) _ _ ho) _ _ qbn)
   split
   ·exact ho
   ·refine zdC (fun o s ho=>?_) _ _ ho
    unfold defS
    split
    ·exact ho
    ·exact zlt ho s
theorem zi8(vars:List Decl):∀(l:List Str) (o:List Decl),(l.foldl (defO vars) o).map Decl.name=o.map Decl.name++l.filter (fun s=>decide (0≤idxI (fun d:Decl=>decide (d.name=s)) vars))
 | [],o=>by simp
 | s::l,o=>by
   rw[qaU,zi8 vars l,qcA]
   unfold defO
   by_cases h:0≤idxI (fun d:Decl=>decide (d.name=s)) vars
   ·simp[h]
   ·simp[h]
theorem zuF{vars:List Decl}{s:Str}(h:0≤idxI (fun d:Decl=>decide (d.name=s)) vars):s∈vars.map Decl.name:=by
 induction vars with
 | nil=>exact absurd h (by unfold idxI;simp)
 | cons d l ih=>
   by_cases hd:d.name=s
   ·rw[qaj,hd]
    exact qas ..
   ·refine qar _ (ih ?_)
    unfold idxI at h
    rw[if_neg (by simpa using hd)]at h
    by_cases hx:idxI (fun d:Decl=>decide (d.name=s)) l<0
    ·rw[if_pos hx]at h
     omega
    ·omega
theorem ze2(vars:List Decl)(au:Auto):((zaU vars au).map Decl.name).Nodup/\∀s∈(zaU vars au).map Decl.name,s∈vars.map Decl.name:=by
 unfold zaU
 rw[zi8,qay,qa1]
 refine⟨(zmn _ _ _).filter _,fun s hs=>?_⟩
 exact zuF (of_decide_eq_true (qbW.1 hs).2)
theorem zg4(vars:List Decl)(au:Auto):(zaU vars au).length≤vars.length:=by
 have h:=zs1 (ze2 vars au).1 (ze2 vars au).2
 rwa [qaa,qaa]at h
theorem znS(vars:List Decl):∀(l:List Str) (o:List Decl),(∀d∈o,d.clock=[])->∀d∈l.foldl (defO vars) o,d.clock=[]
 | [],_,h=>h
 | s::l,o,h=>znS vars l _ fun d hd=>by
   unfold defO at hd
   exact zwdc
theorem zkV(vars:List Decl)(au:Auto):∀d∈zaU vars au,d.clock=[]:=znS vars _ _ (by simp)
theorem zjW(rd:List Str)(defs:List Decl):∀(l o:List Decl),(∀d∈o,d.clock=[])->∀d∈l.foldl (insF rd defs) o,d.clock=[]
 | [],_,h=>h
 | s::l,o,h=>zjW rd defs l _ fun d hd=>by
   unfold insF at hd
   exact zwdc
theorem zov(t:I64):∀(l:List Tran) (u:List Str×Bd),(l.foldl (untF t) u).2.locals.length=u.2.locals.length+l.length/\(l.foldl (untF t) u).2.eqs.length=u.2.eqs.length+l.length/\∀d∈(l.foldl (untF t) u).2.locals,d∈u.2.locals\/d.clock=[]
 | [],u=>⟨rfl,rfl,fun d hd=>.inl hd⟩
 | x::l,u=>by
   obtain⟨h1,h2,h3⟩:=zov t l (untF t u x)
   rw[qaU]
   refine⟨?_,?_,fun d hd=>?_⟩
   ·rw[h1,show(untF t u x).2.locals.length=u.2.locals.length+1 by simp[untF],qam];omega
   ·rw[h2,show(untF t u x).2.eqs.length=u.2.eqs.length+1 by simp[untF],qam];omega
   ·rcases h3 d hd with h|h
    ·rcases qaF.1 (show d∈u.2.locals++[_] from h)with h|h
     ·exact .inl h
     ·rw[qaG.1 h];exact .inr rfl
    ·exact .inr h
theorem zsp{a:Auto}{s:Sta}{b:Auto}(hs:s∈a.states)(hb:b∈s.autos):(zae b).w≤(zae a).w:=by
 have h1:=zav (f:=zae) (sz:=1) hb
 have h2:=zdK s
 have h3:=zav (f:=staT) (sz:=6) hs
 have h4:=zbJ a
 omega
theorem zqG{α:Type}{c:Nat}:∀ {l:List (List α)},(∀x∈l,x.length≤c)->l.flatten.length≤c*l.length
 | [],_=>qaK _
 | x::l,h=>by
   have h1:=h x (qas ..)
   have h2:=zqG (l:=l) fun y hy=>h y (qar _ hy)
   rw[qa9,qae,qam,qcs]
   omega
theorem zp8(x:KS)(h:∀s∈x.sts,s.unl.length≤4):(zfv x).length≤4*x.sts.length+x.bodies.length+x.defs.length+6:=by
 have h1:(x.sts.mapIdx (eqU x)).flatten.length≤4*x.sts.length:=by
  have:=zqG (c:=4) (l:=x.sts.mapIdx (eqU x)) fun y hy=>by
   obtain⟨i,hi,rfl⟩:=qbJ.1 hy
   have:=h _ (qad hi)
   unfold eqU
   rw[qa2]
   exact this
  rwa [qa2]at this
 unfold zfv zjL zmt lefts
 simp only[qae,qa2,qam,qaD,qaa]
 omega
abbrev wsum {α:Type}(f:α->T)(l:List α):Nat:=((l.map f).map T.w).sum
theorem zcM{α:Type}(f:α->T)(a b:List α):wsum f (a++b)=wsum f a+wsum f b:=by simp[wsum]
theorem zaR{α:Type}(f:α->T)(a:α)(b:List α):wsum f (a::b)=(f a).w+wsum f b:=rfl
theorem zdp{α:Type}{f:α->T}{c:Nat}:∀ {l:List α},(∀x∈l,(f x).w≤c)->wsum f l≤c*l.length
 | [],_=>qaK _
 | x::l,h=>by
   have h1:=h x (qas ..)
   have h2:=zdp (f:=f) (c:=c) (l:=l) fun y hy=>h y (qar _ hy)
   rw[zaR,qam,qcs]
   omega
theorem zlV{α β:Type}{f:β->T}{h:α->Nat}:∀ {l:List α} {g:Nat->α->List β},(∀i,∀x∈l,wsum f (g i x)≤h x)->wsum f (l.mapIdx g).flatten≤(l.map h).sum
 | [],_,_=>qaK _
 | x::l,g,hg=>by
   have h1:=hg 0 x (qas ..)
   have h2:=zlV (f:=f) (h:=h) (l:=l) (g:=fun i=>g (i+1)) fun i y hy=>hg (i+1) y (qar _ hy)
   rw[qcB,qa9,zcM,qaj,qao]
   omega
theorem zno{α:Type}(sz:Nat)(f:α->T)(l:List α):(T.sl sz (l.map f)).w=1+wsum f l:=w_sl sz _
theorem w_n(k:I64):(T.n k).w=1:=by show(T.v _).w=1;rw[T.w];rfl
theorem zr3(d:Decl):(zaa d).w=4+d.name.length+wsum onT d.clock:=by
 rw[show zaa d= .ag [.s d.name,T.n d.ty,.sl 3 (d.clock.map onT)] from rfl,w_ag]
 exact zweg
theorem zwW(o:OnC):(onT o).w=4+o.name.length:=by
 rw[show onT o= .ag [.s o.name,T.n o.t,T.n o.tag] from rfl,w_ag]
 simp only[qaj,qay,qao,qaI,w_s,w_n]
 omega
theorem znn(k o t v:I64)(n:Str)(l:List Ex):(exT (.mk k o t v n l)).w=7+n.length+wsum exT l:=by
 rw[ztC,w_ag]
 exact zweg
theorem zr4(q:Equ):(equT q).w=(exT q.right).w+1+wsum T.s q.left:=by
 rw[show equT q= .ag (.sl 1 (q.left.map T.s)::exC q.right) from rfl,w_ag,qaj,qao,zno,zay,w_ag]
 omega
def Ext(L0 L:List Decl):Prop:=∃A,L=L0++A/\∀d∈A,(zaa d).w≤100
theorem Ext.refl(L:List Decl):Ext L L:=⟨[],by simp,by simp⟩
theorem Ext.w{L0 L:List Decl}(h:Ext L0 L):wsum zaa L+100*L0.length≤wsum zaa L0+100*L.length:=by
 obtain⟨A,rfl,hA⟩:=h
 have:=zdp hA
 rw[zcM,qae,Nat.mul_add]
 omega
abbrev Sh (s:Str):Prop:=s.length≤40
theorem zlH{a:List Str}{n:Nat}{b:Str}(h:Room a n)(hb:b.length≤9):Sh (zaQ a b):=by
 have:=zgb h b
 omega
structure LcOk (L0:List Decl) (n:Nat) (s:Lc):Prop where
 room:Room s.1 n
 ext:Ext L0 s.2
theorem LcOk.mono{L0:List Decl}{n k:Nat}{s:Lc}(h:LcOk L0 n s)(hk:k≤n):LcOk L0 k s:=⟨h.room.mono hk,h.ext⟩
theorem LcOk.loc{L0:List Decl}{n:Nat}{s:Lc}{b:Str}{t:I64}{ck:List OnC}(h:LcOk L0 (n+1) s)(hb:b.length≤9)(hc:∀o∈ck,Sh o.name)(h1:ck.length≤1):LcOk L0 n (locF b t ck s).1/\Sh (locF b t ck s).2:=by
 have hs:=zlH h.room hb
 refine⟨⟨h.room.loc1 (by omega),?_⟩,hs⟩
 obtain⟨A,h2,h3⟩:=h.ext
 refine⟨A++[⟨zaQ s.1 b,t,ck⟩],by show s.2++_=_;rw[h2,qa8],fun d hd=>?_⟩
 rcases qaF.1 hd with hd|hd
 ·exact h3 d hd
 ·rw[qaG.1 hd,zr3]
  have h4:=zdp (f:=onT) (c:=44) (l:=ck) fun o ho=>by rw[zwW];have:=hc o ho;omega
  have h5:44*ck.length≤44*1:=qbk _ h1
  dsimp only
  omega
theorem LcOk.maps{α:Type}{L0:List Decl}{f:Lc->α->Lc×Str}:∀ {l:List α} {s:Lc} {n:Nat},(∀x∈l,∀s n,LcOk L0 (n+1) s->LcOk L0 n (f s x).1/\Sh (f s x).2)->LcOk L0 (l.length+n) s->LcOk L0 n (mapS f s l).1/\∀y∈(mapS f s l).2,Sh y
 | [],s,n,_,h=>⟨h.mono (by simp),by intro y hy;cases hy⟩
 | x::l,s,n,hf,h=>by
   obtain⟨h1,h2⟩:=hf x (qas ..) s (l.length+n) (h.mono (by rw[qam];omega))
   obtain⟨h3,h4⟩:=LcOk.maps (l:=l) (fun y hy=>hf y (qar _ hy)) h1
   refine⟨h3,fun y hy=>?_⟩
   rcases qbe.1 (show y∈(f s x).2::(mapS f (f s x).1 l).2 from hy)with rfl|hy
   ·exact h2
   ·exact h4 y hy
theorem LcOk.cnds{L0:List Decl}:∀ {l:List Sta} {s:Lc} {n:Nat},(∀x∈l,x.unl.length≤4)->LcOk L0 (4*l.length+n) s->LcOk L0 n (zb5 s l).1/\∀c∈(zb5 s l).2,∀y∈c,Sh y
 | [],s,n,_,h=>⟨h.mono (by simp),by intro y hy;cases hy⟩
 | x::l,s,n,hu,h=>by
   have hx:=hu x (qas ..)
   obtain⟨h1,h2⟩:=LcOk.maps (f:=fun s (_:Tran)=>locF zeb bT [] s) (l:=x.unl) (s:=s) (n:=4*l.length+n) (fun x _ s n h=>h.loc (by decide) (by simp) (by simp)) (h.mono (by rw[qam];omega))
   obtain⟨h3,h4⟩:=LcOk.cnds (l:=l) (s:=(cndS s x.unl).1) (n:=n) (fun y hy=>hu y (qar _ hy)) h1
   refine⟨h3,fun c hc=>?_⟩
   rcases qbe.1 (show c∈(cndS s x.unl).2::(zb5 (cndS s x.unl).1 l).2 from hc)with rfl|hc
   ·exact h2
   ·exact h4 c hc
theorem zrS:∀ {l:List Sta} {a:List Str} {n:Nat},Room a (l.length+n)->∀y∈(zce a l).2,Sh y
 | [],_,_,_,y,hy=>by cases hy
 | x::l,a,n,h,y,hy=>by
   rcases qbe.1 (show y∈(frF a sAt).2::(zce (frF a sAt).1 l).2 from hy)with rfl|hy
   ·exact zlH h (by decide)
   ·exact zrS (l:=l) (n:=n) (Room.fr1 (h.mono (by rw[qam];omega)) (by decide)) y hy
structure KW (L0:List Decl) (n:Nat) (x:KS):Prop where
 lc:LcOk L0 n (x.a,x.L)
 was:Sh x.was
 flag:Sh x.flag
 now:Sh x.now
 reset:Sh x.reset
 cs:∀c∈x.cs,∀y∈c,Sh y
 parts:∀c∈x.parts,∀y∈c,Sh y
 defs:∀d∈x.defs,Sh d.name/\d.clock=[]
 names:∀b∈x.bodies,Sh b.name/\∀d∈b.ins,Sh d.name
theorem zsB{vars:List Decl}(hv:∀d∈vars,Sh d.name)(au:Auto):∀d∈zaU vars au,Sh d.name/\d.clock=[]:=fun d hd=>by
 refine⟨?_,zkV vars au d hd⟩
 obtain⟨e,he,h⟩:=qa4.1 ((ze2 vars au).2 d.name (qbO hd))
 rw[<-h]
 exact hv e he
theorem KW.start{s:Lc}{es:List En}{c:Nc}{Q:List T}{vars:List Decl}{au:Auto}{n:Nat}(hv:∀d∈vars,Sh d.name)(hl:au.states.length≤8)(hu:∀x∈au.states,x.unl.length≤4)(h:Room s.1 (n+100)):
  KW s.2 n (zbU s es c Q vars au)/\Sh (dclF s es.length au.states).2.1.name/\∀y∈(dclF s es.length au.states).2.1.tags,Sh y:=by
 have h1:Room (frF s.1 ze9).1 (n+99):=Room.fr1 h (by decide)
 have h2:=zeN au.states _ (n+91) (h1.mono (by omega))
 have h3:LcOk s.2 (n+91) ((zce (frF s.1 ze9).1 au.states).1,s.2):=⟨h2,Ext.refl _⟩
 obtain⟨h4,w1⟩:=LcOk.loc (n:=n+90) (b:=sWas) (t:=toI (3+es.length)) (ck:=[]) h3 (by decide) (by simp) (by simp)
 obtain⟨h5,w2⟩:=LcOk.loc (n:=n+89) (b:=zkd) (t:=bT) (ck:=[]) h4 (by decide) (by simp) (by simp)
 obtain⟨h6,w3⟩:=LcOk.cnds (l:=au.states) (n:=n+57) hu (h5.mono (by omega))
 obtain⟨h7,w4⟩:=LcOk.loc (n:=n+56) (b:=sNow) (t:=toI (3+es.length)) (ck:=[]) h6 (by decide) (by simp) (by simp)
 obtain⟨h8,w5⟩:=LcOk.loc (n:=n+55) (b:=zoh) (t:=bT) (ck:=[]) h7 (by decide) (by simp) (by simp)
 exact⟨⟨h8.mono (by omega),w1,w2,w4,w5,w3,(by intro c hc;cases hc),zsB hv au,(by intro b hb;cases hb)⟩,zlH h (by decide),zrS (n:=n+91) (h1.mono (by omega))⟩
theorem zmI(rd:List Str)(defs:List Decl):∀(l o:List Decl),(∀d∈l,Sh d.name)->(∀d∈o,Sh d.name)->∀d∈l.foldl (insF rd defs) o,Sh d.name
 | [],_,_,h=>h
 | s::l,o,hl,h=>zmI rd defs l _ (fun d hd=>hl d (qar _ hd)) fun d hd=>by
   unfold insF at hd
   split at hd
   ·rcases qaF.1 hd with hd|hd
    ·exact h d hd
    ·rw[qaG.1 hd]
     exact hl s (qas ..)
   ·exact h d hd
theorem KW.body{L0:List Decl}{n v:Nat}{x:KS}{vars:List Decl}(h:KW L0 (n+(v+9)) x)(hd:x.defs.length≤v)(hv:∀d∈vars,Sh d.name)(i:Nat)(s:Sta)(hu:s.unt.length≤4):KW L0 n (zdN x i s vars):=by
 have h1:=zi2 x i s vars (n+(v+2)) hu (h.lc.room.mono (by omega))
 have h2:LcOk L0 (n+(v+2)) ((zcB x i s vars).1,x.L):=⟨h1,h.lc.ext⟩
 have hon:∀o∈[onL x x.now i],Sh o.name:=fun o ho=>by rw[qaG.1 ho];exact h.now
 obtain⟨h3,w1⟩:=LcOk.maps (f:=fun s (d:Decl)=>locF ziN d.ty [onL x x.now i] s) (l:=x.defs) (n:=n+2) (fun d _ s n h=>h.loc (by decide) hon (by simp)) (h2.mono (by omega))
 obtain⟨h4,w2⟩:=LcOk.loc (n:=n+1) (b:=zbo) (t:=x.t) (ck:=[onL x x.now i]) h3 (by decide) hon (by simp)
 obtain⟨h5,w3⟩:=LcOk.loc (n:=n) (b:=zcd) (t:=bT) (ck:=[onL x x.now i]) h4 (by decide) hon (by simp)
 refine⟨h5,h.was,h.flag,h.now,h.reset,h.cs,fun c hc=>?_,h.defs,fun b hb=>?_⟩
 ·rcases qaF.1 (show c∈x.parts++[(zgX x i ((zcB x i s vars).1,x.L)).2] from hc)with hc|hc
  ·exact h.parts c hc
  ·rw[qaG.1 hc]
   intro y hy
   rcases qaF.1 (show y∈(prtS (onL x x.now i) ((zcB x i s vars).1,x.L) x.defs).2++[_,_] from hy)with hy|hy
   ·exact w1 y hy
   ·simp only[qbe,qce,or_false]at hy
    rcases hy with rfl|rfl
    ·exact w2
    ·exact w3
 ·rcases qaF.1 (show b∈x.bodies++[(zcB x i s vars).2] from hb)with hb|hb
  ·exact h.names b hb
  ·rw[qaG.1 hb]
   exact⟨zlH h.lc.room (by decide),zmI (zbF 100000000 s) x.defs vars [] hv (by simp)⟩
theorem KW.bodies{L0:List Decl}{v:Nat}{vars:List Decl}(hv:∀d∈vars,Sh d.name):∀(l:List Sta) (n:Nat) (q:Nat×KS),(∀s∈l,s.unt.length≤4)->KW L0 (n+l.length*(v+9)) q.2->q.2.defs.length≤v->KW L0 n (l.foldl (fun(p:Nat×KS) s=>(p.1+1,zdN p.2 p.1 s vars)) q).2
 | [],n,q,_,h,_=>by simpa using h
 | s::l,n,q,hu,h,hd=>by
   rw[qaU]
   refine KW.bodies hv l n _ (fun t ht=>hu t (qar _ ht)) (KW.body (v:=v) ?_ hd hv q.1 s (hu s (qas ..))) hd
   exact zwfw
theorem KW.auto{s:Lc}{es:List En}{c:Nc}{Q:List T}{vars:List Decl}{au:Auto}{n v:Nat}(hv:∀d∈vars,Sh d.name)(hl:au.states.length≤8)(hu:∀x∈au.states,x.unl.length≤4/\x.unt.length≤4)(hd:(zaU vars au).length≤v)(h:Room s.1 (n+(v*8+200))):
  KW s.2 n (zbv s es c Q vars au)/\Sh (zbv s es c Q vars au).next/\Sh (zbv s es c Q vars au).back:=by
 have hm:au.states.length*(v+9)≤8*(v+9):=qaC _ hl
 obtain⟨h1,_,_⟩:=KW.start (s:=s) (es:=es) (c:=c) (Q:=Q) (vars:=vars) (au:=au) (n:=n+2+au.states.length*(v+9)) hv hl (fun x hx=>(hu x hx).1) (h.mono (by omega))
 have h2:=KW.bodies hv au.states (n+2) (0,zbU s es c Q vars au) (fun x hx=>(hu x hx).2) h1 hd
 unfold zbv zcR
 dsimp only
 generalize (au.states.foldl (fun(p:Nat×KS) s=>(p.1+1,zdN p.2 p.1 s vars)) (0,zbU s es c Q vars au)).2=x at*
 obtain⟨h3,w1⟩:=LcOk.loc (n:=n+1) (b:=zbo) (t:=x.t) (ck:=[]) h2.lc (by decide) (by simp) (by simp)
 obtain⟨h4,w2⟩:=LcOk.loc (n:=n) (b:=zcd) (t:=bT) (ck:=[]) h3 (by decide) (by simp) (by simp)
 exact⟨⟨h4,h2.was,h2.flag,h2.now,h2.reset,h2.cs,h2.parts,h2.defs,h2.names⟩,w1,w2⟩
end Go.Proofs.YtpnnpgbaiobbjaaGreatDoor
