import Derived.Test.YtpnnpgbaiobbjaaGreatDoorBk32
set_option linter.all false
namespace Go.Proofs.YtpnnpgbaiobbjaaGreatDoor
open Go Go.TL
attribute [local irreducible] TR TO Then zap RetK Sound zab Kf GG za3
theorem zjd(x0:KS)(vars:List Decl):∀(l:List Sta) (j i:Nat) (x:KS) (n:Nat),(∀s∈l,s.unt.length≤4)->BK x0 vars.length (n+l.length*(x0.defs.length+9)) j x->BK x0 vars.length n (j+l.length) (l.foldl (fun(p:Nat×KS) s=>(p.1+1,zdT p.2 p.1 s vars)) (i,x)).2
 | [],j,i,x,n,_,h=>by
   rw[qaE,qb5]at h
   exact h
 | s::l,j,i,x,n,hu,h=>by
   rw[qaT,qam,show j+(l.length+1)=j+1+l.length by omega]
   refine zjd x0 vars l (j+1) (i+1) _ n (fun t ht=>hu t (qar _ ht)) (BK.next ?_ i s (hu s (qas ..)))
   exact zwgm
def zbA(s:Lc)(es:List En)(c:Nc)(Q:List T)(vars:List Decl)(au:Auto):KS:=
 let x:=(zcZ vars (zb2 s es c Q vars au) au.states).2
 let nx:=locF zbt x.t [] (x.a,x.L)
 let bk:=locF zcr bT [] nx.1
 { x with a:=bk.1.1,L:=bk.1.2,next:=nx.2,back:=bk.2 }
theorem zt8(s:Lc)(es:List En)(c:Nc)(Q:List T)(vars:List Decl)(au:Auto):zmj s es c Q vars au= { zbA s es c Q vars au with Q:=(zbA s es c Q vars au).Q++(zfE (zbA s es c Q vars au)).map equT }:=rfl
theorem zrK(s:Lc)(es:List En)(c:Nc)(Q:List T)(vars:List Decl)(au:Auto)(hl:au.states.length≤8)(hu:∀x∈au.states,x.unl.length≤4)(n:Nat)(h:Room s.1 (n+100)):BK (zb2 s es c Q vars au) vars.length n 0 (zb2 s es c Q vars au):=by
 refine⟨rfl,rfl,rfl,(by intro p hp;cases hp),(by intro p hp;cases hp),?_,by omega⟩
 exact zk8 s es.length au.states hl hu n h
theorem zn1(s:Lc)(es:List En)(c:Nc)(Q:List T)(vars:List Decl)(au:Auto)(hl:au.states.length≤8)(hu:∀x∈au.states,x.unl.length≤4/\x.unt.length≤4)(n:Nat)(h:Room s.1 (n+((zaZ vars au).length*8+200))):
  BK (zb2 s es c Q vars au) vars.length n au.states.length (zcZ vars (zb2 s es c Q vars au) au.states).2:=by
 have h1:=zrK s es c Q vars au hl (fun x hx=>(hu x hx).1) (n+au.states.length*((zaZ vars au).length+9)) (h.mono (by
  have:au.states.length*((zaZ vars au).length+9)≤8*((zaZ vars au).length+9):=qaD _ hl
  omega))
 have h2:=zjd (zb2 s es c Q vars au) vars au.states 0 0 (zb2 s es c Q vars au) n (fun t ht=>(hu t ht).2) h1
 rw[qaO]at h2
 exact h2
theorem zoY(s:Lc)(es:List En)(c:Nc)(Q:List T)(vars:List Decl)(au:Auto)(hl:au.states.length≤8)(hu:∀x∈au.states,x.unl.length≤4/\x.unt.length≤4)(n:Nat)(h:Room s.1 (n+((zaZ vars au).length*8+400))):Room (zbA s es c Q vars au).a n:=by
 have h1:=(zn1 s es c Q vars au hl hu (n+2) (h.mono (by omega))).room
 unfold zbA
 dsimp only
 generalize (zcZ vars (zb2 s es c Q vars au) au.states).2=x at*
 exact Room.loc1 (s:=(locF zbt x.t [] (x.a,x.L)).1) (Room.loc1 (s:=(x.a,x.L)) h1 (by decide)) (by decide)
theorem zub(s:Lc)(es:List En)(c:Nc)(Q:List T)(vars:List Decl)(au:Auto)(hl:au.states.length≤8)(hu:∀x∈au.states,x.unl.length≤4/\x.unt.length≤4)(h:Room s.1 ((zaZ vars au).length*8+400)):(zbA s es c Q vars au).L.length≤s.2.length+8*((zaZ vars au).length+2)+42:=by
 have h1:=(zn1 s es c Q vars au hl hu 0 (h.mono (by omega))).L
 have h2:(zb2 s es c Q vars au).L.length≤s.2.length+40:=zoe s es.length au.states hl (fun x hx=>(hu x hx).1)
 have h3:au.states.length*((zaZ vars au).length+2)≤8*((zaZ vars au).length+2):=qaD _ hl
 have h4:(zb2 s es c Q vars au).defs=zaZ vars au:=rfl
 rw[h4]at h1
 unfold zbA
 dsimp only
 generalize (zcZ vars (zb2 s es c Q vars au) au.states).2=x at*
 simp only[locF,qaf,qam,qaE]
 omega
theorem zn2(s:Lc)(es:List En)(c:Nc)(Q:List T)(vars:List Decl)(au:Auto)(hl:au.states.length≤8)(hu:∀x∈au.states,x.unl.length≤4/\x.unt.length≤4)(h:Room s.1 ((zaZ vars au).length*8+400)):
  (zbA s es c Q vars au).es=(es++[(dclF s es.length au.states).2.1]).map enT/\(zbA s es c Q vars au).Q=Q/\(zbA s es c Q vars au).c=c/\(zbA s es c Q vars au).sts=au.states/\(zbA s es c Q vars au).defs=zaZ vars au/\(zbA s es c Q vars au).bodies.length=au.states.length:=by
 have h1:=zn1 s es c Q vars au hl hu 0 (h.mono (by omega))
 have h2:=h1.same
 have h3:=h1.bl
 unfold zbA
 dsimp only
 generalize (zcZ vars (zb2 s es c Q vars au) au.states).2=x at*
 refine⟨?_,?_,?_,?_,?_,h3⟩
 all_goals
  rw[h2]
  rfl
structure NS where
 a:List Str
 es:List En
 L:List Decl
 Q:List Equ
 bs:List Nod
def zeg(c:Nc)(vars:List Decl)(p:NS)(au:Auto):NS:=
 ⟨(zbA (p.a,p.L) p.es c (p.Q.map equT) vars au).a,p.es++[(dclF (p.a,p.L) p.es.length au.states).2.1],(zbA (p.a,p.L) p.es c (p.Q.map equT) vars au).L,p.Q++zfE (zbA (p.a,p.L) p.es c (p.Q.map equT) vars au),p.bs++(zbA (p.a,p.L) p.es c (p.Q.map equT) vars au).bodies⟩
def ncOf(n:Nod):Nc:=⟨.s n.name,zad n.ins,zad n.outs,.v (.slice none 0 0),.sl 6 (n.assume.map exT),.sl 6 (n.ensure.map exT)⟩
def zaG:Nat->List Str×List En->Nod->(List Str×List En)×List Nod
 | 0,s,n=>(s,[{ n with autos:=[] }])
 | k+1,s,n=>
   let r:=n.autos.foldl (zeg (ncOf n) (zav n)) ⟨s.1,s.2,n.locals,n.eqs,[]⟩
   let q:=r.bs.foldl (fun(p:(List Str×List En)×List Nod) b=>((zaG k p.1 b).1,p.2++(zaG k p.1 b).2)) ((r.a,r.es),[])
   (q.1,q.2++[{ n with locals:=r.L,eqs:=r.Q,autos:=[] }])
def expF(p:Prog):Prog:=
 let r:=p.nodes.foldl (fun(q:(List Str×List En)×List Nod) n=>((zaG 4 q.1 n).1,q.2++(zaG 4 q.1 n).2)) ((zbl 100000000 p,p.enums),[])
 ⟨r.1.2,r.2⟩
abbrev xH (a:List Str)(es:List T):Heap:=[setB a,adB,axB,.tail es.length,exB es]
def autJ(s:List Str×List En)(n:Nod)(j:Nat):NS:=(n.autos.take j).foldl (zeg (ncOf n) (zav n)) ⟨s.1,s.2,n.locals,n.eqs,[]⟩
def bodJ(k:Nat)(r:NS)(j:Nat):(List Str×List En)×List Nod:=(r.bs.take j).foldl (fun(p:(List Str×List En)×List Nod) b=>((zaG k p.1 b).1,p.2++(zaG k p.1 b).2)) ((r.a,r.es),[])
abbrev NodC (k:Nat)(s:List Str×List En)(n:Nod):Prop:=Sound Tryz.prog 28 [.ref 4 0,.t (nodT n)] (xH s.1 (s.2.map enT)) (fun r H'=>r= .ret (.t (.sl 8 ((zaG k s n).2.map nodT)))/\H'=xH (zaG k s n).1.1 ((zaG k s n).1.2.map enT))
set_option maxHeartbeats 16000000 in
theorem zjB (k:Nat) (s:List Str×List En) (n:Nod) (hal:n.autos.length≤8) (hv:Pure Tryz.prog 56 [.t (.ag (nodC n))] (.t (zad (zav n)))) (hv2:(zav n).length≤1000000) (hL:n.locals.length≤1000000) (hE:n.eqs.length≤1000000)
  (hau:∀au∈n.autos,(zae au).w≤90000000/\au.states.length≤8/\(∀x∈au.states,x.unl.length≤4/\x.unt.length≤4)/\(zaZ (zav n) au).length≤100000)
  (hR:∀j (h:j<n.autos.length),Room (autJ s n j).a ((zaZ (zav n) n.autos[j]).length*8+400)/\(autJ s n j).L.length≤10000000/\(autJ s n j).Q.length≤10000000/\(autJ s n j).es.length≤10000000/\(autJ s n (j+1)).bs.length≤1000000)
  (hB:(autJ s n n.autos.length).bs.length≤1000000) (hI:∀j (h:j<(autJ s n n.autos.length).bs.length),NodC k (bodJ k (autJ s n n.autos.length) j).1 (autJ s n n.autos.length).bs[j]/\(bodJ k (autJ s n n.autos.length) (j+1)).2.length≤1000000000) (hT:(bodJ k (autJ s n n.autos.length) (autJ s n n.autos.length).bs.length).2.length≤1000000000):NodC (k+1) s n:=by
 have cl:=zel (n.locals.map zaa) (by rw[qaa];omega)
 have ce:=zgN (n.eqs.map equT) (by rw[qaa];omega)
 have hmA:(n.autos.map zae).length=n.autos.length:=qaa _
 have hnT:nodT n= .ag (nC n):=rfl
 have hnC:nodC n=(nC n):=rfl
 have hP0:autJ s n 0=⟨s.1,s.2,n.locals,n.eqs,[]⟩:=rfl
 have hPn:∀j (h:j<n.autos.length),autJ s n (j+1)=zeg (ncOf n) (zav n) (autJ s n j) n.autos[j]:=fun j h=>zam _ _ h
 rw[hnC]at hv
 unfold NodC
 rw[hnT]
 refine so Tryz.func28 ?_
 repeat' (first|refine zqy ?_|(apply TO.zdH cl;(iterate 3 exact rfl);exact zqb;exact rfl)|(apply TO.zdH ce;(iterate 3 exact rfl);exact zqb;exact rfl)|refine TR.region ?_|refine zqi ?_|refine zqh ?_|refine zqj ?_|refine zqg ?_|fail)
 refine TR.tail 8 6 rfl ?_
 refine TR.tail 8 7 rfl ?_
 refine TR.zal n.autos.length (fun _=>True) (fun j=>[(0,.ref 4 0),(3,.cp (nC n) 0),(5,.ref 5 0),(6,.sl 8 ((autJ s n j).bs.map nodT) 8),(7,.sl 8 [] 9),(23,.t (.sl 1 (n.autos.map zae))),(24,.i n.autos.length),(25,.i j)]) (fun j=>nH (autJ s n j).a ((autJ s n j).es.map enT) (ncOf n) ((autJ s n j).L.map zaa) ((autJ s n j).Q.map equT)++[.tail ((autJ s n j).bs.map nodT).length,.tail 0]) trivial (fun j hlt _=>?_) (fun _=>?_) ⟨rfl,rfl,rfl,rfl,rfl,rfl,by rw[<-hmA];rfl,rfl,trivial⟩ rfl
 ·have hx:=zao zae hlt
  obtain⟨w1,w2,w3,w4⟩:=hau _ (qad hlt)
  obtain⟨r1,r2,r3,r4,r5⟩:=hR j hlt
  have hn:=hPn j hlt
  rw[hn]at r5
  generalize autJ s n j=p at*
  have hmb:(p.bs.map nodT).length=p.bs.length:=qaa _
  have ca:=zg5 (p.a,p.L) p.es (ncOf n) (p.Q.map equT) (zav n) n.autos[j] w1 w2 w3 w4 hv2 r1 (by dsimp only;omega) (by rw[qaa];omega) (by omega)
  obtain⟨y1,y2,_,_,_,y6⟩:=zn2 (p.a,p.L) p.es (ncOf n) (p.Q.map equT) (zav n) n.autos[j] w2 w3 r1
  rw[zt8]at ca
  dsimp only at ca y1 y2
  rw[y1,y2,<-qal]at ca
  have hbl:(zeg (ncOf n) (zav n) p n.autos[j]).bs=p.bs++(zbA (p.a,p.L) p.es (ncOf n) (p.Q.map equT) (zav n) n.autos[j]).bodies:=rfl
  have hpe:zeg (ncOf n) (zav n) p n.autos[j]=⟨(zbA (p.a,p.L) p.es (ncOf n) (p.Q.map equT) (zav n) n.autos[j]).a,p.es++[(dclF (p.a,p.L) p.es.length n.autos[j].states).2.1],(zbA (p.a,p.L) p.es (ncOf n) (p.Q.map equT) (zav n) n.autos[j]).L,p.Q++zfE (zbA (p.a,p.L) p.es (ncOf n) (p.Q.map equT) (zav n) n.autos[j]),p.bs++(zbA (p.a,p.L) p.es (ncOf n) (p.Q.map equT) (zav n) n.autos[j]).bodies⟩:=rfl
  rw[hpe]at hn
  rw[hbl,qaf]at r5
  clear hpe hbl hPn hR hI hau hB hT
  generalize hY:zbA (p.a,p.L) p.es (ncOf n) (p.Q.map equT) (zav n) n.autos[j]=y at*
  clear hY
  generalize p.es++[(dclF (p.a,p.L) p.es.length n.autos[j].states).2.1]=es1 at*
  generalize p.Q++zfE y=Q1 at*
  have hmy:(y.bodies.map nodT).length=y.bodies.length:=qaa _
  rw[zbQ]at hx ca
  generalize n.autos[j]=au at*
  repeat' (first|refine wkt ?_|refine zqq ?_|refine zab.exit ?_|exact wkc|intro hc|refine wk2 ?_ ?_|fail)
  apply TR.zhu [6] 0 (g:=True) [(_,0,1),(_,0,0),(_,0,0),(_,0,0),(_,0,0),(_,1,0),(_,1,0),(_,2,2)] [nH p.a (p.es.map enT) (ncOf n) (p.L.map zaa) (p.Q.map equT)++[.tail (p.bs.map nodT).length,.tail 0],nH y.a (es1.map enT) (ncOf n) (y.L.map zaa) (Q1.map equT)++[.tail (p.bs.map nodT).length,.tail 0],nH y.a (es1.map enT) (ncOf n) (y.L.map zaa) (Q1.map equT)++[.tail ((p.bs.map nodT).length+(y.bodies.map nodT).length),.tail 0]] hmix
  case hB=>exact zqw
  case hw=>exact rfl
  case h0=>exact rfl
  case hp=>
   repeat' (first|exact trivial|exact⟨⟨rfl,rfl⟩,trivial⟩|exact qah rfl rfl|refine qah (fun env=>?_) ?_|refine qah ?_ ?_|refine wma ?_|refine wmv hv ?_|(apply TO.zaD 8 ca;(iterate 3 exact rfl);exact zqb;(iterate 8 exact rfl))|(apply TO.zbg zag;(iterate 13 exact rfl);exact zqo;exact rfl)|refine wmk ?_|fail)
   done
  case hc=>exact rfl
  case hF=>exact rfl
  case hE=>exact rfl
  intro _
  repeat' (first|refine wkt ?_|refine zab.exit ?_|exact wkc|intro hc|refine wk2 ?_ ?_|refine wk ?_|fail)
  exact zab.zaz hlt trivial (by(try dsimp only);rw[hn];dsimp only;rw[qal];exact⟨rfl,rfl,rfl,rfl,rfl,rfl,rfl,rfl,trivial⟩) (by(try dsimp only);rw[hn];dsimp only;rw[qal (l₁:=p.bs),qaf])
 clear hau hR hPn hP0 cl ce
 have hnf:zaG (k+1) s n=((bodJ k (autJ s n n.autos.length) (autJ s n n.autos.length).bs.length).1,(bodJ k (autJ s n n.autos.length) (autJ s n n.autos.length).bs.length).2++[{ n with locals:=(autJ s n n.autos.length).L,eqs:=(autJ s n n.autos.length).Q,autos:=[] }]):=by
  unfold bodJ autJ
  simp only[qae]
  rfl
 rw[hnf]
 clear hnf
 have hJn:∀j (h:j<(autJ s n n.autos.length).bs.length),bodJ k (autJ s n n.autos.length) (j+1)=((zaG k (bodJ k (autJ s n n.autos.length) j).1 (autJ s n n.autos.length).bs[j]).1,(bodJ k (autJ s n n.autos.length) j).2++(zaG k (bodJ k (autJ s n n.autos.length) j).1 (autJ s n n.autos.length).bs[j]).2):=fun j h=>zam (fun(p:(List Str×List En)×List Nod) b=>((zaG k p.1 b).1,p.2++(zaG k p.1 b).2)) _ h
 have hJ0:bodJ k (autJ s n n.autos.length) 0=(((autJ s n n.autos.length).a,(autJ s n n.autos.length).es),[]):=rfl
 generalize autJ s n n.autos.length=R at*
 have hmR:(R.bs.map nodT).length=R.bs.length:=qaa _
 repeat' (first|refine wkt ?_|refine zab.exit ?_|exact wkc|intro hc|refine wk2 ?_ ?_|fail)
 refine TR.zal R.bs.length (fun _=>True) (fun j=>[(0,.ref 4 0),(5,.ref 5 0),(7,.sl 8 ((bodJ k R j).2.map nodT) 9),(37,.sl 8 (R.bs.map nodT) 8),(38,.i R.bs.length),(39,.i j)]) (fun j=>nH (bodJ k R j).1.1 ((bodJ k R j).1.2.map enT) (ncOf n) (R.L.map zaa) (R.Q.map equT)++[.tail (R.bs.map nodT).length,.tail ((bodJ k R j).2.map nodT).length]) trivial (fun j hlt _=>?_) (fun _=>?_) ⟨rfl,rfl,by rw[hJ0];rfl,rfl,by rw[<-hmR];rfl,rfl,trivial⟩ (by(try dsimp only);rw[hJ0];rfl)
 ·have hx:=zao nodT hlt
  have hn:=hJn j hlt
  obtain⟨ci,ti⟩:=hI j hlt
  rw[hn]at ti
  clear hJn hI hT hJ0 hv
  generalize bodJ k R j=q at*
  obtain⟨⟨a1,es1⟩,bs1⟩:=q
  dsimp only at ci ti hn⊢
  unfold NodC at ci
  dsimp only at ci
  generalize zaG k (a1,es1) R.bs[j]=z at*
  obtain⟨⟨a2,es2⟩,bs2⟩:=z
  dsimp only at ci ti hn⊢
  rw[qaf]at ti
  have m1:(bs1.map nodT).length=bs1.length:=qaa _
  have m2:(bs2.map nodT).length=bs2.length:=qaa _
  generalize R.bs[j]=b at*
  have hbT:nodT b= .ag (nC b):=rfl
  rw[hbT]at hx ci
  repeat' (first|refine wkt ?_|refine zqq ?_|(apply TO.zaD 5 ci;(iterate 3 exact rfl);exact zqb;(iterate 8 exact rfl))|refine zqe ?_|refine zab.exit ?_|exact wkc|intro hc|refine wk2 ?_ ?_|refine wk ?_|fail)
  exact zab.zaz hlt trivial (by(try dsimp only);rw[hn];dsimp only;rw[qal];exact⟨rfl,rfl,rfl,rfl,rfl,rfl,trivial⟩) (by(try dsimp only);rw[hn];dsimp only;rw[qal (l₁:=bs1),qaf];rfl)
 clear hJn hI hJ0 hv
 generalize bodJ k R R.bs.length=q at*
 obtain⟨⟨a1,es1⟩,bs1⟩:=q
 dsimp only at hT⊢
 have m1:(bs1.map nodT).length=bs1.length:=qaa _
 refine TR.zft 5 3 (Le.own _ _ _) rfl rfl rfl ?_
 refine TR.zft 5 4 (Le.own _ _ _) rfl rfl rfl ?_
 refine TR.zft 5 5 (v':=.t (.sl 1 [])) (Le.nil _) rfl rfl rfl ?_
 repeat' (first|refine wkt ?_|refine zqe ?_|refine zab.exit ?_|exact wkc|intro hc|refine wk2 ?_ ?_|refine wk ?_|fail)
 rw[qal]
 exact RetK.keep 5 rfl (Le.own _ _ _) rfl rfl rfl rfl rfl ⟨rfl,rfl⟩
theorem zic{σ α:Type}(s:σ):∀(l:List α) (i:Nat),mapN (fun _ (s:σ) (x:α)=>(s,x)) i s l=(s,l)
 | [],_=>rfl
 | x::l,i=>by
   have:=zic s l (i+1)
   unfold mapN
   rw[this]
set_option maxHeartbeats 16000000 in
theorem zk9 (i:Int) (d:Decl) (hd:d.clock.length≤1000000000):Pure Tryz.prog 131 [.i i,.t (zaa d)] (.t (zaa d)):=by
 have cc:=zhM (d.clock.map onT) (by rw[qaa];exact hd)
 unfold zaa
 refine so Tryz.func131 ?_
 repeat' (first|refine zqz ?_|refine zqy ?_|(apply TO.zaD 0 cc;(iterate 3 exact rfl);exact zqb;(iterate 8 exact rfl))|refine TR.region ?_|refine zqi ?_|refine zqh ?_|refine zqj ?_|refine zqg ?_|fail)
 refine RetK.keep 0 rfl (?_:Le _ (.t (.ag [T.s d.name,T.n d.ty,T.sl 3 (d.clock.map onT)]))) rfl rfl rfl rfl rfl ⟨rfl,rfl⟩
 exact Le.tree rfl (TLe.refl _)
set_option maxHeartbeats 16000000 in
theorem zen (l:List Decl) (hl:l.length≤1000000000) (hd:∀d∈l,d.clock.length≤1000000000):Pure Tryz.prog 82 [.t (.sl 3 (l.map zaa))] (.t (.sl 3 (l.map zaa))):=by
 have cm:=znb (σ:=Unit) (fun _=>[]) 0 (fun _=>rfl) (fun _=>rfl) 131 [] rfl (fun _ s x=>(s,x)) (fun _ _=>True) l hl (fun i s x hx _=>(zk9 i x (hd x (qat hx))).mono (fun r H' h=>h)) (fun _ _ _ _ _=>trivial) () trivial
 rw[zic]at cm
 refine so Tryz.func82 ?_
 repeat' (first|(apply TO.zdH cm;(iterate 3 exact rfl);exact zqb;exact rfl)|refine TR.region ?_|refine zqi ?_|refine zqh ?_|refine zqj ?_|refine zqg ?_|fail)
 exact zwga
set_option maxHeartbeats 16000000 in
theorem zdf:∀(m:Nat) (l:List Ex),(T.sl 6 (l.map exT)).w≤m->m≤100000000->Pure Tryz.prog 81 [.t (.sl 6 (l.map exT))] (.t (.sl 6 (l.map exT)))
 | 0,l,h,_=>by have:=zai exT 6 l;omega
 | m+1,l,h,hm=>by
   have hl:=zai exT 6 l
   have hc:∀(i:Int) (e:Ex),e∈l->Pure Tryz.prog 129 [.i i,.t (exT e)] (.t (exT e)):=fun i e he=>by
    have h1:=zau (f:=exT) (sz:=6) he
    have h2:(T.sl 6 (e.args.map exT)).w<(exT e).w:=by
     rw[zay,w_ag]
     simp only[exC,qaj,qan,w_sl]
     omega
    have cc:=zdf m e.args (by omega) (by omega)
    rw[zay]
    have hc0:exC e=[T.n e.kind,T.n e.op,T.n e.t,T.n e.v,.s e.name,.sl 6 (e.args.map exT)]:=rfl
    rw[hc0]
    clear h1 h2 hc0 hl he h
    refine so Tryz.func129 ?_
    repeat' (first|refine zqz ?_|refine zqy ?_|(apply TO.zaD 0 cc;(iterate 3 exact rfl);exact zqb;(iterate 8 exact rfl))|refine TR.region ?_|refine zqi ?_|refine zqh ?_|refine zqj ?_|refine zqg ?_|fail)
    refine RetK.keep 0 rfl (?_:Le _ (.t (.ag [T.n e.kind,T.n e.op,T.n e.t,T.n e.v,.s e.name,.sl 6 (e.args.map exT)]))) rfl rfl rfl rfl rfl ⟨rfl,rfl⟩
    exact Le.tree rfl (TLe.refl _)
   have cm:=znd (σ:=Unit) (fun _=>[]) 0 (fun _=>rfl) (fun _=>rfl) 129 [] rfl (fun _ s x=>(s,x)) (fun _ _=>True) l (by omega) (fun i s x hx _=>hc i x (qat hx)) (fun _ _ _ _ _=>trivial) () trivial
   rw[zic]at cm
   clear hc
   refine so Tryz.func81 ?_
   repeat' (first|(apply TO.zdH cm;(iterate 3 exact rfl);exact zqb;exact rfl)|refine TR.region ?_|refine zqi ?_|refine zqh ?_|refine zqj ?_|refine zqg ?_|fail)
   exact zwga
theorem zgO(l:List T)(hl:l.length≤1000000000):Pure Tryz.prog 76 [.t (.sl 1 l)] (.t (.sl 1 l)):=by
 refine so Tryz.func76 ?_
 repeat' (first|refine wk ?_|fail)
 apply TO.zdJ zag (sz:=1)
 iterate 5 exact rfl
 ·exact zweb
 ·exact zwb
set_option maxHeartbeats 16000000 in
theorem zo6 (i:Int) (u:En) (hu:u.tags.length≤1000000000):Pure Tryz.prog 75 [.i i,.t (enT u)] (.t (enT u)):=by
 have cc:=zgO (u.tags.map T.s) (by rw[qaa];exact hu)
 unfold enT
 refine so Tryz.func75 ?_
 repeat' (first|refine zqy ?_|refine TR.region ?_|refine zqi ?_|refine zqh ?_|refine zqj ?_|refine zqg ?_|fail)
 apply TR.zaH 0 (g:=True) [(_,0,0),(_,0,0),(_,0,0),(_,0,0),(_,0,0),(_,0,0),(.any,1,0)] [[.cells [.s [],.t (.v (.slice none 0 0))]],[.cells [.s u.name,.t (.sl 1 (u.tags.map T.s))]]] hmix
 case hB=>exact zqw
 case h0=>exact rfl
 case hp=>
  repeat' (first|exact trivial|exact⟨⟨rfl,rfl⟩,trivial⟩|exact qah rfl rfl|refine qah (fun env=>?_) ?_|refine qah ?_ ?_|refine wma ?_|refine wmv cc ?_|refine wmk ?_|fail)
  done
 case hc=>exact rfl
 case hF=>exact rfl
 case hE=>exact rfl
 intro _
 repeat' (first|refine wkt ?_|refine wk ?_|fail)
 refine RetK.keep 0 rfl (?_:Le _ (.t (.ag [T.s u.name,T.sl 1 (u.tags.map T.s)]))) rfl rfl rfl rfl rfl ⟨rfl,rfl⟩
 exact Le.tree rfl (TLe.refl _)
set_option maxHeartbeats 16000000 in
theorem zo5 (i:Int) (q:Equ) (hq:(equT q).w≤90000000):Pure Tryz.prog 80 [.i i,.t (equT q)] (.t (equT q)):=by
 have h1:q.left.length<(equT q).w/\(T.sl 6 ([q.right].map exT)).w≤(equT q).w+10:=by
  have:=zai T.s 1 q.left
  unfold equT
  simp only[exC,w_ag,qaj,qaw,qan,qaG,w_sl,zay]
  simp only[w_sl]at this
  omega
 have cc:=zgO (q.left.map T.s) (by rw[qaa];omega)
 have ce:=zdf _ [q.right] h1.2 (by omega)
 have hr:[q.right].map exT=[.ag [T.n q.right.kind,T.n q.right.op,T.n q.right.t,T.n q.right.v,.s q.right.name,.sl 6 (q.right.args.map exT)]]:=by rw[qaj,qaw,zay];rfl
 rw[hr]at ce
 unfold equT exC
 generalize q.right=e at*
 clear h1 hr hq
 refine so Tryz.func80 ?_
 repeat' (first|refine zqy ?_|refine TR.region ?_|refine zqi ?_|refine zqh ?_|refine zqj ?_|refine zqg ?_|fail)
 apply TR.zaH 0 (g:=True) [(_,0,0),(_,0,0),(_,0,0),(_,0,0),(_,0,0),(_,0,0),(_,0,0),(_,0,0),(_,0,0),(_,0,0),(.any,1,0)] [[.cells [.t (.v (.slice none 0 0)),.i 0,.i 0,.i 0,.i 0,.s [],.t (.v (.slice none 0 0))]],[.cells [.t (.sl 1 (q.left.map T.s)),.t (T.n e.kind),.t (T.n e.op),.t (T.n e.t),.t (T.n e.v),.t (.s e.name),.t (.sl 6 (e.args.map exT))]]] hmix
 case hB=>exact zqw
 case h0=>exact rfl
 case hp=>
  repeat' (first|exact trivial|exact⟨⟨rfl,rfl⟩,trivial⟩|exact qah rfl rfl|refine qah (fun env=>?_) ?_|refine qah ?_ ?_|refine wma ?_|refine wmv cc ?_|refine wmv ce ?_|(apply TO.indexAddr zag;(iterate 8 exact rfl);omega;exact rfl)|refine wmk ?_|fail)
  done
 case hc=>exact rfl
 case hF=>exact rfl
 case hE=>exact rfl
 intro _
 repeat' (first|refine wkt ?_|refine wk ?_|fail)
 refine RetK.keep 0 rfl (?_:Le _ (.t (.ag [T.sl 1 (q.left.map T.s),T.n e.kind,T.n e.op,T.n e.t,T.n e.v,.s e.name,.sl 6 (e.args.map exT)]))) rfl rfl rfl rfl rfl ⟨rfl,rfl⟩
 exact Le.tree rfl (TLe.refl _)
end Go.Proofs.YtpnnpgbaiobbjaaGreatDoor
