import Derived.Test.YtpnnpgbaiobbjaaGreatDoorBk33
set_option linter.all false
namespace Go.Proofs.YtpnnpgbaiobbjaaGreatDoor
open Go Go.TL
attribute [local irreducible] TR TO Then zap RetK Sound zab Kf GG za3
def plnN(n:Nod):Nod:={ n with autos:=[] }
theorem zoq{σ α β:Type}(s:σ)(g:α->β):∀(l:List α) (i:Nat),mapN (fun _ (s:σ) (x:α)=>(s,g x)) i s l=(s,l.map g)
 | [],_=>rfl
 | x::l,i=>by
   have:=zoq s g l (i+1)
   unfold mapN
   rw[this]
   rfl
theorem zjZ{l:List Decl}{d:Decl}(h:d∈l):d.clock.length<(T.sl 3 (l.map zaa)).w:=by
 have h1:=zau (f:=zaa) (sz:=3) h
 have h2:=zai onT 3 d.clock
 have h3:(T.sl 3 (d.clock.map onT)).w<(zaa d).w:=by
  unfold zaa
  simp only[w_ag,qaj,qaw,qan,qaG]
  omega
 omega
set_option maxHeartbeats 16000000 in
theorem zo4 (i:Int) (n:Nod) (hn:(nodT n).w≤90000000):Pure Tryz.prog 78 [.i i,.t (nodT n)] (.t (nodT (plnN n))):=by
 have hw:=zda n
 have l1:=zai zaa 3 n.ins
 have l2:=zai zaa 3 n.outs
 have l3:=zai zaa 3 n.locals
 have l4:=zai equT 7 n.eqs
 have d1:(zad n.ins)=T.sl 3 (n.ins.map zaa):=rfl
 have d2:(zad n.outs)=T.sl 3 (n.outs.map zaa):=rfl
 have d3:(zad n.locals)=T.sl 3 (n.locals.map zaa):=rfl
 rw[d1,d2,d3]at hw
 have c1:=zen n.ins (by omega) (fun d hd=>by have:=zjZ hd;omega)
 have c2:=zen n.outs (by omega) (fun d hd=>by have:=zjZ hd;omega)
 have c3:=zen n.locals (by omega) (fun d hd=>by have:=zjZ hd;omega)
 have c4:=zdf _ n.assume (qag _) (by omega)
 have c5:=zdf _ n.ensure (qag _) (by omega)
 have cq:=znf (σ:=Unit) (fun _=>[]) 0 (fun _=>rfl) (fun _=>rfl) 80 [] rfl (fun _ s x=>(s,x)) (fun _ _=>True) n.eqs (by omega) (fun i s x hx _=>zo5 i x (by have:=zau (f:=equT) (sz:=7) (qat hx);omega)) (fun _ _ _ _ _=>trivial) () trivial
 rw[zic]at cq
 dsimp only at cq
 clear hw l1 l2 l3 l4 d1 d2 d3 hn
 unfold nodT
 refine so Tryz.func78 ?_
 repeat' (first|refine zqy ?_|(apply TO.zdH cq;(iterate 3 exact rfl);exact zqb;exact rfl)|refine TR.region ?_|refine zqi ?_|refine zqh ?_|refine zqj ?_|refine zqg ?_|fail)
 refine TR.own 5 rfl ?_
 apply TR.zaH 0 (g:=True) [(_,0,0),(_,0,0),(_,0,0),(_,0,0),(_,0,0),(_,0,0),(_,0,0),(_,0,0),(_,0,0),(_,0,0),(_,0,0),(_,0,0),(_,0,0),(_,0,0),(_,0,0),(_,0,0),(_,0,0),(_,0,0),(_,0,0),(.any,1,0)] [[.cells [.s [],.t (.v (.slice none 0 0)),.t (.v (.slice none 0 0)),.t (.v (.slice none 0 0)),.t (.v (.slice none 0 0)),.t (.v (.slice none 0 0)),.t (.v (.slice none 0 0)),.t (.v (.slice none 0 0))],.tail n.eqs.length],[.cells [.s n.name,.t (.sl 3 (n.ins.map zaa)),.t (.sl 3 (n.outs.map zaa)),.t (.sl 3 (n.locals.map zaa)),.t (.sl 7 (n.eqs.map equT)),.t (.v (.slice none 0 0)),.t (.sl 6 (n.assume.map exT)),.t (.sl 6 (n.ensure.map exT))],.tail n.eqs.length]] hmix
 case hB=>exact zqw
 case h0=>exact rfl
 case hp=>
  repeat' (first|exact trivial|exact⟨⟨rfl,rfl⟩,trivial⟩|exact qah rfl rfl|refine qah (fun env=>?_) ?_|refine qah ?_ ?_|refine wma ?_|refine wmv c1 ?_|refine wmv c2 ?_|refine wmv c3 ?_|refine wmv c4 ?_|refine wmv c5 ?_|refine wmk ?_|fail)
  done
 case hc=>exact rfl
 case hF=>exact rfl
 case hE=>exact rfl
 intro _
 repeat' (first|refine wkt ?_|refine wk ?_|fail)
 refine RetK.keep 0 rfl (?_:Le _ (.t (.ag [.s n.name,T.sl 3 (n.ins.map zaa),T.sl 3 (n.outs.map zaa),T.sl 3 (n.locals.map zaa),T.sl 7 (n.eqs.map equT),T.sl 1 [],T.sl 6 (n.assume.map exT),T.sl 6 (n.ensure.map exT)]))) rfl rfl rfl rfl rfl ⟨rfl,rfl⟩
 exact zqb
set_option maxHeartbeats 16000000 in
theorem zk6 (p:Prog) (hp:zkK p 90000000):Pure Tryz.prog 30 [.t (.ag (zax p))] (.t (.ag (zax ⟨p.enums,p.nodes.map plnN⟩))):=by
 have l1:=hp.es
 have l2:=hp.ns
 have cu:=zni (σ:=Unit) (fun _=>[]) 0 (fun _=>rfl) (fun _=>rfl) 75 [] rfl (fun _ s x=>(s,x)) (fun _ _=>True) p.enums (by omega) (fun i s x hx _=>zo6 i x (by have:=hp.tg _ (qat hx);omega)) (fun _ _ _ _ _=>trivial) () trivial
 have cn:=zne (σ:=Unit) (fun _=>[]) 0 (fun _=>rfl) (fun _=>rfl) 78 [] rfl (fun _ s x=>(s,plnN x)) (fun _ _=>True) p.nodes (by omega) (fun i s x hx _=>zo4 i x (hp.nd _ (qat hx))) (fun _ _ _ _ _=>trivial) () trivial
 rw[zic]at cu
 rw[zoq]at cn
 dsimp only at cu cn
 clear l1 l2 hp
 unfold zax
 refine so Tryz.func30 ?_
 repeat' (first|refine TR.forget 1 0 rfl rfl rfl ?_|refine TR.forget 1 1 rfl rfl rfl ?_|refine zqy ?_|(apply TO.zdH cu;(iterate 3 exact rfl);exact zqb;exact rfl)|(apply TO.zdH cn;(iterate 3 exact rfl);exact zqb;exact rfl)|refine TR.region ?_|refine zqi ?_|refine zqh ?_|refine zqj ?_|refine zqg ?_|fail)
 refine RetK.keep 0 rfl (?_:Le _ (.t (.ag [.sl 2 (p.enums.map enT),.sl 8 ((p.nodes.map plnN).map nodT)]))) rfl rfl rfl rfl rfl ⟨rfl,rfl⟩
 exact zqb
theorem zgz(n:Nod):zav n=n.ins++n.outs++n.locals:=by simp[zav]
theorem zhx(n:Nod):(zav n).length=n.ins.length+n.outs.length+n.locals.length:=by rw[zgz,qaf,qaf]
structure zmf (s:List Str×List En) (n:Nod):Prop where
 hal:n.autos.length≤8
 hv:Pure Tryz.prog 56 [.t (.ag (nodC n))] (.t (zad (zav n)))
 hv2:(zav n).length≤1000000
 hL:n.locals.length≤1000000
 hE:n.eqs.length≤1000000
 hau:∀au∈n.autos,(zae au).w≤90000000/\au.states.length≤8/\(∀x∈au.states,x.unl.length≤4/\x.unt.length≤4)/\(zaZ (zav n) au).length≤100000
 hR:∀j (h:j<n.autos.length),Room (autJ s n j).a ((zaZ (zav n) n.autos[j]).length*8+400)/\(autJ s n j).L.length≤10000000/\(autJ s n j).Q.length≤10000000/\(autJ s n j).es.length≤10000000/\(autJ s n (j+1)).bs.length≤1000000
 hB:(autJ s n n.autos.length).bs.length≤1000000
def NodX:Nat->List Str×List En->Nod->Prop
 | 0,s,n=>n.autos=[]/\zmf s n
 | k+1,s,n=>zmf s n/\(∀j (h:j<(autJ s n n.autos.length).bs.length),NodX k (bodJ k (autJ s n n.autos.length) j).1 (autJ s n n.autos.length).bs[j]/\(bodJ k (autJ s n n.autos.length) (j+1)).2.length≤1000000000)/\(bodJ k (autJ s n n.autos.length) (autJ s n n.autos.length).bs.length).2.length≤1000000000
theorem zim:∀(k:Nat) (s:List Str×List En) (n:Nod),NodX k s n->NodC k s n
 | 0,s,n,h=>by
   obtain⟨ha,hp⟩:=h
   have hb:(autJ s n n.autos.length).bs=[]:=by rw[ha];rfl
   have h1:=zjB 0 s n hp.hal hp.hv hp.hv2 hp.hL hp.hE hp.hau hp.hR hp.hB (fun j hj=>by rw[hb]at hj;exact absurd hj (qbJ _)) (by rw[hb];exact qaK _)
   have h2:zaG 1 s n=zaG 0 s n:=by
    unfold zaG
    rw[ha]
    rfl
   unfold NodC at h1⊢
   rw[qaO,h2]at h1
   exact h1
 | k+1,s,n,h=>by
   obtain⟨hp,hI,hT⟩:=h
   exact zjB k s n hp.hal hp.hv hp.hv2 hp.hL hp.hE hp.hau hp.hR hp.hB (fun j hj=>⟨zim k _ _ (hI j hj).1,(hI j hj).2⟩) hT
abbrev yH (a:List Str)(es:List T):Heap:=[setB a,.cells [.mp 2,.fn 66 [.ref 4 0]],.cells [.ref 3 0],.tail es.length,.cells [.ref 3 0,.sl 2 es 5]]
theorem zuy(r q:Blk)(a:List Str)(es:List T)(t:Heap):Hands (r::q::(yH a es++t)) [2,3,4,5,6] (xH a es):=by
 refine⟨by decide,by simp,rfl,fun j i c hj hc=>?_,fun j c hc=>?_⟩
 ·rcases j with _|_|_|_|_|j
  ·simp[xH]at hj hc;subst hj hc;rfl
  ·simp[xH]at hj hc;subst hj hc;rfl
  ·simp[xH]at hj hc;subst hj hc;rfl
  ·simp[xH]at hj hc;subst hj hc;rfl
  ·simp[xH]at hj hc;subst hj hc;rfl
  ·simp at hj
 ·rcases j with _|_|_|_|_|j
  ·simp[xH]at hc;subst hc;rfl
  ·simp[xH]at hc;subst hc;rfl
  ·simp[xH]at hc;subst hc;rfl
  ·simp[xH]at hc;subst hc;rfl
  ·simp[xH]at hc;subst hc;rfl
  ·simp[xH]at hc
section rules
variable {n:Nat}{env:Env}{K:TK}{all:Array Oper}{rest:List Oper}{d:Nat}{ty:TypeId}{pos:String}{aft:Array Edge}
theorem TO.ndC{r q:Blk}{t:Heap}{k:Nat}{s:List Str×List En}{m:Nod}{vs:List SV}{f:Operand}{args:Array Operand}{ts:Array TypeId}(hs:NodC k s m)(hd:Nat.ble (d+1) n=true)(hf:env.val f=some (.fn 28 []))(ha:env.vals args.toList=some vs)
  (hl:Les (vs++[]) [.ref 6 0,.t (nodT m)])
  (k:TO false Tryz.prog n all rest ((d,.t (.sl 8 ((zaG k s m).2.map nodT)))::env) (r::q::(yH (zaG k s m).1.1 ((zaG k s m).1.2.map enT)++t)) K):
  TO false Tryz.prog n all (⟨some d,.call { callee:=.value f,args:=args,argTypes:=ts },ty,pos,aft,none⟩::rest) env (r::q::(yH s.1 (s.2.map enT)++t)) K:=
 TO.zoZ [2,3,4,5,6] (v':=.t (.sl 8 ((zaG _ s m).2.map nodT))) (H':=r::q::(yH (zaG _ s m).1.1 ((zaG _ s m).1.2.map enT)++t)) hs hd hf ha hl rfl (zuy r q s.1 (s.2.map enT) t) rfl (by simp[patch,yH,xH];exact⟨rfl,rfl,rfl,rfl,rfl⟩) k
end rules
def expJ(p:Prog)(j:Nat):(List Str×List En)×List Nod:=(p.nodes.take j).foldl (fun(q:(List Str×List En)×List Nod) n=>((zaG 4 q.1 n).1,q.2++(zaG 4 q.1 n).2)) ((zbl 100000000 p,p.enums),[])
set_option maxHeartbeats 16000000 in
theorem zfF (p:Prog) (hw:(T.ag (zax p)).w≤80000000) (hc:(zaR p).2=0) (hN:∀j (h:j<p.nodes.length),NodX 4 (expJ p j).1 p.nodes[j]/\(expJ p (j+1)).2.length≤1000000000) (hx:zkK (expF p) 90000000) (v:SV) (h1:(zbf (expF p)).2=0->v= .tup [.t (.ag (zax ⟨(expF p).enums,(expF p).nodes.map plnN⟩)),.i 0]) (h2:(zbf (expF p)).2≠0->v= .tup [.t (.ag [.sl 2 [],.sl 8 []]),.i 3]):Pure Tryz.prog 11 [.t (.ag (zax p))] v:=by
 have ct:=zg4 p (by omega)
 have ca:=zik p (by omega)
 have hl:p.nodes.length≤80000000/\p.enums.length≤80000000:=by
  have h1:=zai nodT 8 p.nodes
  have h2:=zai enT 2 p.enums
  have hc0:zax p=[.sl 2 (p.enums.map enT),.sl 8 (p.nodes.map nodT)]:=rfl
  rw[hc0,w_ag]at hw
  simp only[qaj,qaw,qan,qaG]at hw
  omega
 obtain⟨hlN,hlE⟩:=hl
 have cu:=zk2 (p.enums.map enT) (by rw[qaa];omega)
 rw[hc]at ct
 have hJn:∀j (h:j<p.nodes.length),expJ p (j+1)=((zaG 4 (expJ p j).1 p.nodes[j]).1,(expJ p j).2++(zaG 4 (expJ p j).1 p.nodes[j]).2):=fun j h=>zam (fun(q:(List Str×List En)×List Nod) n=>((zaG 4 q.1 n).1,q.2++(zaG 4 q.1 n).2)) _ h
 have hJ0:expJ p 0=((zbl 100000000 p,p.enums),[]):=rfl
 have hmN:(p.nodes.map nodT).length=p.nodes.length:=qaa _
 unfold zax at ct ca⊢
 refine so Tryz.func11 ?_
 repeat' (first|refine zqy ?_|(apply TO.zaD 0 ct;(iterate 3 exact rfl);exact zqb;(iterate 8 exact rfl))|refine TR.region ?_|refine zqi ?_|refine zqh ?_|refine zqj ?_|refine zqg ?_|fail)
 refine wk2 (fun hc=>absurd rfl hc) (fun _=>?_)
 repeat' (first|refine zqy ?_|refine TR.region ?_|refine zqi ?_|refine zqh ?_|refine zqj ?_|refine zqg ?_|fail)
 apply TR.zaH 0 (g:=True) [(_,0,0),(_,1,0),(_,0,1),(_,0,1),(_,1,0),(_,2,2),(_,1,0),(_,3,3)] [[.cells [.t (.v (.slice none 0 0)),.t (.v (.slice none 0 0))],.cells [.t (T.i (zaR p).1.1),.t (T.i (zaR p).1.2)]],[.cells [.t (.v (.slice none 0 0)),.t (.v (.slice none 0 0))],.cells [.t (T.i (zaR p).1.1),.t (T.i (zaR p).1.2)],setB (zbl 100000000 p),.cells [.mp 2,.fn 66 [.ref 4 0]],.cells [.ref 3 0]],[.cells [.t (.v (.slice none 0 0)),.t (.v (.slice none 0 0))],.cells [.t (T.i (zaR p).1.1),.t (T.i (zaR p).1.2)],setB (zbl 100000000 p),.cells [.mp 2,.fn 66 [.ref 4 0]],.cells [.ref 3 0],.tail (p.enums.map enT).length],[.cells [.t (.v (.slice none 0 0)),.t (.v (.slice none 0 0))],.cells [.t (T.i (zaR p).1.1),.t (T.i (zaR p).1.2)],setB (zbl 100000000 p),.cells [.mp 2,.fn 66 [.ref 4 0]],.cells [.ref 3 0],.tail (p.enums.map enT).length,.cells [.ref 3 0,.sl 2 (p.enums.map enT) 5]]] hmix
 case hB=>exact zqw
 case h0=>exact rfl
 case hp=>
  repeat' (first|exact trivial|exact⟨⟨rfl,rfl⟩,trivial⟩|exact qah rfl rfl|refine qah (fun env=>?_) ?_|refine qah ?_ ?_|refine wma ?_|(apply TO.zoZ [] ca;(iterate 3 exact rfl);exact zqb;exact rfl;exact zeO _;exact rfl;exact rfl)|(apply TO.zdH cu;(iterate 3 exact rfl);exact zqb;exact rfl)|(apply TO.box;(iterate 4 exact rfl))|refine wmk ?_|fail)
  done
 case hc=>exact rfl
 case hF=>exact rfl
 case hE=>exact rfl
 intro _
 repeat' (first|refine wkt ?_|refine zqy ?_|fail)
 refine TR.zcJ 8 7 1 rfl rfl rfl ?_
 refine TR.zal p.nodes.length (fun _=>True) (fun j=>[(1,.cp [.sl 2 (p.enums.map enT),zaA p.nodes] 0),(2,.ref 0 0),(6,.ref 6 0),(7,.ref 7 0),(29,.t (zaA p.nodes)),(30,.i p.nodes.length),(31,.i j)]) (fun j=>.cells [.t (.v (.slice none 0 0)),.t (.v (.slice none 0 0))]:: .cells [.t (T.i (zaR p).1.1),.t (T.i (zaR p).1.2)]::(yH (expJ p j).1.1 ((expJ p j).1.2.map enT)++[.cells [.t (.v (.slice none 0 0)),.sl 8 ((expJ p j).2.map nodT) 8],.tail ((expJ p j).2.map nodT).length])) trivial (fun j hlt _=>?_) (fun _=>?_) ⟨rfl,rfl,rfl,rfl,rfl,by rw[<-hmN];rfl,rfl,trivial⟩ (by(try dsimp only);rw[hJ0];rfl)
 ·have hx1:=zao nodT hlt
  have hn:=hJn j hlt
  obtain⟨ci,ti⟩:=hN j hlt
  have cn:=zim 4 _ _ ci
  rw[hn]at ti
  clear hJn hN hJ0 hx ct ca cu ci h1 h2
  generalize expJ p j=q at*
  obtain⟨⟨a1,es1⟩,bs1⟩:=q
  dsimp only at cn ti hn⊢
  rw[qaf]at ti
  have hbT:nodT p.nodes[j]= .ag [.s p.nodes[j].name,zad p.nodes[j].ins,zad p.nodes[j].outs,zad p.nodes[j].locals,.sl 7 (p.nodes[j].eqs.map equT),.sl 1 (p.nodes[j].autos.map zae),.sl 6 (p.nodes[j].assume.map exT),.sl 6 (p.nodes[j].ensure.map exT)]:=rfl
  rw[hbT]at hx1
  clear hbT
  generalize p.nodes[j]=n at*
  have m1:(bs1.map nodT).length=bs1.length:=qaa _
  have m2:((zaG 4 (a1,es1) n).2.map nodT).length=(zaG 4 (a1,es1) n).2.length:=qaa _
  repeat' (first|refine wkt ?_|(apply TO.indexAddr zag;(iterate 8 exact rfl);omega;exact hx1)|refine zqy ?_|refine zab.exit ?_|exact wkc|intro hc|refine wk2 ?_ ?_|fail)
  apply TR.zaH 0 (g:=True) [(_,0,1),(_,0,1),(_,0,0),(_,0,0),(_,1,0),(_,1,0),(_,2,2),(.any,1,0)] [.cells [.t (.v (.slice none 0 0)),.t (.v (.slice none 0 0))]:: .cells [.t (T.i (zaR p).1.1),.t (T.i (zaR p).1.2)]::(yH a1 (es1.map enT)++[.cells [.t (.v (.slice none 0 0)),.sl 8 (bs1.map nodT) 8],.tail (bs1.map nodT).length]),.cells [.t (.v (.slice none 0 0)),.t (.v (.slice none 0 0))]:: .cells [.t (T.i (zaR p).1.1),.t (T.i (zaR p).1.2)]::(yH (zaG 4 (a1,es1) n).1.1 ((zaG 4 (a1,es1) n).1.2.map enT)++[.cells [.t (.v (.slice none 0 0)),.sl 8 (bs1.map nodT) 8],.tail (bs1.map nodT).length]),.cells [.t (.v (.slice none 0 0)),.t (.v (.slice none 0 0))]:: .cells [.t (T.i (zaR p).1.1),.t (T.i (zaR p).1.2)]::(yH (zaG 4 (a1,es1) n).1.1 ((zaG 4 (a1,es1) n).1.2.map enT)++[.cells [.t (.v (.slice none 0 0)),.sl 8 (bs1.map nodT) 8],.tail ((bs1.map nodT).length+((zaG 4 (a1,es1) n).2.map nodT).length)]),.cells [.t (.v (.slice none 0 0)),.t (.v (.slice none 0 0))]:: .cells [.t (T.i (zaR p).1.1),.t (T.i (zaR p).1.2)]::(yH (zaG 4 (a1,es1) n).1.1 ((zaG 4 (a1,es1) n).1.2.map enT)++[.cells [.t (.v (.slice none 0 0)),.sl 8 (bs1.map nodT++(zaG 4 (a1,es1) n).2.map nodT) 8],.tail ((bs1.map nodT).length+((zaG 4 (a1,es1) n).2.map nodT).length)])] hmix
  case hB=>exact zqw
  case h0=>exact rfl
  case hp=>
   repeat' (first|exact trivial|exact⟨⟨rfl,rfl⟩,trivial⟩|exact qah rfl rfl|refine qah (fun env=>?_) ?_|refine qah ?_ ?_|refine wma ?_|(apply TO.ndC cn;(iterate 3 exact rfl);exact zqb)|(apply TO.zbg zag;(iterate 13 exact rfl);exact zqo;exact rfl)|refine wmk ?_|fail)
   done
  case hc=>exact rfl
  case hF=>exact rfl
  case hE=>exact rfl
  intro _
  repeat' (first|refine wkt ?_|refine zab.exit ?_|exact wkc|intro hc|refine wk2 ?_ ?_|refine wk ?_|fail)
  exact zab.zaz hlt trivial (by(try dsimp only);exact⟨rfl,rfl,rfl,rfl,rfl,rfl,rfl,trivial⟩) (by(try dsimp only);rw[hn];dsimp only;rw[qal (l₁:=bs1),qaf])
 have hnf:expF p=⟨(expJ p p.nodes.length).1.2,(expJ p p.nodes.length).2⟩:=by
  unfold expJ
  rw[qae]
  rfl
 rw[hnf]at hx h1 h2
 clear hnf hJn hN hJ0 ct ca cu
 generalize expJ p p.nodes.length=q at*
 obtain⟨⟨a1,es1⟩,bs1⟩:=q
 dsimp only at hx h1 h2
 have csh:=zg0 ⟨es1,bs1⟩ ⟨qaC hx.es (by decide),fun u hu=>qaC (hx.tg u hu) (by decide),qaC hx.ns (by decide),fun n hn=>qaC (hx.nd n hn) (by decide)⟩
 have cc:=zk6 ⟨es1,bs1⟩ hx
 generalize zbf ⟨es1,bs1⟩=sx at*
 obtain⟨⟨sx1,sx2⟩,sx3⟩:=sx
 dsimp only at csh h1 h2
 unfold zax zaA at csh cc
 dsimp only at csh cc
 refine TR.forget 6 1 rfl rfl rfl ?_
 refine TR.forget 7 1 rfl rfl rfl ?_
 repeat' (first|refine wkt ?_|refine zab.exit ?_|exact wkc|intro hc|refine wk2 ?_ ?_|fail)
 repeat' (first|refine zqy ?_|(apply TO.zaD 0 csh;(iterate 3 exact rfl);exact zqb;(iterate 8 exact rfl))|refine TR.region ?_|refine zqi ?_|refine zqh ?_|refine zqj ?_|refine zqg ?_|fail)
 refine wk2 (fun hc=>?_) (fun hc=>?_)
 ·rw[h2 hc]
  repeat' (first|refine wkt ?_|refine wk ?_|fail)
  refine RetK.keep 0 rfl (?_:Le _ (.tup [.t (.ag [.sl 2 [],.sl 8 []]),.i 3])) rfl rfl rfl rfl rfl ⟨rfl,rfl⟩
  refine Le.tup ⟨Le.ztj rfl ?_,Le.refl _,trivial⟩
  repeat' (first|exact trivial|exact TLs.refl _|exact TLs.nil _|refine TLs.agL ?_|refine TLs.slL ?_|refine qah ?_ ?_|fail)
 have hc0:sx3=0:=qaq fun h=>hc h
 rw[h1 hc0]
 repeat' (first|refine zqy ?_|(apply TO.zaD 0 cc;(iterate 3 exact rfl);exact zqb;(iterate 8 exact rfl))|refine TR.region ?_|refine zqi ?_|refine zqh ?_|refine zqj ?_|refine zqg ?_|fail)
 refine RetK.keep 0 rfl (?_:Le _ (.tup [.t (.ag [.sl 2 (es1.map enT),zaA (bs1.map plnN)]),.i 0])) rfl rfl rfl rfl rfl ⟨rfl,rfl⟩
 exact Le.tup ⟨Le.tree rfl (TLe.refl _),Le.refl _,trivial⟩
theorem zmT(p:Prog)(hw:(T.ag (zax p)).w≤80000000)(hc:(zaR p).2≠0):Pure Tryz.prog 11 [.t (.ag (zax p))] (.tup [.t (.ag [.sl 2 [],.sl 8 []]),.i (zaR p).2]):=by
 have ct:=zg4 p (by omega)
 generalize zaR p=tx at*
 obtain⟨⟨t1,t2⟩,t3⟩:=tx
 dsimp only at ct hc⊢
 unfold zax at ct⊢
 refine so Tryz.func11 ?_
 repeat' (first|refine zqy ?_|(apply TO.zaD 0 ct;(iterate 3 exact rfl);exact zqb;(iterate 8 exact rfl))|refine TR.region ?_|refine zqi ?_|refine zqh ?_|refine zqj ?_|refine zqg ?_|fail)
 repeat' (first|refine wkt ?_|fail)
 refine wk2 (fun _=>?_) (fun hd=>?_)
 rotate_left
 ·exact absurd (show t3=0 by simpa using hd) hc
 repeat' (first|refine wkt ?_|refine wk ?_|fail)
 refine RetK.keep 0 rfl (?_:Le _ (.tup [.t (.ag [.sl 2 [],.sl 8 []]),.i t3])) rfl rfl rfl rfl rfl ⟨rfl,rfl⟩
 refine Le.tup ⟨Le.ztj rfl ?_,Le.refl _,trivial⟩
 repeat' (first|exact trivial|exact TLs.refl _|exact TLs.nil _|refine TLs.agL ?_|refine TLs.slL ?_|refine qah ?_ ?_|fail)
mutual
def zmU:Ex->List Ex
 | .mk k o t v n l=>.mk k o t v n l::zjr l
def zjr:List Ex->List Ex
 | []=>[]
 | a::l=>zmU a++zjr l
end
mutual
def depS:Ex->Int
 | .mk _ _ _ _ _ l=>zsC l 0+1
def zsC:List Ex->Int->Int
 | [],a=>a
 | x::l,a=>zsC l (max a (depS x))
end
mutual
def resS (w:Plc):Ex->Bool->List Int×Int
 | .mk k o t v n l,b=>if(heads (zpB w l)).2≠0 then([],(heads (zpB w l)).2) else zq3 w (.mk k o t v n l) (heads (zpB w l)).1 b
def zpB (w:Plc):List Ex->List (List Int×Int)
 | []=>[]
 | a::l=>resS w a true::zpB w l
end
theorem zn4:∀(m:Nat) (e:Ex),wEx e≤m->flat e=zmU e/\za4 e=depS e/\∀w b,resT w b e=resS w e b
 | 0,e,h=>by have:=zcQ e;omega
 | m+1,.mk k o t v n l,h=>by
   have ih:∀a∈l,flat a=zmU a/\za4 a=depS a/\∀w b,resT w b a=resS w a b:=fun a ha=>zn4 m a (by have:=zb9 (e:=.mk k o t v n l) (x:=a) ha;omega)
   have h1:∀l:List Ex,(∀a∈l,flat a=zmU a)->flats l=zjr l:=by
    intro l
    induction l with
    | nil=>intro _;rfl
    | cons a l ih=>intro h;rw[zjr,<-ih fun b hb=>h b (by simp[hb]),<-h a (by simp)];simp[flats]
   have h2:∀(l:List Ex) (x:Int),(∀a∈l,za4 a=depS a)->(l.map za4).foldl max x=zsC l x:=by
    intro l
    induction l with
    | nil=>intro x _;rfl
    | cons a l ih=>intro x h;rw[zsC,qaj,qaT,ih _ fun b hb=>h b (by simp[hb]),h a (by simp)]
   have h3:∀(w:Plc) (l:List Ex),(∀a∈l,∀b,resT w b a=resS w a b)->l.map (resT w true)=zpB w l:=by
    intro w l
    induction l with
    | nil=>intro _;rfl
    | cons a l ih=>intro h;rw[zpB,qaj,ih fun b hb=>h b (by simp[hb]),h a (by simp)]
   refine⟨?_,?_,fun w b=>?_⟩
   ·rw[zcM,zmU];exact congrArg _ (h1 l fun a ha=>(ih a ha).1)
   ·rw[zge,depS];exact congrArg (·+1) (h2 l 0 fun a ha=>(ih a ha).2.1)
   ·rw[znu,resS,<-h3 w l fun a ha=>(ih a ha).2.2 w];rfl
theorem zok(e:Ex):flat e=zmU e:=(zn4 _ e (qag _)).1
theorem zwD(e:Ex):za4 e=depS e:=(zn4 _ e (qag _)).2.1
theorem zwR(w:Plc)(b:Bool)(e:Ex):resT w b e=resS w e b:=(zn4 _ e (qag _)).2.2 w b
theorem zwV(e:Ex):wEx e=(zmU e).length:=by rw[<-zok,zdh]
theorem zuv(l:List Ex):flats l=zjr l:=by
 induction l with
 | nil=>rfl
 | cons a l ih=>rw[zjr,<-ih,<-zok];simp[flats]
def upX:Ex:=.mk (i64 3) (i64 6) z64 z64 [] [.mk (i64 5) z64 z64 z64 [] [vrE [120]],cnE (i64 2) (i64 1)]
def staA:Sta:=.mk [65] [] [⟨[[120]],.mk (i64 6) z64 z64 z64 [] [cnE (i64 2) (i64 0),upX]⟩] [] [] [⟨.mk (i64 3) (i64 16) z64 z64 [] [vrE [120],cnE (i64 2) (i64 2)],i64 1,false⟩]
def staB:Sta:=.mk [66] [] [⟨[[120]],cnE (i64 2) (i64 9)⟩] [] [] [⟨cnE (i64 1) (i64 1),i64 0,false⟩]
def exaN:Nod:={ name:=[102],ins:=[],outs:=[⟨[120],i64 2,[]⟩],locals:=[],eqs:=[],autos:=[.mk [staA,staB]],assume:=[],ensure:=[] }
def exaP:Prog:=⟨[],[exaN]⟩
mutual
def exTS:Ex->T
 | .mk k o t v n l=>.ag [T.n k,T.n o,T.n t,T.n v,.s n,.sl 6 (zsF l)]
def zsF:List Ex->List T
 | []=>[]
 | a::l=>exTS a::zsF l
end
theorem zvx(e:Ex):exT e=exTS e:=by
 match e with
 | .mk k o t v n l=>
   have h:∀l:List Ex,(∀a∈l,exT a=exTS a)->l.map exT=zsF l:=by
    intro l
    induction l with
    | nil=>intro _;rfl
    | cons a l ih=>intro h;rw[zsF,<-ih fun b hb=>h b (by simp[hb]),<-h a (by simp)];rfl
   rw[zay,exTS,<-h l fun a ha=>zvx a]
   rfl
termination_by wEx e
decreasing_by exact zb9 (e:=.mk k o t v n l) (x:=a) ha
theorem zt6(es:List En):zcs es 0=fun _=>3:=rfl
theorem zt7(es:List En)(k:Nat):zcs es (k+1)=fun a=>orE (if a.states.length=0 then 8 else 0) (orE (if a.states.length≤8 then 0 else 3) (zaf (stE es (zcs es k) a.states.length) a.states)):=rfl
theorem zt9(p:Prog)(seen:List (Int×Str×Int))(node:Int):zcf p seen node 0=fun _ _ t _=>(t,0):=rfl
theorem zua(p:Prog)(seen:List (Int×Str×Int))(node:Int)(k:Nat):zcf p seen node (k+1)=fun vis0 low t a=>(⟨t.own,(zaQ (a.states.map (stS p seen node (zcf p seen node k) (vis0++t.own) (low++t.done)))).foldl ins t.done,t.defs++zaQ (a.states.map (stS p seen node (zcf p seen node k) (vis0++t.own) (low++t.done)))⟩,orE (dupE [] (a.states.map Sta.name)) (orE (zaf Prod.snd (a.states.map (stS p seen node (zcf p seen node k) (vis0++t.own) (low++t.done)))) (if zcP (a.states.map (stS p seen node (zcf p seen node k) (vis0++t.own) (low++t.done)))=true then 0 else 8))):=rfl
theorem zsl:zdD 0=fun _ _=>0:=rfl
theorem zsm(k:Nat):zdD (k+1)=fun w a=>zaf (stTy w (zdD k)) a.states:=rfl
def zvY(F:List Str->List Equ->List Auto->List Str)(a:List Str)(qs:List Equ)(l:List Auto):List Str:=l.foldl (fun a x=>x.states.foldl (fun a s=>(s.unl++s.unt).foldl (fun a t=>zbr a t.cond) (F (zaE (ins a s.name) s.locals) s.eqs s.autos)) a) (qs.foldl (fun a q=>zbr (q.left.foldl ins a) q.right) a)
theorem zpU(m:Nat):zcF (m+1)=zvY (zcF m):=by
 funext a qs l
 rfl
set_option maxRecDepth 20000 in
theorem xtaken:zbl 100000000 exaP=[[102],[120],[65],[],[66]]:=by
 unfold zbl zfX
 rw[show(100000000:Nat)=99999998+1+1 from rfl,zpU,zpU]
 delta zvY zbr
 simp only[zok]
 decide +kernel
def xE:Prog:=
 let r:=exaP.nodes.foldl (fun(q:(List Str×List En)×List Nod) n=>((zaG 4 q.1 n).1,q.2++(zaG 4 q.1 n).2)) (([[102],[120],[65],[],[66]],exaP.enums),[])
 ⟨r.1.2,r.2⟩
theorem zpH:expF exaP=xE:=by
 unfold expF
 rw[xtaken]
 rfl
set_option maxRecDepth 20000 in
theorem xshape:zbf exaP=((0,0),0)/\(zbf (expF exaP)).2=0:=by
 delta zbf zce znE
 simp only[zt7,zt6]
 delta stE zfj equE zb5 zgL sless
 rw[zpH]
 simp only[zok,zwD,zwV]
 constructor <;> decide +kernel
set_option maxRecDepth 20000 in
theorem xscope:zcH exaP=((0,0),0):=by
 unfold zcH
 rw[xshape.1]
 delta nodF zdn zuM
 simp only[zua,zt9]
 delta stS equS zji zp4 zeh
 simp only[zuv]
 decide +kernel
set_option maxRecDepth 20000 in
theorem xtypes:zaR exaP=((0,0),0):=by
 unfold zaR
 rw[xscope]
 show zf7 exaP [(exaN,0)]=_
 unfold zf7
 delta nodG zrm zrB
 simp only[zsm,zsl]
 delta stTy eqnT zcL
 simp only[zwR]
 decide +kernel
mutual
def twS:T->Nat
 | .v x=>1+strW x
 | .sl _ es=>1+twSs es
 | .ag cs=>1+twSs cs
def twSs:List T->Nat
 | []=>0
 | a::l=>twS a+twSs l
end
theorem tw_S(t:T):t.w=twS t:=by
 have h:∀l:List T,(∀a∈l,a.w=twS a)->(l.map T.w).sum=twSs l:=by
  intro l
  induction l with
  | nil=>intro _;rfl
  | cons a l ih=>intro h;rw[twSs,<-ih fun b hb=>h b (by simp[hb]),<-h a (by simp)];rfl
 match t with
 | .v x=>rw[T.w,twS]
 | .sl _ es=>rw[w_sl,twS,h es fun a ha=>tw_S a]
 | .ag cs=>rw[w_ag,twS,h cs fun a ha=>tw_S a]
decreasing_by
 all_goals
  have:=qbi ha
  simp;omega
theorem zuq:exT=exTS:=funext zvx
theorem xw:(T.ag (zax exaP)).w≤1000:=by
 rw[tw_S]
 delta zax zaA exaP exaN
 simp only[nodT,List.map,zbQ,Auto.states,za8,staA,staB,Sta.eqs,Sta.name,Sta.locals,Sta.autos,Sta.unl,Sta.unt,equT,zah,exC,zuq]
 decide +kernel
theorem xw2:(T.ag (zax (expF exaP))).w≤90000000:=by
 rw[tw_S,zpH]
 delta zax zaA nodT equT exC
 rw[zuq]
 decide +kernel
theorem zil{s:List Str×List En}{n:Nod}(ha:n.autos=[])(hl:n.ins.length≤1000/\n.outs.length≤1000/\n.locals.length≤1000/\n.eqs.length≤1000)(hc:∀d∈zav n,d.clock.length≤100000000):zmf s n:=by
 have hl2:=zhx n
 have hb:(autJ s n n.autos.length).bs=[]:=by rw[ha];rfl
 exact⟨by rw[ha];exact qaK _,zcz n ⟨by omega,by omega,by omega⟩ hc,by omega,by omega,by omega,(fun au h=>by rw[ha]at h;cases h),(fun j hj=>by rw[ha]at hj;exact absurd hj (qbJ _)),by rw[hb];exact qaK _⟩
theorem zpq(k:Nat){s:List Str×List En}{n:Nod}(ha:n.autos=[])(hl:n.ins.length≤1000/\n.outs.length≤1000/\n.locals.length≤1000/\n.eqs.length≤1000)(hc:∀d∈zav n,d.clock.length≤100000000):NodX k s n:=by
 have hb:(autJ s n n.autos.length).bs=[]:=by rw[ha];rfl
 cases k with
 | zero=>exact⟨ha,zil ha hl hc⟩
 | succ k=>
   refine⟨zil ha hl hc,fun j hj=>?_,?_⟩
   ·rw[hb]at hj
    exact absurd hj (qbJ _)
   ·rw[hb]
    exact qaK _
abbrev xs0:List Str×List En:=([[102],[120],[65],[],[66]],[])
theorem xbs:((autJ xs0 exaN 1).bs.length=2/\(autJ xs0 exaN 1).a.length≤100)/\∀b∈(autJ xs0 exaN 1).bs,b.autos.isEmpty=true/\(b.ins.length≤1000/\b.outs.length≤1000/\b.locals.length≤1000/\b.eqs.length≤1000)/\∀d∈zav b,d.clock.length≤100000000:=by decide +kernel
theorem xbj:(bodJ 3 (autJ xs0 exaN 1) 1).2.length≤1000/\(bodJ 3 (autJ xs0 exaN 1) 2).2.length≤1000:=by decide +kernel
theorem xset:zaw [[102],[120],[65],[],[66]]:=⟨by decide +kernel,by decide +kernel⟩
theorem xnodp:zmf xs0 exaN:=by
 refine⟨by decide,zcz exaN ⟨by decide,by decide,by decide⟩ (by decide),by decide,by decide,by decide,fun au hau=>?_,fun j hj=>?_,by decide +kernel⟩
 ·have hau:=qaJ.1 hau
  subst hau
  refine⟨qaC ?_ (qaC xw (by decide)),by decide,by decide,by decide +kernel⟩
  have h1:=zda exaN
  have h2:=zau (f:=zae) (sz:=1) (l:=exaN.autos) (x:=.mk [staA,staB]) (qaJ.2 rfl)
  have h3:=zau (f:=nodT) (sz:=8) (l:=exaP.nodes) (x:=exaN) (qaJ.2 rfl)
  have h4:(T.ag (zax exaP)).w=1+((T.sl 2 (exaP.enums.map enT)).w+((T.sl 8 (exaP.nodes.map nodT)).w+0)):=by rw[w_ag];rfl
  omega
 ·have hj0:j=0:=by have:exaN.autos.length=1:=rfl;omega
  subst hj0
  have h0:(autJ xs0 exaN 0).a.length+((zaZ (zav exaN) (.mk [staA,staB])).length*8+400)≤100000000000000:=by decide +kernel
  exact⟨⟨xset,h0⟩,by decide +kernel,by decide +kernel,by decide +kernel,by decide +kernel⟩
theorem xnod:NodX 4 xs0 exaN:=by
 refine⟨xnodp,fun j hj=>?_,qaC xbj.2 (by decide)⟩
 have hb:=xbs.2 _ (qad hj)
 refine⟨zpq 3 (List.isEmpty_iff.1 hb.1) hb.2.1 hb.2.2,?_⟩
 have hl:j<2:=by have h:=xbs.1.1;exact h ▸ hj
 rcases j with _|_|j
 ·exact qaC xbj.1 (by decide)
 ·exact qaC xbj.2 (by decide)
 ·omega
theorem xexp:Pure Tryz.prog 11 [.t (.ag (zax exaP))] (.tup [.t (.ag (zax ⟨(expF exaP).enums,(expF exaP).nodes.map plnN⟩)),.i 0]):=by
 refine zfF exaP (qaC xw (by decide)) (by rw[xtypes]) (fun j hj=>?_) (zlN xw2) _ (fun _=>rfl) (fun h=>absurd xshape.2 h)
 have hj0:j=0:=by have:exaP.nodes.length=1:=rfl;omega
 subst hj0
 have h0:(expJ exaP 0).1=xs0:=by show(zbl 100000000 exaP,_)=_;rw[xtaken];rfl
 have h1:expJ exaP 1=((zaG 4 xs0 exaN).1,[]++(zaG 4 xs0 exaN).2):=by rw[<-h0];rfl
 rw[h0,h1]
 exact⟨xnod,by decide +kernel⟩
end Go.Proofs.YtpnnpgbaiobbjaaGreatDoor
