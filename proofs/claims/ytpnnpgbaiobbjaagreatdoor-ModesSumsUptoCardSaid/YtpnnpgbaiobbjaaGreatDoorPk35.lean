import Derived.Test.YtpnnpgbaiobbjaaGreatDoorPz
import Derived.Test.YtpnnpgbaiobbjaaGreatDoorPk18
import Derived.Test.YtpnnpgbaiobbjaaGreatDoorPk22
import Derived.Test.YtpnnpgbaiobbjaaGreatDoorPk29
import Derived.Test.YtpnnpgbaiobbjaaGreatDoorPk30
import Derived.Test.YtpnnpgbaiobbjaaGreatDoorPk34
set_option linter.unusedSimpArgs false
set_option linter.unusedVariables false
namespace Go.Proofs.YtpnnpgbaiobbjaaGreatDoor
open Go Go.TL
attribute [local irreducible] TR TO Then zam RetK Sound zab Kf GG zaX
def plnN(n:Nod):Nod:={ n with autos:=[] }
theorem znp{σ α β:Type}(s:σ)(g:α->β):∀(l:List α) (i:Nat),mapN (fun _ (s:σ) (x:α)=>(s,g x)) i s l=(s,l.map g)
 | [],_=>rfl
 | x::l,i=>by
   have:=znp s g l (i+1)
   unfold mapN
   rw[this]
   rfl
theorem zje{l:List Decl}{d:Decl}(h:d∈l):d.clock.length<(T.sl 3 (l.map zaa)).w:=by
 have h1:=zaw (f:=zaa) (sz:=3) h
 have h2:=zai onT 3 d.clock
 have h3:(T.sl 3 (d.clock.map onT)).w<(zaa d).w:=by
  unfold zaa
  simp only[w_ag,qak,qay,qat,qaK]
  omega
 omega
set_option maxHeartbeats 16000000 in
theorem znY (i:Int) (n:Nod) (hn:(nodT n).w≤90000000):Pure Tryz.prog 78 [.i i,.t (nodT n)] (.t (nodT (plnN n))):=by
 have hw:=zej n
 have l1:=zai zaa 3 n.ins
 have l2:=zai zaa 3 n.outs
 have l3:=zai zaa 3 n.locals
 have l4:=zai equT 7 n.eqs
 have d1:(zad n.ins)=T.sl 3 (n.ins.map zaa):=rfl
 have d2:(zad n.outs)=T.sl 3 (n.outs.map zaa):=rfl
 have d3:(zad n.locals)=T.sl 3 (n.locals.map zaa):=rfl
 rw[d1,d2,d3]at hw
 have c1:=zdT n.ins (by omega) (fun d hd=>by have:=zje hd;omega)
 have c2:=zdT n.outs (by omega) (fun d hd=>by have:=zje hd;omega)
 have c3:=zdT n.locals (by omega) (fun d hd=>by have:=zje hd;omega)
 have c4:=zcS _ n.assume (qae _) (by omega)
 have c5:=zcS _ n.ensure (qae _) (by omega)
 have cq:=zmn (σ:=Unit) (fun _=>[]) 0 (fun _=>rfl) (fun _=>rfl) 80 [] rfl (fun _ s x=>(s,x)) (fun _ _=>True) n.eqs (by omega) (fun i s x hx _=>znZ i x (by have:=zaw (f:=equT) (sz:=7) (qas hx);omega)) (fun _ _ _ _ _=>trivial) () trivial
 rw[zhv]at cq
 dsimp only at cq
 clear hw l1 l2 l3 l4 d1 d2 d3 hn
 unfold nodT
 refine so Tryz.func78 ?_
 repeat' (first|refine zqw ?_|(apply TO.zdg cq;(iterate 3 exact rfl);exact zqb;exact rfl)|refine TR.region ?_|refine zqi ?_|refine zqh ?_|refine zqj ?_|refine zqg ?_|fail)
 refine TR.own 5 rfl ?_
 apply TR.zaB 0 (g:=True) [(_,0,0),(_,0,0),(_,0,0),(_,0,0),(_,0,0),(_,0,0),(_,0,0),(_,0,0),(_,0,0),(_,0,0),(_,0,0),(_,0,0),(_,0,0),(_,0,0),(_,0,0),(_,0,0),(_,0,0),(_,0,0),(_,0,0),(.any,1,0)] [[.cells [.s [],.t (.v (.slice none 0 0)),.t (.v (.slice none 0 0)),.t (.v (.slice none 0 0)),.t (.v (.slice none 0 0)),.t (.v (.slice none 0 0)),.t (.v (.slice none 0 0)),.t (.v (.slice none 0 0))],.tail n.eqs.length],[.cells [.s n.name,.t (.sl 3 (n.ins.map zaa)),.t (.sl 3 (n.outs.map zaa)),.t (.sl 3 (n.locals.map zaa)),.t (.sl 7 (n.eqs.map equT)),.t (.v (.slice none 0 0)),.t (.sl 6 (n.assume.map exT)),.t (.sl 6 (n.ensure.map exT))],.tail n.eqs.length]] hmix
 case hB=>exact zqu
 case h0=>exact rfl
 case hp=>
  repeat' (first|exact trivial|exact⟨⟨rfl,rfl⟩,trivial⟩|exact qaf rfl rfl|refine qaf (fun env=>?_) ?_|refine qaf ?_ ?_|refine wma ?_|refine wmv c1 ?_|refine wmv c2 ?_|refine wmv c3 ?_|refine wmv c4 ?_|refine wmv c5 ?_|refine wmk ?_|fail)
  done
 case hc=>exact rfl
 case hF=>exact rfl
 case hE=>exact rfl
 intro _
 repeat' (first|refine wkt ?_|refine wk ?_|fail)
 refine RetK.keep 0 rfl (?_:Le _ (.t (.ag [.s n.name,T.sl 3 (n.ins.map zaa),T.sl 3 (n.outs.map zaa),T.sl 3 (n.locals.map zaa),T.sl 7 (n.eqs.map equT),T.sl 1 [],T.sl 6 (n.assume.map exT),T.sl 6 (n.ensure.map exT)]))) rfl rfl rfl rfl rfl ⟨rfl,rfl⟩
 exact zqb
set_option maxHeartbeats 16000000 in
theorem zkq (p:Prog) (hp:zmO p 90000000):Pure Tryz.prog 30 [.t (.ag (zay p))] (.t (.ag (zay ⟨p.enums,p.nodes.map plnN⟩))):=by
 have l1:=hp.es
 have l2:=hp.ns
 have cu:=zmq (σ:=Unit) (fun _=>[]) 0 (fun _=>rfl) (fun _=>rfl) 75 [] rfl (fun _ s x=>(s,x)) (fun _ _=>True) p.enums (by omega) (fun i s x hx _=>zn0 i x (by have:=hp.tg _ (qas hx);omega)) (fun _ _ _ _ _=>trivial) () trivial
 have cn:=zmm (σ:=Unit) (fun _=>[]) 0 (fun _=>rfl) (fun _=>rfl) 78 [] rfl (fun _ s x=>(s,plnN x)) (fun _ _=>True) p.nodes (by omega) (fun i s x hx _=>znY i x (hp.nd _ (qas hx))) (fun _ _ _ _ _=>trivial) () trivial
 rw[zhv]at cu
 rw[znp]at cn
 dsimp only at cu cn
 clear l1 l2 hp
 unfold zay
 refine so Tryz.func30 ?_
 repeat' (first|refine TR.forget 1 0 rfl rfl rfl ?_|refine TR.forget 1 1 rfl rfl rfl ?_|refine zqw ?_|(apply TO.zdg cu;(iterate 3 exact rfl);exact zqb;exact rfl)|(apply TO.zdg cn;(iterate 3 exact rfl);exact zqb;exact rfl)|refine TR.region ?_|refine zqi ?_|refine zqh ?_|refine zqj ?_|refine zqg ?_|fail)
 refine RetK.keep 0 rfl (?_:Le _ (.t (.ag [.sl 2 (p.enums.map enT),.sl 8 ((p.nodes.map plnN).map nodT)]))) rfl rfl rfl rfl rfl ⟨rfl,rfl⟩
 exact zqb
theorem zty(n:Nod):zaI n=n.ins++n.outs++n.locals:=by simp[zaI]
theorem zrX(n:Nod):(zaI n).length=n.ins.length+n.outs.length+n.locals.length:=by rw[zty,qai,qai]
structure zqU (s:List Str×List En) (n:Nod):Prop where
 hal:n.autos.length≤8
 hv:Pure Tryz.prog 56 [.t (.ag (nodC n))] (.t (zad (zaI n)))
 hv2:(zaI n).length≤1000000
 hL:n.locals.length≤1000000
 hE:n.eqs.length≤1000000
 hau:∀au∈n.autos,(zae au).w≤90000000/\au.states.length≤8/\(∀x∈au.states,x.unl.length≤4/\x.unt.length≤4)/\(zbB (zaI n) au).length≤100000
 hR:∀j (h:j<n.autos.length),Room (autJ s n j).a ((zbB (zaI n) n.autos[j]).length*8+400)/\(autJ s n j).L.length≤10000000/\(autJ s n j).Q.length≤10000000/\(autJ s n j).es.length≤10000000/\(autJ s n (j+1)).bs.length≤1000000
 hB:(autJ s n n.autos.length).bs.length≤1000000
def NodX:Nat->List Str×List En->Nod->Prop
 | 0,s,n=>n.autos=[]/\zqU s n
 | k+1,s,n=>zqU s n/\(∀j (h:j<(autJ s n n.autos.length).bs.length),NodX k (bodJ k (autJ s n n.autos.length) j).1 (autJ s n n.autos.length).bs[j]/\(bodJ k (autJ s n n.autos.length) (j+1)).2.length≤1000000000)/\(bodJ k (autJ s n n.autos.length) (autJ s n n.autos.length).bs.length).2.length≤1000000000
theorem zhI:∀(k:Nat) (s:List Str×List En) (n:Nod),NodX k s n->NodC k s n
 | 0,s,n,h=>by
   obtain⟨ha,hp⟩:=h
   have hb:(autJ s n n.autos.length).bs=[]:=by rw[ha];rfl
   have h1:=ziS 0 s n hp.hal hp.hv hp.hv2 hp.hL hp.hE hp.hau hp.hR hp.hB (fun j hj=>by rw[hb]at hj;exact absurd hj (qcB _)) (by rw[hb];exact qaU _)
   have h2:za4 1 s n=za4 0 s n:=by
    unfold za4
    rw[ha]
    rfl
   unfold NodC at h1⊢
   rw[qaN,h2]at h1
   exact h1
 | k+1,s,n,h=>by
   obtain⟨hp,hI,hT⟩:=h
   exact ziS k s n hp.hal hp.hv hp.hv2 hp.hL hp.hE hp.hau hp.hR hp.hB (fun j hj=>⟨zhI k _ _ (hI j hj).1,(hI j hj).2⟩) hT
abbrev yH (a:List Str)(es:List T):Heap:=[setB a,.cells [.mp 2,.fn 66 [.ref 4 0]],.cells [.ref 3 0],.tail es.length,.cells [.ref 3 0,.sl 2 es 5]]
theorem zs4(r q:Blk)(a:List Str)(es:List T)(t:Heap):Hands (r::q::(yH a es++t)) [2,3,4,5,6] (xH a es):=by
 refine⟨by decide,by simp,rfl,fun j i c hj hc=>?_,fun j c hc=>?_⟩
 ·rcases j with _|_|_|_|_|j
  ·simp[xH]at hj hc;subst hj hc;rfl
  ·simp[xH]at hj hc;subst hj hc;rfl
  ·simp[xH]at hj hc;subst hj hc;rfl
  ·simp[xH]at hj hc;subst hj hc;rfl
  ·simp[xH]at hj hc;subst hj hc;rfl
  ·simp at hj
 ·rcases j with _|_|_|_|_|j
  ·simp[xH]at hc;subst hc;rfl
  ·simp[xH]at hc;subst hc;rfl
  ·simp[xH]at hc;subst hc;rfl
  ·simp[xH]at hc;subst hc;rfl
  ·simp[xH]at hc;subst hc;rfl
  ·simp[xH]at hc
section rules
variable {n:Nat}{env:Env}{K:TK}{all:Array Oper}{rest:List Oper}{d:Nat}{ty:TypeId}{pos:String}{aft:Array Edge}
theorem TO.ndC{r q:Blk}{t:Heap}{k:Nat}{s:List Str×List En}{m:Nod}{vs:List SV}{f:Operand}{args:Array Operand}{ts:Array TypeId}(hs:NodC k s m)(hd:Nat.ble (d+1) n=true)(hf:env.val f=some (.fn 28 []))(ha:env.vals args.toList=some vs)
  (hl:Les (vs++[]) [.ref 6 0,.t (nodT m)])
  (k:TO false Tryz.prog n all rest ((d,.t (.sl 8 ((za4 k s m).2.map nodT)))::env) (r::q::(yH (za4 k s m).1.1 ((za4 k s m).1.2.map enT)++t)) K):
  TO false Tryz.prog n all (⟨some d,.call { callee:=.value f,args:=args,argTypes:=ts },ty,pos,aft,none⟩::rest) env (r::q::(yH s.1 (s.2.map enT)++t)) K:=
 TO.zoV [2,3,4,5,6] (v':=.t (.sl 8 ((za4 _ s m).2.map nodT))) (H':=r::q::(yH (za4 _ s m).1.1 ((za4 _ s m).1.2.map enT)++t)) hs hd hf ha hl rfl (zs4 r q s.1 (s.2.map enT) t) rfl (by simp[patch,yH,xH];exact⟨rfl,rfl,rfl,rfl,rfl⟩) k
end rules
def expJ(p:Prog)(j:Nat):(List Str×List En)×List Nod:=(p.nodes.take j).foldl (fun(q:(List Str×List En)×List Nod) n=>((za4 4 q.1 n).1,q.2++(za4 4 q.1 n).2)) ((zef 100000000 p,p.enums),[])
set_option maxHeartbeats 16000000 in
theorem zji (p:Prog) (hw:(T.ag (zay p)).w≤80000000) (hc:(zbd p).2=0) (hN:∀j (h:j<p.nodes.length),NodX 4 (expJ p j).1 p.nodes[j]/\(expJ p (j+1)).2.length≤1000000000) (hx:zmO (expF p) 90000000) (v:SV) (h1:(zbs (expF p)).2=0->v= .tup [.t (.ag (zay ⟨(expF p).enums,(expF p).nodes.map plnN⟩)),.i 0]) (h2:(zbs (expF p)).2≠0->v= .tup [.t (.ag [.sl 2 [],.sl 8 []]),.i 3]):Pure Tryz.prog 11 [.t (.ag (zay p))] v:=by
 have ct:=zls p (by omega)
 have ca:=zhG p (by omega)
 have hl:p.nodes.length≤80000000/\p.enums.length≤80000000:=by
  have h1:=zai nodT 8 p.nodes
  have h2:=zai enT 2 p.enums
  have hc0:zay p=[.sl 2 (p.enums.map enT),.sl 8 (p.nodes.map nodT)]:=rfl
  rw[hc0,w_ag]at hw
  simp only[qak,qay,qat,qaK]at hw
  omega
 obtain⟨hlN,hlE⟩:=hl
 have cu:=zkm (p.enums.map enT) (by rw[qaa];omega)
 rw[hc]at ct
 have hJn:∀j (h:j<p.nodes.length),expJ p (j+1)=((za4 4 (expJ p j).1 p.nodes[j]).1,(expJ p j).2++(za4 4 (expJ p j).1 p.nodes[j]).2):=fun j h=>zas (fun(q:(List Str×List En)×List Nod) n=>((za4 4 q.1 n).1,q.2++(za4 4 q.1 n).2)) _ h
 have hJ0:expJ p 0=((zef 100000000 p,p.enums),[]):=rfl
 have hmN:(p.nodes.map nodT).length=p.nodes.length:=qaa _
 unfold zay at ct ca⊢
 refine so Tryz.func11 ?_
 repeat' (first|refine zqw ?_|(apply TO.zaD 0 ct;(iterate 3 exact rfl);exact zqb;(iterate 8 exact rfl))|refine TR.region ?_|refine zqi ?_|refine zqh ?_|refine zqj ?_|refine zqg ?_|fail)
 refine wk2 (fun hc=>absurd rfl hc) (fun _=>?_)
 repeat' (first|refine zqw ?_|refine TR.region ?_|refine zqi ?_|refine zqh ?_|refine zqj ?_|refine zqg ?_|fail)
 apply TR.zaB 0 (g:=True) [(_,0,0),(_,1,0),(_,0,1),(_,0,1),(_,1,0),(_,2,2),(_,1,0),(_,3,3)] [[.cells [.t (.v (.slice none 0 0)),.t (.v (.slice none 0 0))],.cells [.t (T.i (zbd p).1.1),.t (T.i (zbd p).1.2)]],[.cells [.t (.v (.slice none 0 0)),.t (.v (.slice none 0 0))],.cells [.t (T.i (zbd p).1.1),.t (T.i (zbd p).1.2)],setB (zef 100000000 p),.cells [.mp 2,.fn 66 [.ref 4 0]],.cells [.ref 3 0]],[.cells [.t (.v (.slice none 0 0)),.t (.v (.slice none 0 0))],.cells [.t (T.i (zbd p).1.1),.t (T.i (zbd p).1.2)],setB (zef 100000000 p),.cells [.mp 2,.fn 66 [.ref 4 0]],.cells [.ref 3 0],.tail (p.enums.map enT).length],[.cells [.t (.v (.slice none 0 0)),.t (.v (.slice none 0 0))],.cells [.t (T.i (zbd p).1.1),.t (T.i (zbd p).1.2)],setB (zef 100000000 p),.cells [.mp 2,.fn 66 [.ref 4 0]],.cells [.ref 3 0],.tail (p.enums.map enT).length,.cells [.ref 3 0,.sl 2 (p.enums.map enT) 5]]] hmix
 case hB=>exact zqu
 case h0=>exact rfl
 case hp=>
  repeat' (first|exact trivial|exact⟨⟨rfl,rfl⟩,trivial⟩|exact qaf rfl rfl|refine qaf (fun env=>?_) ?_|refine qaf ?_ ?_|refine wma ?_|(apply TO.zoV [] ca;(iterate 3 exact rfl);exact zqb;exact rfl;exact zfU _;exact rfl;exact rfl)|(apply TO.zdg cu;(iterate 3 exact rfl);exact zqb;exact rfl)|(apply TO.box;(iterate 4 exact rfl))|refine wmk ?_|fail)
  done
 case hc=>exact rfl
 case hF=>exact rfl
 case hE=>exact rfl
 intro _
 repeat' (first|refine wkt ?_|refine zqw ?_|fail)
 refine TR.zbK 8 7 1 rfl rfl rfl ?_
 refine TR.zak p.nodes.length (fun _=>True) (fun j=>[(1,.cp [.sl 2 (p.enums.map enT),zax p.nodes] 0),(2,.ref 0 0),(6,.ref 6 0),(7,.ref 7 0),(29,.t (zax p.nodes)),(30,.i p.nodes.length),(31,.i j)]) (fun j=>.cells [.t (.v (.slice none 0 0)),.t (.v (.slice none 0 0))]:: .cells [.t (T.i (zbd p).1.1),.t (T.i (zbd p).1.2)]::(yH (expJ p j).1.1 ((expJ p j).1.2.map enT)++[.cells [.t (.v (.slice none 0 0)),.sl 8 ((expJ p j).2.map nodT) 8],.tail ((expJ p j).2.map nodT).length])) trivial (fun j hlt _=>?_) (fun _=>?_) ⟨rfl,rfl,rfl,rfl,rfl,by rw[<-hmN];rfl,rfl,trivial⟩ (by(try dsimp only);rw[hJ0];rfl)
 ·have hx1:=zar nodT hlt
  have hn:=hJn j hlt
  obtain⟨ci,ti⟩:=hN j hlt
  have cn:=zhI 4 _ _ ci
  rw[hn]at ti
  clear hJn hN hJ0 hx ct ca cu ci h1 h2
  generalize expJ p j=q at*
  obtain⟨⟨a1,es1⟩,bs1⟩:=q
  dsimp only at cn ti hn⊢
  rw[qai]at ti
  have hbT:nodT p.nodes[j]= .ag [.s p.nodes[j].name,zad p.nodes[j].ins,zad p.nodes[j].outs,zad p.nodes[j].locals,.sl 7 (p.nodes[j].eqs.map equT),.sl 1 (p.nodes[j].autos.map zae),.sl 6 (p.nodes[j].assume.map exT),.sl 6 (p.nodes[j].ensure.map exT)]:=rfl
  rw[hbT]at hx1
  clear hbT
  generalize p.nodes[j]=n at*
  have m1:(bs1.map nodT).length=bs1.length:=qaa _
  have m2:((za4 4 (a1,es1) n).2.map nodT).length=(za4 4 (a1,es1) n).2.length:=qaa _
  repeat' (first|refine wkt ?_|(apply TO.indexAddr zah;(iterate 8 exact rfl);omega;exact hx1)|refine zqw ?_|refine zab.exit ?_|exact wkc|intro hc|refine wk2 ?_ ?_|fail)
  apply TR.zaB 0 (g:=True) [(_,0,1),(_,0,1),(_,0,0),(_,0,0),(_,1,0),(_,1,0),(_,2,2),(.any,1,0)] [.cells [.t (.v (.slice none 0 0)),.t (.v (.slice none 0 0))]:: .cells [.t (T.i (zbd p).1.1),.t (T.i (zbd p).1.2)]::(yH a1 (es1.map enT)++[.cells [.t (.v (.slice none 0 0)),.sl 8 (bs1.map nodT) 8],.tail (bs1.map nodT).length]),.cells [.t (.v (.slice none 0 0)),.t (.v (.slice none 0 0))]:: .cells [.t (T.i (zbd p).1.1),.t (T.i (zbd p).1.2)]::(yH (za4 4 (a1,es1) n).1.1 ((za4 4 (a1,es1) n).1.2.map enT)++[.cells [.t (.v (.slice none 0 0)),.sl 8 (bs1.map nodT) 8],.tail (bs1.map nodT).length]),.cells [.t (.v (.slice none 0 0)),.t (.v (.slice none 0 0))]:: .cells [.t (T.i (zbd p).1.1),.t (T.i (zbd p).1.2)]::(yH (za4 4 (a1,es1) n).1.1 ((za4 4 (a1,es1) n).1.2.map enT)++[.cells [.t (.v (.slice none 0 0)),.sl 8 (bs1.map nodT) 8],.tail ((bs1.map nodT).length+((za4 4 (a1,es1) n).2.map nodT).length)]),.cells [.t (.v (.slice none 0 0)),.t (.v (.slice none 0 0))]:: .cells [.t (T.i (zbd p).1.1),.t (T.i (zbd p).1.2)]::(yH (za4 4 (a1,es1) n).1.1 ((za4 4 (a1,es1) n).1.2.map enT)++[.cells [.t (.v (.slice none 0 0)),.sl 8 (bs1.map nodT++(za4 4 (a1,es1) n).2.map nodT) 8],.tail ((bs1.map nodT).length+((za4 4 (a1,es1) n).2.map nodT).length)])] hmix
  case hB=>exact zqu
  case h0=>exact rfl
  case hp=>
   repeat' (first|exact trivial|exact⟨⟨rfl,rfl⟩,trivial⟩|exact qaf rfl rfl|refine qaf (fun env=>?_) ?_|refine qaf ?_ ?_|refine wma ?_|(apply TO.ndC cn;(iterate 3 exact rfl);exact zqb)|(apply TO.zg2 zah;(iterate 13 exact rfl);(simp only[qaa,qap,qaC];omega);exact rfl)|refine wmk ?_|fail)
   done
  case hc=>exact rfl
  case hF=>exact rfl
  case hE=>exact rfl
  intro _
  repeat' (first|refine wkt ?_|refine zab.exit ?_|exact wkc|intro hc|refine wk2 ?_ ?_|refine wk ?_|fail)
  exact zab.zat hlt trivial (by(try dsimp only);exact⟨rfl,rfl,rfl,rfl,rfl,rfl,rfl,trivial⟩) (by(try dsimp only);rw[hn];dsimp only;rw[qan (l₁:=bs1),qai])
 have hnf:expF p=⟨(expJ p p.nodes.length).1.2,(expJ p p.nodes.length).2⟩:=by
  unfold expJ
  rw[qag]
  rfl
 rw[hnf]at hx h1 h2
 clear hnf hJn hN hJ0 ct ca cu
 generalize expJ p p.nodes.length=q at*
 obtain⟨⟨a1,es1⟩,bs1⟩:=q
 dsimp only at hx h1 h2
 have csh:=zgv ⟨es1,bs1⟩ ⟨qaF hx.es (by decide),fun u hu=>qaF (hx.tg u hu) (by decide),qaF hx.ns (by decide),fun n hn=>qaF (hx.nd n hn) (by decide)⟩
 have cc:=zkq ⟨es1,bs1⟩ hx
 generalize zbs ⟨es1,bs1⟩=sx at*
 obtain⟨⟨sx1,sx2⟩,sx3⟩:=sx
 dsimp only at csh h1 h2
 unfold zay zax at csh cc
 dsimp only at csh cc
 refine TR.forget 6 1 rfl rfl rfl ?_
 refine TR.forget 7 1 rfl rfl rfl ?_
 repeat' (first|refine wkt ?_|refine zab.exit ?_|exact wkc|intro hc|refine wk2 ?_ ?_|fail)
 repeat' (first|refine zqw ?_|(apply TO.zaD 0 csh;(iterate 3 exact rfl);exact zqb;(iterate 8 exact rfl))|refine TR.region ?_|refine zqi ?_|refine zqh ?_|refine zqj ?_|refine zqg ?_|fail)
 refine wk2 (fun hc=>?_) (fun hc=>?_)
 ·rw[h2 hc]
  repeat' (first|refine wkt ?_|refine wk ?_|fail)
  refine RetK.keep 0 rfl (?_:Le _ (.tup [.t (.ag [.sl 2 [],.sl 8 []]),.i 3])) rfl rfl rfl rfl rfl ⟨rfl,rfl⟩
  refine Le.tup ⟨Le.zrV rfl ?_,Le.refl _,trivial⟩
  repeat' (first|exact trivial|exact TLs.refl _|exact TLs.nil _|refine TLs.agL ?_|refine TLs.slL ?_|refine qaf ?_ ?_|fail)
 have hc0:sx3=0:=qaE fun h=>hc h
 rw[h1 hc0]
 repeat' (first|refine zqw ?_|(apply TO.zaD 0 cc;(iterate 3 exact rfl);exact zqb;(iterate 8 exact rfl))|refine TR.region ?_|refine zqi ?_|refine zqh ?_|refine zqj ?_|refine zqg ?_|fail)
 refine RetK.keep 0 rfl (?_:Le _ (.tup [.t (.ag [.sl 2 (es1.map enT),zax (bs1.map plnN)]),.i 0])) rfl rfl rfl rfl rfl ⟨rfl,rfl⟩
 exact Le.tup ⟨Le.tree rfl (TLe.refl _),Le.refl _,trivial⟩
mutual
def zl8:Ex->List Ex
 | .mk k o t v n l=>.mk k o t v n l::ziL l
def ziL:List Ex->List Ex
 | []=>[]
 | a::l=>zl8 a++ziL l
end
mutual
def depS:Ex->Int
 | .mk _ _ _ _ _ l=>zrg l 0+1
def zrg:List Ex->Int->Int
 | [],a=>a
 | x::l,a=>zrg l (max a (depS x))
end
mutual
def resS (w:Plc):Ex->Bool->List Int×Int
 | .mk k o t v n l,b=>if(heads (zou w l)).2≠0 then([],(heads (zou w l)).2) else zpt w (.mk k o t v n l) (heads (zou w l)).1 b
def zou (w:Plc):List Ex->List (List Int×Int)
 | []=>[]
 | a::l=>resS w a true::zou w l
end
theorem zm3:∀(m:Nat) (e:Ex),wEx e≤m->flat e=zl8 e/\zaQ e=depS e/\∀w b,resT w b e=resS w e b
 | 0,e,h=>by have:=zcp e;omega
 | m+1,.mk k o t v n l,h=>by
   have ih:∀a∈l,flat a=zl8 a/\zaQ a=depS a/\∀w b,resT w b a=resS w a b:=fun a ha=>zm3 m a (by have:=zbR (e:=.mk k o t v n l) (x:=a) ha;omega)
   have h1:∀l:List Ex,(∀a∈l,flat a=zl8 a)->flats l=ziL l:=by
    intro l
    induction l with
    | nil=>intro _;rfl
    | cons a l ih=>intro h;rw[ziL,<-ih fun b hb=>h b (by simp[hb]),<-h a (by simp)];simp[flats]
   have h2:∀(l:List Ex) (x:Int),(∀a∈l,zaQ a=depS a)->(l.map zaQ).foldl max x=zrg l x:=by
    intro l
    induction l with
    | nil=>intro x _;rfl
    | cons a l ih=>intro x h;rw[zrg,qak,qaY,ih _ fun b hb=>h b (by simp[hb]),h a (by simp)]
   have h3:∀(w:Plc) (l:List Ex),(∀a∈l,∀b,resT w b a=resS w a b)->l.map (resT w true)=zou w l:=by
    intro w l
    induction l with
    | nil=>intro _;rfl
    | cons a l ih=>intro h;rw[zou,qak,ih fun b hb=>h b (by simp[hb]),h a (by simp)]
   refine⟨?_,?_,fun w b=>?_⟩
   ·rw[zb9,zl8];exact congrArg _ (h1 l fun a ha=>(ih a ha).1)
   ·rw[zeo,depS];exact congrArg (·+1) (h2 l 0 fun a ha=>(ih a ha).2.1)
   ·rw[zjG,resS,<-h3 w l fun a ha=>(ih a ha).2.2 w];rfl
theorem znh(e:Ex):flat e=zl8 e:=(zm3 _ e (qae _)).1
theorem zuv(e:Ex):zaQ e=depS e:=(zm3 _ e (qae _)).2.1
theorem zuJ(w:Plc)(b:Bool)(e:Ex):resT w b e=resS w e b:=(zm3 _ e (qae _)).2.2 w b
theorem zuO(e:Ex):wEx e=(zl8 e).length:=by rw[<-znh,zep]
theorem zs1(l:List Ex):flats l=ziL l:=by
 induction l with
 | nil=>rfl
 | cons a l ih=>rw[ziL,<-ih,<-znh];simp[flats]
def upX:Ex:=.mk (i64 3) (i64 6) z64 z64 [] [.mk (i64 5) z64 z64 z64 [] [vrE [120]],cnE (i64 2) (i64 1)]
def staA:Sta:=.mk [65] [] [⟨[[120]],.mk (i64 6) z64 z64 z64 [] [cnE (i64 2) (i64 0),upX]⟩] [] [] [⟨.mk (i64 3) (i64 16) z64 z64 [] [vrE [120],cnE (i64 2) (i64 2)],i64 1,false⟩]
def staB:Sta:=.mk [66] [] [⟨[[120]],cnE (i64 2) (i64 9)⟩] [] [] [⟨cnE (i64 1) (i64 1),i64 0,false⟩]
def exaN:Nod:={ name:=[102],ins:=[],outs:=[⟨[120],i64 2,[]⟩],locals:=[],eqs:=[],autos:=[.mk [staA,staB]],assume:=[],ensure:=[] }
def exaP:Prog:=⟨[],[exaN]⟩
mutual
def exTS:Ex->T
 | .mk k o t v n l=>.ag [T.n k,T.n o,T.n t,T.n v,.s n,.sl 6 (zrk l)]
def zrk:List Ex->List T
 | []=>[]
 | a::l=>exTS a::zrk l
end
theorem ztU(e:Ex):exT e=exTS e:=by
 match e with
 | .mk k o t v n l=>
   have h:∀l:List Ex,(∀a∈l,exT a=exTS a)->l.map exT=zrk l:=by
    intro l
    induction l with
    | nil=>intro _;rfl
    | cons a l ih=>intro h;rw[zrk,<-ih fun b hb=>h b (by simp[hb]),<-h a (by simp)];rfl
   rw[zaz,exTS,<-h l fun a ha=>ztU a]
   rfl
termination_by wEx e
decreasing_by exact zbR (e:=.mk k o t v n l) (x:=a) ha
theorem zsD(es:List En):zcu es 0=fun _=>3:=rfl
theorem zsE(es:List En)(k:Nat):zcu es (k+1)=fun a=>orE (if a.states.length=0 then 8 else 0) (orE (if a.states.length≤8 then 0 else 3) (zaf (stE es (zcu es k) a.states.length) a.states)):=rfl
theorem zsG(p:Prog)(seen:List (Int×Str×Int))(node:Int):zbV p seen node 0=fun _ _ t _=>(t,0):=rfl
theorem zsH(p:Prog)(seen:List (Int×Str×Int))(node:Int)(k:Nat):zbV p seen node (k+1)=fun vis0 low t a=>(⟨t.own,(zaL (a.states.map (stS p seen node (zbV p seen node k) (vis0++t.own) (low++t.done)))).foldl ins t.done,t.defs++zaL (a.states.map (stS p seen node (zbV p seen node k) (vis0++t.own) (low++t.done)))⟩,orE (dupE [] (a.states.map Sta.name)) (orE (zaf Prod.snd (a.states.map (stS p seen node (zbV p seen node k) (vis0++t.own) (low++t.done)))) (if zco (a.states.map (stS p seen node (zbV p seen node k) (vis0++t.own) (low++t.done)))=true then 0 else 8))):=rfl
theorem zq1:zdb 0=fun _ _=>0:=rfl
theorem zq2(k:Nat):zdb (k+1)=fun w a=>zaf (stTy w (zdb k)) a.states:=rfl
def zui(F:List Str->List Equ->List Auto->List Str)(a:List Str)(qs:List Equ)(l:List Auto):List Str:=l.foldl (fun a x=>x.states.foldl (fun a s=>(s.unl++s.unt).foldl (fun a t=>zbN a t.cond) (F (zcn (ins a s.name) s.locals) s.eqs s.autos)) a) (qs.foldl (fun a q=>zbN (q.left.foldl ins a) q.right) a)
theorem zoP(m:Nat):zeY (m+1)=zui (zeY m):=by
 funext a qs l
 rfl
set_option maxRecDepth 20000 in
theorem xtaken:zef 100000000 exaP=[[102],[120],[65],[],[66]]:=by
 unfold zef zk1
 rw[show(100000000:Nat)=99999998+1+1 from rfl,zoP,zoP]
 delta zui zbN
 simp only[znh]
 decide +kernel
def xE:Prog:=
 let r:=exaP.nodes.foldl (fun(q:(List Str×List En)×List Nod) n=>((za4 4 q.1 n).1,q.2++(za4 4 q.1 n).2)) (([[102],[120],[65],[],[66]],exaP.enums),[])
 ⟨r.1.2,r.2⟩
theorem zoA:expF exaP=xE:=by
 unfold expF
 rw[xtaken]
 rfl
set_option maxRecDepth 20000 in
theorem xshape:zbs exaP=((0,0),0)/\(zbs (expF exaP)).2=0:=by
 delta zbs zb3 zqE
 simp only[zsE,zsD]
 delta stE zf5 equE zbY zgg sless
 rw[zoA]
 simp only[znh,zuv,zuO]
 constructor <;> decide +kernel
set_option maxRecDepth 20000 in
theorem xscope:zct exaP=((0,0),0):=by
 unfold zct
 rw[xshape.1]
 delta nodF zcY zte
 simp only[zsH,zsG]
 delta stS equS ziB zo2 zdO
 simp only[zs1]
 decide +kernel
set_option maxRecDepth 20000 in
theorem xtypes:zbd exaP=((0,0),0):=by
 unfold zbd
 rw[xscope]
 show zfI exaP [(exaN,0)]=_
 unfold zfI
 delta nodG zk2 zpW
 simp only[zq2,zq1]
 delta stTy eqnT zcl
 simp only[zuJ]
 decide +kernel
mutual
def twS:T->Nat
 | .v x=>1+strW x
 | .sl _ es=>1+twSs es
 | .ag cs=>1+twSs cs
def twSs:List T->Nat
 | []=>0
 | a::l=>twS a+twSs l
end
theorem tw_S(t:T):t.w=twS t:=by
 have h:∀l:List T,(∀a∈l,a.w=twS a)->(l.map T.w).sum=twSs l:=by
  intro l
  induction l with
  | nil=>intro _;rfl
  | cons a l ih=>intro h;rw[twSs,<-ih fun b hb=>h b (by simp[hb]),<-h a (by simp)];rfl
 match t with
 | .v x=>rw[T.w,twS]
 | .sl _ es=>rw[w_sl,twS,h es fun a ha=>tw_S a]
 | .ag cs=>rw[w_ag,twS,h cs fun a ha=>tw_S a]
decreasing_by
 all_goals
  have:=qa9 ha
  simp;omega
theorem zsW:exT=exTS:=funext ztU
theorem xw:(T.ag (zay exaP)).w≤1000:=by
 rw[tw_S]
 delta zay zax exaP exaN
 simp only[nodT,List.map,zbA,Auto.states,za6,staA,staB,Sta.eqs,Sta.name,Sta.locals,Sta.autos,Sta.unl,Sta.unt,equT,zag,exC,zsW]
 decide +kernel
theorem xw2:(T.ag (zay (expF exaP))).w≤90000000:=by
 rw[tw_S,zoA]
 delta zay zax nodT equT exC
 rw[zsW]
 decide +kernel
theorem zhH{s:List Str×List En}{n:Nod}(ha:n.autos=[])(hl:n.ins.length≤1000/\n.outs.length≤1000/\n.locals.length≤1000/\n.eqs.length≤1000)(hc:∀d∈zaI n,d.clock.length≤100000000):zqU s n:=by
 have hl2:=zrX n
 have hb:(autJ s n n.autos.length).bs=[]:=by rw[ha];rfl
 exact⟨by rw[ha];exact qaU _,zdq n ⟨by omega,by omega,by omega⟩ hc,by omega,by omega,by omega,(fun au h=>by rw[ha]at h;cases h),(fun j hj=>by rw[ha]at hj;exact absurd hj (qcB _)),by rw[hb];exact qaU _⟩
theorem zok(k:Nat){s:List Str×List En}{n:Nod}(ha:n.autos=[])(hl:n.ins.length≤1000/\n.outs.length≤1000/\n.locals.length≤1000/\n.eqs.length≤1000)(hc:∀d∈zaI n,d.clock.length≤100000000):NodX k s n:=by
 have hb:(autJ s n n.autos.length).bs=[]:=by rw[ha];rfl
 cases k with
 | zero=>exact⟨ha,zhH ha hl hc⟩
 | succ k=>
   refine⟨zhH ha hl hc,fun j hj=>?_,?_⟩
   ·rw[hb]at hj
    exact absurd hj (qcB _)
   ·rw[hb]
    exact qaU _
abbrev xs0:List Str×List En:=([[102],[120],[65],[],[66]],[])
theorem xbs:((autJ xs0 exaN 1).bs.length=2/\(autJ xs0 exaN 1).a.length≤100)/\∀b∈(autJ xs0 exaN 1).bs,b.autos.isEmpty=true/\(b.ins.length≤1000/\b.outs.length≤1000/\b.locals.length≤1000/\b.eqs.length≤1000)/\∀d∈zaI b,d.clock.length≤100000000:=by decide +kernel
theorem xbj:(bodJ 3 (autJ xs0 exaN 1) 1).2.length≤1000/\(bodJ 3 (autJ xs0 exaN 1) 2).2.length≤1000:=by decide +kernel
theorem xset:zaE [[102],[120],[65],[],[66]]:=⟨by decide +kernel,by decide +kernel⟩
theorem xnodp:zqU xs0 exaN:=by
 refine⟨by decide,zdq exaN ⟨by decide,by decide,by decide⟩ (by decide),by decide,by decide,by decide,fun au hau=>?_,fun j hj=>?_,by decide +kernel⟩
 ·have hau:=qbq.1 hau
  subst hau
  refine⟨qaF ?_ (qaF xw (by decide)),by decide,by decide,by decide +kernel⟩
  have h1:=zej exaN
  have h2:=zaw (f:=zae) (sz:=1) (l:=exaN.autos) (x:=.mk [staA,staB]) (qbq.2 rfl)
  have h3:=zaw (f:=nodT) (sz:=8) (l:=exaP.nodes) (x:=exaN) (qbq.2 rfl)
  have h4:(T.ag (zay exaP)).w=1+((T.sl 2 (exaP.enums.map enT)).w+((T.sl 8 (exaP.nodes.map nodT)).w+0)):=by rw[w_ag];rfl
  omega
 ·have hj0:j=0:=by have:exaN.autos.length=1:=rfl;omega
  subst hj0
  have h0:(autJ xs0 exaN 0).a.length+((zbB (zaI exaN) (.mk [staA,staB])).length*8+400)≤100000000000000:=by decide +kernel
  exact⟨⟨xset,h0⟩,by decide +kernel,by decide +kernel,by decide +kernel,by decide +kernel⟩
theorem xnod:NodX 4 xs0 exaN:=by
 refine⟨xnodp,fun j hj=>?_,qaF xbj.2 (by decide)⟩
 have hb:=xbs.2 _ (qad hj)
 refine⟨zok 3 (List.isEmpty_iff.1 hb.1) hb.2.1 hb.2.2,?_⟩
 have hl:j<2:=by have h:=xbs.1.1;exact h ▸ hj
 rcases j with _|_|j
 ·exact qaF xbj.1 (by decide)
 ·exact qaF xbj.2 (by decide)
 ·omega
theorem xexp:Pure Tryz.prog 11 [.t (.ag (zay exaP))] (.tup [.t (.ag (zay ⟨(expF exaP).enums,(expF exaP).nodes.map plnN⟩)),.i 0]):=by
 refine zji exaP (qaF xw (by decide)) (by rw[xtypes]) (fun j hj=>?_) (zk6 xw2) _ (fun _=>rfl) (fun h=>absurd xshape.2 h)
 have hj0:j=0:=by have:exaP.nodes.length=1:=rfl;omega
 subst hj0
 have h0:(expJ exaP 0).1=xs0:=by show(zef 100000000 exaP,_)=_;rw[xtaken];rfl
 have h1:expJ exaP 1=((za4 4 xs0 exaN).1,[]++(za4 4 xs0 exaN).2):=by rw[<-h0];rfl
 rw[h0,h1]
 exact⟨xnod,by decide +kernel⟩
end Go.Proofs.YtpnnpgbaiobbjaaGreatDoor
