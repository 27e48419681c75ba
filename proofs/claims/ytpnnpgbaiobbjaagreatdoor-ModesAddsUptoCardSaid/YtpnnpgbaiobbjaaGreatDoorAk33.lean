import Derived.Test.YtpnnpgbaiobbjaaGreatDoorAk32
set_option linter.all false
namespace Go.Proofs.YtpnnpgbaiobbjaaGreatDoor
open Go Go.TL
attribute [local irreducible] TR TO Then zao RetK Sound zab Kf GG zaZ
theorem zgA(l:List T)(hl:l.length≤1000000000):Pure Tryz.prog 76 [.t (.sl 1 l)] (.t (.sl 1 l)):=by
 refine so Tryz.func76 ?_
 repeat' (first|refine wk ?_|fail)
 apply TO.zdy zag (sz:=1)
 iterate 5 exact rfl
 ·exact zwdm
 ·exact zwb
set_option maxHeartbeats 16000000 in
theorem zoR (i:Int) (u:En) (hu:u.tags.length≤1000000000):Pure Tryz.prog 75 [.i i,.t (enT u)] (.t (enT u)):=by
 have cc:=zgA (u.tags.map T.s) (by rw[qaa];exact hu)
 unfold enT
 refine so Tryz.func75 ?_
 repeat' (first|refine zqx ?_|refine TR.region ?_|refine zqi ?_|refine zqh ?_|refine zqj ?_|refine zqg ?_|fail)
 apply TR.zaw 0 (g:=True) [(_,0,0),(_,0,0),(_,0,0),(_,0,0),(_,0,0),(_,0,0),(.any,1,0)] [[.cells [.s [],.t (.v (.slice none 0 0))]],[.cells [.s u.name,.t (.sl 1 (u.tags.map T.s))]]] hmix
 case hB=>exact zqv
 case h0=>exact rfl
 case hp=>
  repeat' (first|exact trivial|exact⟨⟨rfl,rfl⟩,trivial⟩|exact qaf rfl rfl|refine qaf (fun env=>?_) ?_|refine qaf ?_ ?_|refine wma ?_|refine wmv cc ?_|refine wmk ?_|fail)
  done
 case hc=>exact rfl
 case hF=>exact rfl
 case hE=>exact rfl
 intro _
 repeat' (first|refine wkt ?_|refine wk ?_|fail)
 refine RetK.keep 0 rfl (?_:Le _ (.t (.ag [T.s u.name,T.sl 1 (u.tags.map T.s)]))) rfl rfl rfl rfl rfl ⟨rfl,rfl⟩
 exact Le.tree rfl (TLe.refl _)
set_option maxHeartbeats 16000000 in
theorem zoQ (i:Int) (q:Equ) (hq:(equT q).w≤90000000):Pure Tryz.prog 80 [.i i,.t (equT q)] (.t (equT q)):=by
 have h1:q.left.length<(equT q).w/\(T.sl 6 ([q.right].map exT)).w≤(equT q).w+10:=by
  have:=zai T.s 1 q.left
  unfold equT
  simp only[exC,w_ag,qaj,qay,qao,qaI,w_sl,zay]
  simp only[w_sl]at this
  omega
 have cc:=zgA (q.left.map T.s) (by rw[qaa];omega)
 have ce:=zc5 _ [q.right] h1.2 (by omega)
 have hr:[q.right].map exT=[.ag [T.n q.right.kind,T.n q.right.op,T.n q.right.t,T.n q.right.v,.s q.right.name,.sl 6 (q.right.args.map exT)]]:=by rw[qaj,qay,zay];rfl
 rw[hr]at ce
 unfold equT exC
 generalize q.right=e at*
 clear h1 hr hq
 refine so Tryz.func80 ?_
 repeat' (first|refine zqx ?_|refine TR.region ?_|refine zqi ?_|refine zqh ?_|refine zqj ?_|refine zqg ?_|fail)
 apply TR.zaw 0 (g:=True) [(_,0,0),(_,0,0),(_,0,0),(_,0,0),(_,0,0),(_,0,0),(_,0,0),(_,0,0),(_,0,0),(_,0,0),(.any,1,0)] [[.cells [.t (.v (.slice none 0 0)),.i 0,.i 0,.i 0,.i 0,.s [],.t (.v (.slice none 0 0))]],[.cells [.t (.sl 1 (q.left.map T.s)),.t (T.n e.kind),.t (T.n e.op),.t (T.n e.t),.t (T.n e.v),.t (.s e.name),.t (.sl 6 (e.args.map exT))]]] hmix
 case hB=>exact zqv
 case h0=>exact rfl
 case hp=>
  repeat' (first|exact trivial|exact⟨⟨rfl,rfl⟩,trivial⟩|exact qaf rfl rfl|refine qaf (fun env=>?_) ?_|refine qaf ?_ ?_|refine wma ?_|refine wmv cc ?_|refine wmv ce ?_|(apply TO.indexAddr zag;(iterate 8 exact rfl);omega;exact rfl)|refine wmk ?_|fail)
  done
 case hc=>exact rfl
 case hF=>exact rfl
 case hE=>exact rfl
 intro _
 repeat' (first|refine wkt ?_|refine wk ?_|fail)
 refine RetK.keep 0 rfl (?_:Le _ (.t (.ag [T.sl 1 (q.left.map T.s),T.n e.kind,T.n e.op,T.n e.t,T.n e.v,.s e.name,.sl 6 (e.args.map exT)]))) rfl rfl rfl rfl rfl ⟨rfl,rfl⟩
 exact Le.tree rfl (TLe.refl _)
def plnN(n:Nod):Nod:={ n with autos:=[] }
theorem zn5{σ α β:Type}(s:σ)(g:α->β):∀(l:List α) (i:Nat),mapN (fun _ (s:σ) (x:α)=>(s,g x)) i s l=(s,l.map g)
 | [],_=>rfl
 | x::l,i=>by
   have:=zn5 s g l (i+1)
   unfold mapN
   rw[this]
   rfl
theorem zjJ{l:List Decl}{d:Decl}(h:d∈l):d.clock.length<(T.sl 3 (l.map zaa)).w:=by
 have h1:=zav (f:=zaa) (sz:=3) h
 have h2:=zai onT 3 d.clock
 have h3:(T.sl 3 (d.clock.map onT)).w<(zaa d).w:=by
  unfold zaa
  simp only[w_ag,qaj,qay,qao,qaI]
  omega
 omega
set_option maxHeartbeats 16000000 in
theorem zoP (i:Int) (n:Nod) (hn:(nodT n).w≤90000000):Pure Tryz.prog 78 [.i i,.t (nodT n)] (.t (nodT (plnN n))):=by
 have hw:=zdJ n
 have l1:=zai zaa 3 n.ins
 have l2:=zai zaa 3 n.outs
 have l3:=zai zaa 3 n.locals
 have l4:=zai equT 7 n.eqs
 have d1:(zac n.ins)=T.sl 3 (n.ins.map zaa):=rfl
 have d2:(zac n.outs)=T.sl 3 (n.outs.map zaa):=rfl
 have d3:(zac n.locals)=T.sl 3 (n.locals.map zaa):=rfl
 rw[d1,d2,d3]at hw
 have c1:=zeg n.ins (by omega) (fun d hd=>by have:=zjJ hd;omega)
 have c2:=zeg n.outs (by omega) (fun d hd=>by have:=zjJ hd;omega)
 have c3:=zeg n.locals (by omega) (fun d hd=>by have:=zjJ hd;omega)
 have c4:=zc5 _ n.assume (qag _) (by omega)
 have c5:=zc5 _ n.ensure (qag _) (by omega)
 have cq:=zmR (σ:=Unit) (fun _=>[]) 0 (fun _=>rfl) (fun _=>rfl) 80 [] rfl (fun _ s x=>(s,x)) (fun _ _=>True) n.eqs (by omega) (fun i s x hx _=>zoQ i x (by have:=zav (f:=equT) (sz:=7) (qat hx);omega)) (fun _ _ _ _ _=>trivial) () trivial
 rw[zhU]at cq
 dsimp only at cq
 clear hw l1 l2 l3 l4 d1 d2 d3 hn
 unfold nodT
 refine so Tryz.func78 ?_
 repeat' (first|refine zqx ?_|(apply TO.zdv cq;(iterate 3 exact rfl);exact zqb;exact rfl)|refine TR.region ?_|refine zqi ?_|refine zqh ?_|refine zqj ?_|refine zqg ?_|fail)
 refine TR.own 5 rfl ?_
 apply TR.zaw 0 (g:=True) [(_,0,0),(_,0,0),(_,0,0),(_,0,0),(_,0,0),(_,0,0),(_,0,0),(_,0,0),(_,0,0),(_,0,0),(_,0,0),(_,0,0),(_,0,0),(_,0,0),(_,0,0),(_,0,0),(_,0,0),(_,0,0),(_,0,0),(.any,1,0)] [[.cells [.s [],.t (.v (.slice none 0 0)),.t (.v (.slice none 0 0)),.t (.v (.slice none 0 0)),.t (.v (.slice none 0 0)),.t (.v (.slice none 0 0)),.t (.v (.slice none 0 0)),.t (.v (.slice none 0 0))],.tail n.eqs.length],[.cells [.s n.name,.t (.sl 3 (n.ins.map zaa)),.t (.sl 3 (n.outs.map zaa)),.t (.sl 3 (n.locals.map zaa)),.t (.sl 7 (n.eqs.map equT)),.t (.v (.slice none 0 0)),.t (.sl 6 (n.assume.map exT)),.t (.sl 6 (n.ensure.map exT))],.tail n.eqs.length]] hmix
 case hB=>exact zqv
 case h0=>exact rfl
 case hp=>
  repeat' (first|exact trivial|exact⟨⟨rfl,rfl⟩,trivial⟩|exact qaf rfl rfl|refine qaf (fun env=>?_) ?_|refine qaf ?_ ?_|refine wma ?_|refine wmv c1 ?_|refine wmv c2 ?_|refine wmv c3 ?_|refine wmv c4 ?_|refine wmv c5 ?_|refine wmk ?_|fail)
  done
 case hc=>exact rfl
 case hF=>exact rfl
 case hE=>exact rfl
 intro _
 repeat' (first|refine wkt ?_|refine wk ?_|fail)
 refine RetK.keep 0 rfl (?_:Le _ (.t (.ag [.s n.name,T.sl 3 (n.ins.map zaa),T.sl 3 (n.outs.map zaa),T.sl 3 (n.locals.map zaa),T.sl 7 (n.eqs.map equT),T.sl 1 [],T.sl 6 (n.assume.map exT),T.sl 6 (n.ensure.map exT)]))) rfl rfl rfl rfl rfl ⟨rfl,rfl⟩
 exact zqb
set_option maxHeartbeats 16000000 in
theorem zkQ (p:Prog) (hp:ziV p 90000000):Pure Tryz.prog 30 [.t (.ag (zax p))] (.t (.ag (zax ⟨p.enums,p.nodes.map plnN⟩))):=by
 have l1:=hp.es
 have l2:=hp.ns
 have cu:=zmU (σ:=Unit) (fun _=>[]) 0 (fun _=>rfl) (fun _=>rfl) 75 [] rfl (fun _ s x=>(s,x)) (fun _ _=>True) p.enums (by omega) (fun i s x hx _=>zoR i x (by have:=hp.tg _ (qat hx);omega)) (fun _ _ _ _ _=>trivial) () trivial
 have cn:=zmQ (σ:=Unit) (fun _=>[]) 0 (fun _=>rfl) (fun _=>rfl) 78 [] rfl (fun _ s x=>(s,plnN x)) (fun _ _=>True) p.nodes (by omega) (fun i s x hx _=>zoP i x (hp.nd _ (qat hx))) (fun _ _ _ _ _=>trivial) () trivial
 rw[zhU]at cu
 rw[zn5]at cn
 dsimp only at cu cn
 clear l1 l2 hp
 unfold zax
 refine so Tryz.func30 ?_
 repeat' (first|refine TR.forget 1 0 rfl rfl rfl ?_|refine TR.forget 1 1 rfl rfl rfl ?_|refine zqx ?_|(apply TO.zdv cu;(iterate 3 exact rfl);exact zqb;exact rfl)|(apply TO.zdv cn;(iterate 3 exact rfl);exact zqb;exact rfl)|refine TR.region ?_|refine zqi ?_|refine zqh ?_|refine zqj ?_|refine zqg ?_|fail)
 refine RetK.keep 0 rfl (?_:Le _ (.t (.ag [.sl 2 (p.enums.map enT),.sl 8 ((p.nodes.map plnN).map nodT)]))) rfl rfl rfl rfl rfl ⟨rfl,rfl⟩
 exact zqb
abbrev yH (a:List Str)(es:List T):Heap:=[setB a,.cells [.mp 2,.fn 66 [.ref 4 0]],.cells [.ref 3 0],.tail es.length,.cells [.ref 3 0,.sl 2 es 5]]
theorem zuE(r q:Blk)(a:List Str)(es:List T)(t:Heap):Hands (r::q::(yH a es++t)) [2,3,4,5,6] (xH a es):=by
 refine⟨by decide,by simp,rfl,fun j i c hj hc=>?_,fun j c hc=>?_⟩
 ·rcases j with _|_|_|_|_|j
  ·simp[xH]at hj hc;subst hj hc;rfl
  ·simp[xH]at hj hc;subst hj hc;rfl
  ·simp[xH]at hj hc;subst hj hc;rfl
  ·simp[xH]at hj hc;subst hj hc;rfl
  ·simp[xH]at hj hc;subst hj hc;rfl
  ·simp at hj
 ·rcases j with _|_|_|_|_|j
  ·simp[xH]at hc;subst hc;rfl
  ·simp[xH]at hc;subst hc;rfl
  ·simp[xH]at hc;subst hc;rfl
  ·simp[xH]at hc;subst hc;rfl
  ·simp[xH]at hc;subst hc;rfl
  ·simp[xH]at hc
section rules
variable {n:Nat}{env:Env}{K:TK}{all:Array Oper}{rest:List Oper}{d:Nat}{ty:TypeId}{pos:String}{aft:Array Edge}
theorem TO.ndC{r q:Blk}{t:Heap}{k:Nat}{s:List Str×List En}{m:Nod}{vs:List SV}{f:Operand}{args:Array Operand}{ts:Array TypeId}(hs:NodC k s m)(hd:Nat.ble (d+1) n=true)(hf:env.val f=some (.fn 28 []))(ha:env.vals args.toList=some vs)
  (hl:Les (vs++[]) [.ref 6 0,.t (nodT m)])
  (k:TO false Tryz.prog n all rest ((d,.t (.sl 8 ((zaG k s m).2.map nodT)))::env) (r::q::(yH (zaG k s m).1.1 ((zaG k s m).1.2.map enT)++t)) K):
  TO false Tryz.prog n all (⟨some d,.call { callee:=.value f,args:=args,argTypes:=ts },ty,pos,aft,none⟩::rest) env (r::q::(yH s.1 (s.2.map enT)++t)) K:=
 TO.zpN [2,3,4,5,6] (v':=.t (.sl 8 ((zaG _ s m).2.map nodT))) (H':=r::q::(yH (zaG _ s m).1.1 ((zaG _ s m).1.2.map enT)++t)) hs hd hf ha hl rfl (zuE r q s.1 (s.2.map enT) t) rfl (by simp[patch,yH,xH];exact⟨rfl,rfl,rfl,rfl,rfl⟩) k
end rules
def expJ(p:Prog)(j:Nat):(List Str×List En)×List Nod:=(p.nodes.take j).foldl (fun(q:(List Str×List En)×List Nod) n=>((zaG 4 q.1 n).1,q.2++(zaG 4 q.1 n).2)) ((zcg 100000000 p,p.enums),[])
set_option maxHeartbeats 16000000 in
theorem zfw (p:Prog) (hw:(T.ag (zax p)).w≤80000000) (hc:(zaN p).2=0) (hN:∀j (h:j<p.nodes.length),NodX 4 (expJ p j).1 p.nodes[j]/\(expJ p (j+1)).2.length≤1000000000) (hx:ziV (expF p) 90000000) (v:SV) (h1:(zba (expF p)).2=0->v= .tup [.t (.ag (zax ⟨(expF p).enums,(expF p).nodes.map plnN⟩)),.i 0]) (h2:(zba (expF p)).2≠0->v= .tup [.t (.ag [.sl 2 [],.sl 8 []]),.i 3]):Pure Tryz.prog 11 [.t (.ag (zax p))] v:=by
 have ct:=zgP p (by omega)
 have ca:=zh4 p (by omega)
 have hl:p.nodes.length≤80000000/\p.enums.length≤80000000:=by
  have h1:=zai nodT 8 p.nodes
  have h2:=zai enT 2 p.enums
  have hc0:zax p=[.sl 2 (p.enums.map enT),.sl 8 (p.nodes.map nodT)]:=rfl
  rw[hc0,w_ag]at hw
  exact zwev
 obtain⟨hlN,hlE⟩:=hl
 have cu:=zkM (p.enums.map enT) (by rw[qaa];omega)
 rw[hc]at ct
 have hJn:∀j (h:j<p.nodes.length),expJ p (j+1)=((zaG 4 (expJ p j).1 p.nodes[j]).1,(expJ p j).2++(zaG 4 (expJ p j).1 p.nodes[j]).2):=fun j h=>zau (fun(q:(List Str×List En)×List Nod) n=>((zaG 4 q.1 n).1,q.2++(zaG 4 q.1 n).2)) _ h
 have hJ0:expJ p 0=((zcg 100000000 p,p.enums),[]):=rfl
 have hmN:(p.nodes.map nodT).length=p.nodes.length:=qaa _
 unfold zax at ct ca⊢
 refine so Tryz.func11 ?_
 repeat' (first|refine zqx ?_|(apply TO.zaE 0 ct;(iterate 3 exact rfl);exact zqb;(iterate 8 exact rfl))|refine TR.region ?_|refine zqi ?_|refine zqh ?_|refine zqj ?_|refine zqg ?_|fail)
 refine wk2 (fun hc=>absurd rfl hc) (fun _=>?_)
 repeat' (first|refine zqx ?_|refine TR.region ?_|refine zqi ?_|refine zqh ?_|refine zqj ?_|refine zqg ?_|fail)
 apply TR.zaw 0 (g:=True) [(_,0,0),(_,1,0),(_,0,1),(_,0,1),(_,1,0),(_,2,2),(_,1,0),(_,3,3)] [[.cells [.t (.v (.slice none 0 0)),.t (.v (.slice none 0 0))],.cells [.t (T.i (zaN p).1.1),.t (T.i (zaN p).1.2)]],[.cells [.t (.v (.slice none 0 0)),.t (.v (.slice none 0 0))],.cells [.t (T.i (zaN p).1.1),.t (T.i (zaN p).1.2)],setB (zcg 100000000 p),.cells [.mp 2,.fn 66 [.ref 4 0]],.cells [.ref 3 0]],[.cells [.t (.v (.slice none 0 0)),.t (.v (.slice none 0 0))],.cells [.t (T.i (zaN p).1.1),.t (T.i (zaN p).1.2)],setB (zcg 100000000 p),.cells [.mp 2,.fn 66 [.ref 4 0]],.cells [.ref 3 0],.tail (p.enums.map enT).length],[.cells [.t (.v (.slice none 0 0)),.t (.v (.slice none 0 0))],.cells [.t (T.i (zaN p).1.1),.t (T.i (zaN p).1.2)],setB (zcg 100000000 p),.cells [.mp 2,.fn 66 [.ref 4 0]],.cells [.ref 3 0],.tail (p.enums.map enT).length,.cells [.ref 3 0,.sl 2 (p.enums.map enT) 5]]] hmix
 case hB=>exact zqv
 case h0=>exact rfl
 case hp=>
  repeat' (first|exact trivial|exact⟨⟨rfl,rfl⟩,trivial⟩|exact qaf rfl rfl|refine qaf (fun env=>?_) ?_|refine qaf ?_ ?_|refine wma ?_|(apply TO.zpN [] ca;(iterate 3 exact rfl);exact zqb;exact rfl;exact zgd _;exact rfl;exact rfl)|(apply TO.zdv cu;(iterate 3 exact rfl);exact zqb;exact rfl)|(apply TO.box;(iterate 4 exact rfl))|refine wmk ?_|fail)
  done
 case hc=>exact rfl
 case hF=>exact rfl
 case hE=>exact rfl
 intro _
 repeat' (first|refine wkt ?_|refine zqx ?_|fail)
 refine TR.zcA 8 7 1 rfl rfl rfl ?_
 refine TR.zal p.nodes.length (fun _=>True) (fun j=>[(1,.cp [.sl 2 (p.enums.map enT),zaC p.nodes] 0),(2,.ref 0 0),(6,.ref 6 0),(7,.ref 7 0),(29,.t (zaC p.nodes)),(30,.i p.nodes.length),(31,.i j)]) (fun j=>.cells [.t (.v (.slice none 0 0)),.t (.v (.slice none 0 0))]:: .cells [.t (T.i (zaN p).1.1),.t (T.i (zaN p).1.2)]::(yH (expJ p j).1.1 ((expJ p j).1.2.map enT)++[.cells [.t (.v (.slice none 0 0)),.sl 8 ((expJ p j).2.map nodT) 8],.tail ((expJ p j).2.map nodT).length])) trivial (fun j hlt _=>?_) (fun _=>?_) ⟨rfl,rfl,rfl,rfl,rfl,by rw[<-hmN];rfl,rfl,trivial⟩ (by(try dsimp only);rw[hJ0];rfl)
 ·have hx1:=zar nodT hlt
  have hn:=hJn j hlt
  obtain⟨ci,ti⟩:=hN j hlt
  have cn:=zh6 4 _ _ ci
  rw[hn]at ti
  clear hJn hN hJ0 hx ct ca cu ci h1 h2
  generalize expJ p j=q at*
  obtain⟨⟨a1,es1⟩,bs1⟩:=q
  dsimp only at cn ti hn⊢
  rw[qae]at ti
  have hbT:nodT p.nodes[j]= .ag [.s p.nodes[j].name,zac p.nodes[j].ins,zac p.nodes[j].outs,zac p.nodes[j].locals,.sl 7 (p.nodes[j].eqs.map equT),.sl 1 (p.nodes[j].autos.map zae),.sl 6 (p.nodes[j].assume.map exT),.sl 6 (p.nodes[j].ensure.map exT)]:=rfl
  rw[hbT]at hx1
  clear hbT
  generalize p.nodes[j]=n at*
  have m1:(bs1.map nodT).length=bs1.length:=qaa _
  have m2:((zaG 4 (a1,es1) n).2.map nodT).length=(zaG 4 (a1,es1) n).2.length:=qaa _
  repeat' (first|refine wkt ?_|(apply TO.indexAddr zag;(iterate 8 exact rfl);omega;exact hx1)|refine zqx ?_|refine zab.exit ?_|exact wkc|intro hc|refine wk2 ?_ ?_|fail)
  apply TR.zaw 0 (g:=True) [(_,0,1),(_,0,1),(_,0,0),(_,0,0),(_,1,0),(_,1,0),(_,2,2),(.any,1,0)] [.cells [.t (.v (.slice none 0 0)),.t (.v (.slice none 0 0))]:: .cells [.t (T.i (zaN p).1.1),.t (T.i (zaN p).1.2)]::(yH a1 (es1.map enT)++[.cells [.t (.v (.slice none 0 0)),.sl 8 (bs1.map nodT) 8],.tail (bs1.map nodT).length]),.cells [.t (.v (.slice none 0 0)),.t (.v (.slice none 0 0))]:: .cells [.t (T.i (zaN p).1.1),.t (T.i (zaN p).1.2)]::(yH (zaG 4 (a1,es1) n).1.1 ((zaG 4 (a1,es1) n).1.2.map enT)++[.cells [.t (.v (.slice none 0 0)),.sl 8 (bs1.map nodT) 8],.tail (bs1.map nodT).length]),.cells [.t (.v (.slice none 0 0)),.t (.v (.slice none 0 0))]:: .cells [.t (T.i (zaN p).1.1),.t (T.i (zaN p).1.2)]::(yH (zaG 4 (a1,es1) n).1.1 ((zaG 4 (a1,es1) n).1.2.map enT)++[.cells [.t (.v (.slice none 0 0)),.sl 8 (bs1.map nodT) 8],.tail ((bs1.map nodT).length+((zaG 4 (a1,es1) n).2.map nodT).length)]),.cells [.t (.v (.slice none 0 0)),.t (.v (.slice none 0 0))]:: .cells [.t (T.i (zaN p).1.1),.t (T.i (zaN p).1.2)]::(yH (zaG 4 (a1,es1) n).1.1 ((zaG 4 (a1,es1) n).1.2.map enT)++[.cells [.t (.v (.slice none 0 0)),.sl 8 (bs1.map nodT++(zaG 4 (a1,es1) n).2.map nodT) 8],.tail ((bs1.map nodT).length+((zaG 4 (a1,es1) n).2.map nodT).length)])] hmix
  case hB=>exact zqv
  case h0=>exact rfl
  case hp=>
   repeat' (first|exact trivial|exact⟨⟨rfl,rfl⟩,trivial⟩|exact qaf rfl rfl|refine qaf (fun env=>?_) ?_|refine qaf ?_ ?_|refine wma ?_|(apply TO.ndC cn;(iterate 3 exact rfl);exact zqb)|(apply TO.zbb zag;(iterate 13 exact rfl);exact zqn;exact rfl)|refine wmk ?_|fail)
   done
  case hc=>exact rfl
  case hF=>exact rfl
  case hE=>exact rfl
  intro _
  repeat' (first|refine wkt ?_|refine zab.exit ?_|exact wkc|intro hc|refine wk2 ?_ ?_|refine wk ?_|fail)
  exact zab.zat hlt trivial (by(try dsimp only);exact⟨rfl,rfl,rfl,rfl,rfl,rfl,rfl,trivial⟩) (by(try dsimp only);rw[hn];dsimp only;rw[qal (l₁:=bs1),qae])
 have hnf:expF p=⟨(expJ p p.nodes.length).1.2,(expJ p p.nodes.length).2⟩:=by
  unfold expJ
  rw[qah]
  rfl
 rw[hnf]at hx h1 h2
 clear hnf hJn hN hJ0 ct ca cu
 generalize expJ p p.nodes.length=q at*
 obtain⟨⟨a1,es1⟩,bs1⟩:=q
 dsimp only at hx h1 h2
 have csh:=zgL ⟨es1,bs1⟩ ⟨qaE hx.es (by decide),fun u hu=>qaE (hx.tg u hu) (by decide),qaE hx.ns (by decide),fun n hn=>qaE (hx.nd n hn) (by decide)⟩
 have cc:=zkQ ⟨es1,bs1⟩ hx
 generalize zba ⟨es1,bs1⟩=sx at*
 obtain⟨⟨sx1,sx2⟩,sx3⟩:=sx
 dsimp only at csh h1 h2
 unfold zax zaC at csh cc
 dsimp only at csh cc
 refine TR.forget 6 1 rfl rfl rfl ?_
 refine TR.forget 7 1 rfl rfl rfl ?_
 repeat' (first|refine wkt ?_|refine zab.exit ?_|exact wkc|intro hc|refine wk2 ?_ ?_|fail)
 repeat' (first|refine zqx ?_|(apply TO.zaE 0 csh;(iterate 3 exact rfl);exact zqb;(iterate 8 exact rfl))|refine TR.region ?_|refine zqi ?_|refine zqh ?_|refine zqj ?_|refine zqg ?_|fail)
 refine wk2 (fun hc=>?_) (fun hc=>?_)
 ·rw[h2 hc]
  repeat' (first|refine wkt ?_|refine wk ?_|fail)
  refine RetK.keep 0 rfl (?_:Le _ (.tup [.t (.ag [.sl 2 [],.sl 8 []]),.i 3])) rfl rfl rfl rfl rfl ⟨rfl,rfl⟩
  refine Le.tup ⟨Le.zrU rfl ?_,Le.refl _,trivial⟩
  repeat' (first|exact trivial|exact TLs.refl _|exact TLs.nil _|refine TLs.agL ?_|refine TLs.slL ?_|refine qaf ?_ ?_|fail)
 have hc0:sx3=0:=qav fun h=>hc h
 rw[h1 hc0]
 repeat' (first|refine zqx ?_|(apply TO.zaE 0 cc;(iterate 3 exact rfl);exact zqb;(iterate 8 exact rfl))|refine TR.region ?_|refine zqi ?_|refine zqh ?_|refine zqj ?_|refine zqg ?_|fail)
 refine RetK.keep 0 rfl (?_:Le _ (.tup [.t (.ag [.sl 2 (es1.map enT),zaC (bs1.map plnN)]),.i 0])) rfl rfl rfl rfl rfl ⟨rfl,rfl⟩
 exact Le.tup ⟨Le.tree rfl (TLe.refl _),Le.refl _,trivial⟩
theorem zmA(p:Prog)(hw:(T.ag (zax p)).w≤80000000)(hc:(zaN p).2≠0):Pure Tryz.prog 11 [.t (.ag (zax p))] (.tup [.t (.ag [.sl 2 [],.sl 8 []]),.i (zaN p).2]):=by
 have ct:=zgP p (by omega)
 generalize zaN p=tx at*
 obtain⟨⟨t1,t2⟩,t3⟩:=tx
 dsimp only at ct hc⊢
 unfold zax at ct⊢
 refine so Tryz.func11 ?_
 repeat' (first|refine zqx ?_|(apply TO.zaE 0 ct;(iterate 3 exact rfl);exact zqb;(iterate 8 exact rfl))|refine TR.region ?_|refine zqi ?_|refine zqh ?_|refine zqj ?_|refine zqg ?_|fail)
 repeat' (first|refine wkt ?_|fail)
 refine wk2 (fun _=>?_) (fun hd=>?_)
 rotate_left
 ·exact absurd (show t3=0 by simpa using hd) hc
 repeat' (first|refine wkt ?_|refine wk ?_|fail)
 refine RetK.keep 0 rfl (?_:Le _ (.tup [.t (.ag [.sl 2 [],.sl 8 []]),.i t3])) rfl rfl rfl rfl rfl ⟨rfl,rfl⟩
 refine Le.tup ⟨Le.zrU rfl ?_,Le.refl _,trivial⟩
 repeat' (first|exact trivial|exact TLs.refl _|exact TLs.nil _|refine TLs.agL ?_|refine TLs.slL ?_|refine qaf ?_ ?_|fail)
end Go.Proofs.YtpnnpgbaiobbjaaGreatDoor
