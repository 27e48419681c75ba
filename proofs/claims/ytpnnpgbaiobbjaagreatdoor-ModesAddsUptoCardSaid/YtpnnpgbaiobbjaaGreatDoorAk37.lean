import Derived.Test.YtpnnpgbaiobbjaaGreatDoorAk36
set_option linter.all false
namespace Go.Proofs.YtpnnpgbaiobbjaaGreatDoor
open Go Go.TL
attribute [local irreducible] TR TO Then zao RetK Sound zab Kf GG zaZ
theorem zlE:Pure Tryz.prog 38 [.t (.sl 1 []),.t (.sl 1 [])] (.b true):=by
 refine so Tryz.func38 ?_
 repeat' (first|refine wkt ?_|exact wkc|(intro hc;exact absurd rfl hc)|intro hc|refine wk2 ?_ ?_|(apply TO.want;exact rfl)|fail)
 refine TR.zal 0 (fun _=>True) (fun k=>[(0,.t (.sl 1 [])),(1,.t (.sl 1 [])),(5,.i k)]) (fun _=>[]) trivial (fun k hlt _=>absurd hlt (qbC _)) (fun _=>?_)
 repeat' (first|refine wkt ?_|refine zab.exit ?_|exact wkc|(intro hc;exact absurd rfl hc)|intro hc|refine wk2 ?_ ?_|refine wk ?_|fail)
 exact wkr
theorem zdw{l:List Decl}(h:(zac l).w≤100000000):l.length≤1000000000/\∀d∈l,d.clock.length≤1000000000/\∀o∈d.clock,o.name.length≤1000000000:=by
 have h1:=zai zaa 3 l
 have h2:(zac l).w=(T.sl 3 (l.map zaa)).w:=rfl
 refine⟨by omega,fun d hd=>?_⟩
 have h3:=(za2 hd).2
 have h4:=zai onT 3 d.clock
 exact⟨by omega,fun o ho=>by have:=zrf ho;omega⟩
set_option maxHeartbeats 16000000 in
theorem zm7 (p:Prog) (hp:ziV p 90000000) (hA:∀n∈p.nodes,n.autos=[]):Pure Tryz.prog 13 [.t (.ag (zax p)),.t (.ag (zax p))] (.b true):=by
 have hme:(p.enums.map enT).length=p.enums.length:=qaa _
 have hmn:(p.nodes.map nodT).length=p.nodes.length:=qaa _
 have b1:=hp.es
 have b2:=hp.ns
 have btg:=hp.tg
 have bnd:=hp.nd
 unfold zax
 refine so Tryz.func13 ?_
 repeat' (first|refine wkt ?_|exact wkc|(intro hc;exact absurd rfl hc)|intro hc|refine wk2 ?_ ?_|(apply TO.want;exact rfl)|fail)
 refine TR.zal p.enums.length (fun _=>True) (fun k=>[(2,.cp [.sl 2 (p.enums.map enT),zaC p.nodes] 0),(3,.cp [.sl 2 (p.enums.map enT),zaC p.nodes] 0),(5,.i k)]) (fun _=>[]) trivial (fun k hlt _=>?_) (fun _=>?_)
 ·have hx:=zar enT hlt
  have hs:=zid p.enums[k].tags (by have:=btg _ (qad hlt);omega)
  clear bnd btg hA
  unfold enT at hx
  generalize p.enums[k]=u at*
  repeat' (first|refine wkt ?_|exact wkc|(intro hc;exact absurd rfl hc)|intro hc|refine wk2 ?_ ?_|(apply TO.want;exact rfl)|fail)
  apply TR.zaw 0 (g:=True) [(_,0,0),(_,0,0),(_,0,0),(_,0,0),(_,0,0),(_,0,0),(_,0,0),(_,0,0),(_,0,0),(_,0,0),(_,0,0),(_,0,0),(_,0,0),(_,0,0),(_,0,0),(_,0,0),(_,0,0),(_,0,0),(_,0,0),(_,0,0),(_,0,0),(_,0,0),(_,0,0),(_,0,0),(_,0,0),(_,0,0),(_,0,0),(_,0,0),(_,0,0)] [[]] hmix
  case hB=>exact zqv
  case h0=>exact rfl
  case hp=>
   repeat' (first|exact trivial|exact⟨⟨rfl,rfl⟩,trivial⟩|exact qaf rfl rfl|refine qaf (fun env=>?_) ?_|refine qaf ?_ ?_|refine wma ?_|(apply TO.indexAddr zag;(iterate 8 exact rfl);omega;exact hx)|refine wmv hs ?_|(apply TO.sne';(iterate 3 exact rfl);(intro hc;exact absurd rfl hc);intro _)|(apply TO.cne;(iterate 3 exact rfl);(intro hc;exact absurd rfl hc);intro _)|refine wmk ?_|fail)
   done
  case hc=>exact rfl
  case hF=>exact rfl
  case hE=>exact rfl
  intro _
  repeat' (first|refine wkt ?_|refine zab.exit ?_|exact wkc|(intro hc;exact absurd rfl hc)|intro hc|refine wk2 ?_ ?_|refine wk ?_|fail)
  exact zab.zat hlt trivial
 ·clear btg
  repeat' (first|refine wkt ?_|refine zab.exit ?_|exact wkc|(intro hc;exact absurd rfl hc)|intro hc|refine wk2 ?_ ?_|refine wk ?_|fail)
  refine TR.zal p.nodes.length (fun _=>True) (fun k=>[(2,.cp [.sl 2 (p.enums.map enT),zaC p.nodes] 0),(3,.cp [.sl 2 (p.enums.map enT),zaC p.nodes] 0),(6,.i k)]) (fun _=>[]) trivial (fun k hlt _=>?_) (fun _=>?_)
  ·have hx:=zeV hlt
   have hw:=bnd _ (qad hlt)
   have ha:=hA _ (qad hlt)
   clear bnd hA
   generalize p.nodes[k]=n at*
   have hwn:=zdJ n
   unfold nodC at hx
   rw[ha]at hx hwn
   have i1:=zfa n.ins (zdw (by omega)).1 (zdw (by omega)).2
   have i2:=zfa n.outs (zdw (by omega)).1 (zdw (by omega)).2
   have i3:=zfa n.locals (zdw (by omega)).1 (zdw (by omega)).2
   have q1:=zk1 (l:=n.eqs) (by omega)
   have i4:=zm8 n.eqs (by omega) (fun q hq=>by
    have h1:=q1.2 q hq
    have h2:=(zjc hq).2.1
    have h3:=zdI q.right
    rw[qaa]at h1
    exact⟨by omega,by omega⟩)
   have q2:=zoY (l:=n.assume) (by omega)
   have q3:=zoY (l:=n.ensure) (by omega)
   have i5:=zie n.assume (by omega) q2.2
   have i6:=zie n.ensure (by omega) q3.2
   have i7:=zlE
   simp only[qay]at hx
   repeat' (first|refine wkt ?_|exact wkc|(intro hc;exact absurd rfl hc)|intro hc|refine wk2 ?_ ?_|(apply TO.want;exact rfl)|fail)
   apply TR.zrt 10 11 12 13 (HA:=[.cells [.s [],.t (.v (.slice none 0 0)),.t (.v (.slice none 0 0)),.t (.v (.slice none 0 0)),.t (.v (.slice none 0 0)),.t (.v (.slice none 0 0)),.t (.v (.slice none 0 0)),.t (.v (.slice none 0 0))]]) (HB:=[.cells [.s [],.t (.v (.slice none 0 0)),.t (.v (.slice none 0 0)),.t (.v (.slice none 0 0)),.t (.v (.slice none 0 0)),.t (.v (.slice none 0 0)),.t (.v (.slice none 0 0)),.t (.v (.slice none 0 0))]]) (H1:=[.cells [.s [],.t (.v (.slice none 0 0)),.t (.v (.slice none 0 0)),.t (.v (.slice none 0 0)),.t (.v (.slice none 0 0)),.t (.v (.slice none 0 0)),.t (.v (.slice none 0 0)),.t (.v (.slice none 0 0))],.cells [.s [],.t (.v (.slice none 0 0)),.t (.v (.slice none 0 0)),.t (.v (.slice none 0 0)),.t (.v (.slice none 0 0)),.t (.v (.slice none 0 0)),.t (.v (.slice none 0 0)),.t (.v (.slice none 0 0))]]) (H2:=[.cells [.s [],.t (.v (.slice none 0 0)),.t (.v (.slice none 0 0)),.t (.v (.slice none 0 0)),.t (.v (.slice none 0 0)),.t (.v (.slice none 0 0)),.t (.v (.slice none 0 0)),.t (.v (.slice none 0 0))],.cells [.s [],.t (.v (.slice none 0 0)),.t (.v (.slice none 0 0)),.t (.v (.slice none 0 0)),.t (.v (.slice none 0 0)),.t (.v (.slice none 0 0)),.t (.v (.slice none 0 0)),.t (.v (.slice none 0 0))]]) (C1:=[.cells [.t (.s n.name),.t (zac n.ins),.t (zac n.outs),.t (zac n.locals),.t (.sl 7 (n.eqs.map equT)),.t (.sl 1 []),.t (.sl 6 (n.assume.map exT)),.t (.sl 6 (n.ensure.map exT))],.cells [.s [],.t (.v (.slice none 0 0)),.t (.v (.slice none 0 0)),.t (.v (.slice none 0 0)),.t (.v (.slice none 0 0)),.t (.v (.slice none 0 0)),.t (.v (.slice none 0 0)),.t (.v (.slice none 0 0))]]) (C2:=[.cells [.s [],.t (.v (.slice none 0 0)),.t (.v (.slice none 0 0)),.t (.v (.slice none 0 0)),.t (.v (.slice none 0 0)),.t (.v (.slice none 0 0)),.t (.v (.slice none 0 0)),.t (.v (.slice none 0 0))],.cells [.t (.s n.name),.t (zac n.ins),.t (zac n.outs),.t (zac n.locals),.t (.sl 7 (n.eqs.map equT)),.t (.sl 1 []),.t (.sl 6 (n.assume.map exT)),.t (.sl 6 (n.ensure.map exT))]]) (F1:=[.cells [.t (.s n.name),.t (zac n.ins),.t (zac n.outs),.t (zac n.locals),.t (.sl 7 (n.eqs.map equT)),.t (.sl 1 []),.t (.sl 6 (n.assume.map exT)),.t (.sl 6 (n.ensure.map exT))],.cells [.t (.s n.name),.t (zac n.ins),.t (zac n.outs),.t (zac n.locals),.t (.sl 7 (n.eqs.map equT)),.t (.sl 1 []),.t (.sl 6 (n.assume.map exT)),.t (.sl 6 (n.ensure.map exT))]]) (F2:=[.cells [.t (.s n.name),.t (zac n.ins),.t (zac n.outs),.t (zac n.locals),.t (.sl 7 (n.eqs.map equT)),.t (.sl 1 []),.t (.sl 6 (n.assume.map exT)),.t (.sl 6 (n.ensure.map exT))],.cells [.t (.s n.name),.t (zac n.ins),.t (zac n.outs),.t (zac n.locals),.t (.sl 7 (n.eqs.map equT)),.t (.sl 1 []),.t (.sl 6 (n.assume.map exT)),.t (.sl 6 (n.ensure.map exT))]]) [_,_,_,_,_,_,_,_,_,_,_,_,.any,.any] [_,_,_,_,_,_,_,_,_,_,_,_,.any,.any] hmix
   case hB=>(dsimp only[List.length];decide +kernel)
   case hp=>
    repeat' (first|exact trivial|exact⟨⟨rfl,rfl⟩,trivial⟩|exact qaf rfl rfl|refine qaf (fun env=>?_) ?_|refine qaf ?_ ?_|refine wma ?_|(apply TO.alloc zag;(iterate 3 exact rfl))|(apply TO.indexAddr zag;(iterate 8 exact rfl);omega;exact hx)|refine wmk ?_|intro env|fail)
    all_goals exact rfl
   case hE1=>exact rfl
   case hE2=>exact rfl
   case hK1=>
    repeat' (first|refine wkt ?_|refine wv i1 ?_|refine wv i2 ?_|refine wv i3 ?_|refine wv i4 ?_|refine wv i5 ?_|refine wv i6 ?_|refine wv i7 ?_|refine zab.exit ?_|exact wkc|(intro hc;exact absurd rfl hc)|intro hc|(apply TO.want;exact rfl)|refine wk2 ?_ ?_|refine wk ?_|fail)
    exact zab.ziJ 0 hlt trivial rfl rfl rfl rfl rfl ⟨rfl,rfl,rfl,trivial⟩
   case hK2=>
    repeat' (first|refine wkt ?_|refine wv i1 ?_|refine wv i2 ?_|refine wv i3 ?_|refine wv i4 ?_|refine wv i5 ?_|refine wv i6 ?_|refine wv i7 ?_|refine zab.exit ?_|exact wkc|(intro hc;exact absurd rfl hc)|intro hc|(apply TO.want;exact rfl)|refine wk2 ?_ ?_|refine wk ?_|fail)
    exact zab.ziJ 0 hlt trivial rfl rfl rfl rfl rfl ⟨rfl,rfl,rfl,trivial⟩
  ·repeat' (first|refine wkt ?_|refine zab.exit ?_|exact wkc|(intro hc;exact absurd rfl hc)|intro hc|refine wk2 ?_ ?_|refine wk ?_|fail)
   exact wkr
mutual
def zmB:Ex->List Ex
 | .mk k o t v n l=>.mk k o t v n l::zjf l
def zjf:List Ex->List Ex
 | []=>[]
 | a::l=>zmB a++zjf l
end
mutual
def depS:Ex->Int
 | .mk _ _ _ _ _ l=>zsD l 0+1
def zsD:List Ex->Int->Int
 | [],a=>a
 | x::l,a=>zsD l (max a (depS x))
end
mutual
def resS (w:Plc):Ex->Bool->List Int×Int
 | .mk k o t v n l,b=>if(heads (zpl w l)).2≠0 then([],(heads (zpl w l)).2) else zqU w (.mk k o t v n l) (heads (zpl w l)).1 b
def zpl (w:Plc):List Ex->List (List Int×Int)
 | []=>[]
 | a::l=>resS w a true::zpl w l
end
theorem znH:∀(m:Nat) (e:Ex),wEx e≤m->flat e=zmB e/\za0 e=depS e/\∀w b,resT w b e=resS w e b
 | 0,e,h=>by have:=zcn e;omega
 | m+1,.mk k o t v n l,h=>by
   have ih:∀a∈l,flat a=zmB a/\za0 a=depS a/\∀w b,resT w b a=resS w a b:=fun a ha=>znH m a (by have:=zbP (e:=.mk k o t v n l) (x:=a) ha;omega)
   have h1:∀l:List Ex,(∀a∈l,flat a=zmB a)->flats l=zjf l:=by
    intro l
    induction l with
    | nil=>intro _;rfl
    | cons a l ih=>intro h;rw[zjf,<-ih fun b hb=>h b (by simp[hb]),<-h a (by simp)];simp[flats]
   have h2:∀(l:List Ex) (x:Int),(∀a∈l,za0 a=depS a)->(l.map za0).foldl max x=zsD l x:=by
    intro l
    induction l with
    | nil=>intro x _;rfl
    | cons a l ih=>intro x h;rw[zsD,qaj,qaU,ih _ fun b hb=>h b (by simp[hb]),h a (by simp)]
   have h3:∀(w:Plc) (l:List Ex),(∀a∈l,∀b,resT w b a=resS w a b)->l.map (resT w true)=zpl w l:=by
    intro w l
    induction l with
    | nil=>intro _;rfl
    | cons a l ih=>intro h;rw[zpl,qaj,ih fun b hb=>h b (by simp[hb]),h a (by simp)]
   refine⟨?_,?_,fun w b=>?_⟩
   ·rw[zcD,zmB];exact congrArg _ (h1 l fun a ha=>(ih a ha).1)
   ·rw[zf4,depS];exact congrArg (·+1) (h2 l 0 fun a ha=>(ih a ha).2.1)
   ·rw[zm4,resS,<-h3 w l fun a ha=>(ih a ha).2.2 w];rfl
theorem znY(e:Ex):flat e=zmB e:=(znH _ e (qag _)).1
theorem zwC(e:Ex):za0 e=depS e:=(znH _ e (qag _)).2.1
theorem zwQ(w:Plc)(b:Bool)(e:Ex):resT w b e=resS w e b:=(znH _ e (qag _)).2.2 w b
theorem zwU(e:Ex):wEx e=(zmB e).length:=by rw[<-znY,zdU]
theorem zuB(l:List Ex):flats l=zjf l:=by
 induction l with
 | nil=>rfl
 | cons a l ih=>rw[zjf,<-ih,<-znY];simp[flats]
def upX:Ex:=.mk (i64 3) (i64 6) z64 z64 [] [.mk (i64 5) z64 z64 z64 [] [vrE [120]],cnE (i64 2) (i64 1)]
def staA:Sta:=.mk [65] [] [⟨[[120]],.mk (i64 6) z64 z64 z64 [] [cnE (i64 2) (i64 0),upX]⟩] [] [] [⟨.mk (i64 3) (i64 16) z64 z64 [] [vrE [120],cnE (i64 2) (i64 2)],i64 1,false⟩]
def staB:Sta:=.mk [66] [] [⟨[[120]],cnE (i64 2) (i64 9)⟩] [] [] [⟨cnE (i64 1) (i64 1),i64 0,false⟩]
def exaN:Nod:={ name:=[102],ins:=[],outs:=[⟨[120],i64 2,[]⟩],locals:=[],eqs:=[],autos:=[.mk [staA,staB]],assume:=[],ensure:=[] }
def exaP:Prog:=⟨[],[exaN]⟩
mutual
def exTS:Ex->T
 | .mk k o t v n l=>.ag [T.n k,T.n o,T.n t,T.n v,.s n,.sl 6 (zsG l)]
def zsG:List Ex->List T
 | []=>[]
 | a::l=>exTS a::zsG l
end
theorem zvw(e:Ex):exT e=exTS e:=by
 match e with
 | .mk k o t v n l=>
   have h:∀l:List Ex,(∀a∈l,exT a=exTS a)->l.map exT=zsG l:=by
    intro l
    induction l with
    | nil=>intro _;rfl
    | cons a l ih=>intro h;rw[zsG,<-ih fun b hb=>h b (by simp[hb]),<-h a (by simp)];rfl
   rw[zay,exTS,<-h l fun a ha=>zvw a]
   rfl
termination_by wEx e
decreasing_by exact zbP (e:=.mk k o t v n l) (x:=a) ha
theorem zuc(es:List En):zcu es 0=fun _=>3:=rfl
theorem zud(es:List En)(k:Nat):zcu es (k+1)=fun a=>orE (if a.states.length=0 then 8 else 0) (orE (if a.states.length≤8 then 0 else 3) (zaf (stE es (zcu es k) a.states.length) a.states)):=rfl
theorem zuf(p:Prog)(seen:List (Int×Str×Int))(node:Int):zb4 p seen node 0=fun _ _ t _=>(t,0):=rfl
theorem zug(p:Prog)(seen:List (Int×Str×Int))(node:Int)(k:Nat):zb4 p seen node (k+1)=fun vis0 low t a=>(⟨t.own,(zaO (a.states.map (stS p seen node (zb4 p seen node k) (vis0++t.own) (low++t.done)))).foldl ins t.done,t.defs++zaO (a.states.map (stS p seen node (zb4 p seen node k) (vis0++t.own) (low++t.done)))⟩,orE (dupE [] (a.states.map Sta.name)) (orE (zaf Prod.snd (a.states.map (stS p seen node (zb4 p seen node k) (vis0++t.own) (low++t.done)))) (if zcF (a.states.map (stS p seen node (zb4 p seen node k) (vis0++t.own) (low++t.done)))=true then 0 else 8))):=rfl
theorem zsn:zdr 0=fun _ _=>0:=rfl
theorem zso(k:Nat):zdr (k+1)=fun w a=>zaf (stTy w (zdr k)) a.states:=rfl
def zvY(F:List Str->List Equ->List Auto->List Str)(a:List Str)(qs:List Equ)(l:List Auto):List Str:=l.foldl (fun a x=>x.states.foldl (fun a s=>(s.unl++s.unt).foldl (fun a t=>zbm a t.cond) (F (za1 (ins a s.name) s.locals) s.eqs s.autos)) a) (qs.foldl (fun a q=>zbm (q.left.foldl ins a) q.right) a)
theorem zpH(m:Nat):zcv (m+1)=zvY (zcv m):=by
 funext a qs l
 rfl
set_option maxRecDepth 20000 in
theorem xtaken:zcg 100000000 exaP=[[102],[120],[65],[],[66]]:=by
 unfold zcg zfO
 rw[show(100000000:Nat)=99999998+1+1 from rfl,zpH,zpH]
 delta zvY zbm
 simp only[znY]
 decide +kernel
def xE:Prog:=
 let r:=exaP.nodes.foldl (fun(q:(List Str×List En)×List Nod) n=>((zaG 4 q.1 n).1,q.2++(zaG 4 q.1 n).2)) (([[102],[120],[65],[],[66]],exaP.enums),[])
 ⟨r.1.2,r.2⟩
theorem zps:expF exaP=xE:=by
 unfold expF
 rw[xtaken]
 rfl
set_option maxRecDepth 20000 in
theorem xshape:zba exaP=((0,0),0)/\(zba (expF exaP)).2=0:=by
 delta zba zcf zpq
 simp only[zud,zuc]
 delta stE zfd equE zbY zgx sless
 rw[zps]
 simp only[znY,zwC,zwU]
 constructor <;> decide +kernel
set_option maxRecDepth 20000 in
theorem xscope:zb3 exaP=((0,0),0):=by
 unfold zb3
 rw[xshape.1]
 delta nodF zcI zuR
 simp only[zug,zuf]
 delta stS equS zi5 zpW zd9
 simp only[zuB]
 decide +kernel
set_option maxRecDepth 20000 in
theorem xtypes:zaN exaP=((0,0),0):=by
 unfold zaN
 rw[xscope]
 show zfY exaP [(exaN,0)]=_
 unfold zfY
 delta nodG zrg zrx
 simp only[zso,zsn]
 delta stTy eqnT zcC
 simp only[zwQ]
 decide +kernel
mutual
def twS:T->Nat
 | .v x=>1+strW x
 | .sl _ es=>1+twSs es
 | .ag cs=>1+twSs cs
def twSs:List T->Nat
 | []=>0
 | a::l=>twS a+twSs l
end
theorem tw_S(t:T):t.w=twS t:=by
 have h:∀l:List T,(∀a∈l,a.w=twS a)->(l.map T.w).sum=twSs l:=by
  intro l
  induction l with
  | nil=>intro _;rfl
  | cons a l ih=>intro h;rw[twSs,<-ih fun b hb=>h b (by simp[hb]),<-h a (by simp)];rfl
 match t with
 | .v x=>rw[T.w,twS]
 | .sl _ es=>rw[w_sl,twS,h es fun a ha=>tw_S a]
 | .ag cs=>rw[w_ag,twS,h cs fun a ha=>tw_S a]
decreasing_by
 all_goals
  have:=qbi ha
  simp;omega
theorem zuw:exT=exTS:=funext zvw
theorem xw:(T.ag (zax exaP)).w≤1000:=by
 rw[tw_S]
 delta zax zaC exaP exaN
 simp only[nodT,List.map,zbV,Auto.states,za8,staA,staB,Sta.eqs,Sta.name,Sta.locals,Sta.autos,Sta.unl,Sta.unt,equT,zah,exC,zuw]
 decide +kernel
theorem xw2:(T.ag (zax (expF exaP))).w≤90000000:=by
 rw[tw_S,zps]
 delta zax zaC nodT equT exC
 rw[zuw]
 decide +kernel
theorem zh5{s:List Str×List En}{n:Nod}(ha:n.autos=[])(hl:n.ins.length≤1000/\n.outs.length≤1000/\n.locals.length≤1000/\n.eqs.length≤1000)(hc:∀d∈zaB n,d.clock.length≤100000000):zlZ s n:=by
 have hl2:=zhh n
 have hb:(autJ s n n.autos.length).bs=[]:=by rw[ha];rfl
 exact⟨by rw[ha];exact qaK _,zcP n ⟨by omega,by omega,by omega⟩ hc,by omega,by omega,by omega,(fun au h=>by rw[ha]at h;cases h),(fun j hj=>by rw[ha]at hj;exact absurd hj (qbC _)),by rw[hb];exact qaK _⟩
theorem zpa(k:Nat){s:List Str×List En}{n:Nod}(ha:n.autos=[])(hl:n.ins.length≤1000/\n.outs.length≤1000/\n.locals.length≤1000/\n.eqs.length≤1000)(hc:∀d∈zaB n,d.clock.length≤100000000):NodX k s n:=by
 have hb:(autJ s n n.autos.length).bs=[]:=by rw[ha];rfl
 cases k with
 | zero=>exact⟨ha,zh5 ha hl hc⟩
 | succ k=>
   refine⟨zh5 ha hl hc,fun j hj=>?_,?_⟩
   ·rw[hb]at hj
    exact absurd hj (qbC _)
   ·rw[hb]
    exact qaK _
abbrev xs0:List Str×List En:=([[102],[120],[65],[],[66]],[])
theorem xbs:((autJ xs0 exaN 1).bs.length=2/\(autJ xs0 exaN 1).a.length≤100)/\∀b∈(autJ xs0 exaN 1).bs,b.autos.isEmpty=true/\(b.ins.length≤1000/\b.outs.length≤1000/\b.locals.length≤1000/\b.eqs.length≤1000)/\∀d∈zaB b,d.clock.length≤100000000:=by decide +kernel
theorem xbj:(bodJ 3 (autJ xs0 exaN 1) 1).2.length≤1000/\(bodJ 3 (autJ xs0 exaN 1) 2).2.length≤1000:=by decide +kernel
theorem xset:zaD [[102],[120],[65],[],[66]]:=⟨by decide +kernel,by decide +kernel⟩
theorem xnodp:zlZ xs0 exaN:=by
 refine⟨by decide,zcP exaN ⟨by decide,by decide,by decide⟩ (by decide),by decide,by decide,by decide,fun au hau=>?_,fun j hj=>?_,by decide +kernel⟩
 ·have hau:=qaG.1 hau
  subst hau
  refine⟨qaE ?_ (qaE xw (by decide)),by decide,by decide,by decide +kernel⟩
  have h1:=zdJ exaN
  have h2:=zav (f:=zae) (sz:=1) (l:=exaN.autos) (x:=.mk [staA,staB]) (qaG.2 rfl)
  have h3:=zav (f:=nodT) (sz:=8) (l:=exaP.nodes) (x:=exaN) (qaG.2 rfl)
  have h4:(T.ag (zax exaP)).w=1+((T.sl 2 (exaP.enums.map enT)).w+((T.sl 8 (exaP.nodes.map nodT)).w+0)):=by rw[w_ag];rfl
  omega
 ·have hj0:j=0:=by have:exaN.autos.length=1:=rfl;omega
  subst hj0
  have h0:(autJ xs0 exaN 0).a.length+((zaU (zaB exaN) (.mk [staA,staB])).length*8+400)≤100000000000000:=by decide +kernel
  exact⟨⟨xset,h0⟩,by decide +kernel,by decide +kernel,by decide +kernel,by decide +kernel⟩
theorem xnod:NodX 4 xs0 exaN:=by
 refine⟨xnodp,fun j hj=>?_,qaE xbj.2 (by decide)⟩
 have hb:=xbs.2 _ (qad hj)
 refine⟨zpa 3 (List.isEmpty_iff.1 hb.1) hb.2.1 hb.2.2,?_⟩
 have hl:j<2:=by have h:=xbs.1.1;exact h ▸ hj
 rcases j with _|_|j
 ·exact qaE xbj.1 (by decide)
 ·exact qaE xbj.2 (by decide)
 ·omega
theorem xexp:Pure Tryz.prog 11 [.t (.ag (zax exaP))] (.tup [.t (.ag (zax ⟨(expF exaP).enums,(expF exaP).nodes.map plnN⟩)),.i 0]):=by
 refine zfw exaP (qaE xw (by decide)) (by rw[xtypes]) (fun j hj=>?_) (zlx xw2) _ (fun _=>rfl) (fun h=>absurd xshape.2 h)
 have hj0:j=0:=by have:exaP.nodes.length=1:=rfl;omega
 subst hj0
 have h0:(expJ exaP 0).1=xs0:=by show(zcg 100000000 exaP,_)=_;rw[xtaken];rfl
 have h1:expJ exaP 1=((zaG 4 xs0 exaN).1,[]++(zaG 4 xs0 exaN).2):=by rw[<-h0];rfl
 rw[h0,h1]
 exact⟨xnod,by decide +kernel⟩
theorem znm(s:Str):Pure Tryz.prog 53 [.s s] (.t (.ag [T.i 2,T.i 0,T.i 0,T.i 0,T.s s,.sl 6 []])):=by
 refine so Tryz.func53 ?_
 repeat' (first|refine wu ?_|exact wkc|intro hc|refine wk2 ?_ ?_|fail)
 exact zwbw
theorem zd2(n:Int):Pure Tryz.prog 54 [.i n] (.t (.ag [T.i 1,T.i 0,T.i 2,T.i n,T.s [],.sl 6 []])):=by
 refine so Tryz.func54 ?_
 repeat' (first|refine wu ?_|exact wkc|intro hc|refine wk2 ?_ ?_|fail)
 exact zwbw
abbrev vXT:T:=.ag [T.i 2,T.i 0,T.i 0,T.i 0,T.s [120],.sl 6 []]
abbrev nXT (v:Int):T:=.ag [T.i 1,T.i 0,T.i 2,T.i v,T.s [],.sl 6 []]
abbrev upT:T:=.ag [T.i 3,T.i 6,T.i 0,T.i 0,T.s [],.sl 6 [.ag [T.i 5,T.i 0,T.i 0,T.i 0,T.s [],.sl 6 [vXT]],nXT 1]]
abbrev stAT:T:=.ag [T.s [65],.sl 3 [],.sl 7 [.ag [.sl 1 [T.s [120]],T.i 6,T.i 0,T.i 0,T.i 0,T.s [],.sl 6 [nXT 0,upT]]],.sl 1 [],.sl 8 [],.sl 8 [.ag [T.i 3,T.i 16,T.i 0,T.i 0,T.s [],.sl 6 [vXT,nXT 2],T.i 1,T.b false]]]
abbrev stBT:T:=.ag [T.s [66],.sl 3 [],.sl 7 [.ag [.sl 1 [T.s [120]],T.i 1,T.i 0,T.i 2,T.i 9,T.s [],.sl 6 []]],.sl 1 [],.sl 8 [],.sl 8 [.ag [T.i 1,T.i 0,T.i 1,T.i 1,T.s [],.sl 6 [],T.i 0,T.b false]]]
theorem zwD:T.ag (zax exaP)= .ag [.sl 2 [],.sl 8 [.ag [T.s [102],.sl 3 [],.sl 3 [.ag [T.s [120],T.i 2,.sl 3 []]],.sl 3 [],.sl 7 [],.sl 1 [.ag [.sl 6 [stAT,stBT]]],.sl 6 [],.sl 6 []]]]:=by
 delta zax zaC exaP exaN
 simp only[nodT,List.map,zbV,Auto.states,za8,staA,staB,Sta.eqs,Sta.name,Sta.locals,Sta.autos,Sta.unl,Sta.unt,equT,zah,exC,zuw]
 rfl
set_option maxHeartbeats 16000000 in
theorem zp9:Pure Tryz.prog 24 [] (.t (.ag (zax exaP))):=by
 have v1:=znm [120]
 have n0:=zd2 0
 have n1:=zd2 1
 have n2:=zd2 2
 have n9:=zd2 9
 rw[zwD]
 refine so Tryz.func24 ?_
 refine wk ?_
 repeat' (first|refine wkt ?_|refine wka ?_|refine wv v1 ?_|refine wv n1 ?_|fail)
 apply TR.zaw 0 (g:=True) [(_,0,1),(_,0,1),(_,0,1),(_,0,1),(_,0,1),(_,0,1),(_,0,1),(_,0,1),(_,1,0),(.any,1,0)] [[.cells [.t (.v (.slice none 0 0)),.t (.v (.slice none 0 0))]],[.cells [.t (.v (.slice none 0 0)),.t (.v (.slice none 0 0))],.cells [.s [],.t (.v (.slice none 0 0)),.t (.v (.slice none 0 0)),.t (.v (.slice none 0 0)),.t (.v (.slice none 0 0)),.t (.v (.slice none 0 0))]],[.cells [.t (.v (.slice none 0 0)),.t (.v (.slice none 0 0))],.cells [.s [65],.t (.v (.slice none 0 0)),.t (T.sl 7 [.ag [.sl 1 [T.s [120]],T.i 6,T.i 0,T.i 0,T.i 0,T.s [],.sl 6 [nXT 0,upT]]]),.t (.v (.slice none 0 0)),.t (.v (.slice none 0 0)),.t (.v (.slice none 0 0))]]] hmix
 case hB=>exact zqv
 case h0=>exact rfl
 case hp=>
  repeat' (first|exact trivial|exact⟨⟨rfl,rfl⟩,trivial⟩|exact qaf rfl rfl|refine qaf (fun env=>?_) ?_|refine qaf ?_ ?_|refine wma ?_|refine wmv n0 ?_|(apply TO.alloc zag;(iterate 3 exact rfl))|refine wmk ?_|fail)
  done
 case hc=>exact rfl
 case hF=>exact rfl
 case hE=>exact rfl
 intro _
 repeat' (first|refine zqx ?_|refine wkt ?_|refine wv v1 ?_|refine wv n2 ?_|refine wv n9 ?_|refine wk ?_|fail)
 refine RetK.keep 0 rfl (?_:Le _ (.t (.ag [.sl 2 [],.sl 8 [.ag [T.s [102],.sl 3 [],.sl 3 [.ag [T.s [120],T.i 2,.sl 3 []]],.sl 3 [],.sl 7 [],.sl 1 [.ag [.sl 6 [stAT,stBT]]],.sl 6 [],.sl 6 []]]]))) rfl rfl rfl rfl rfl ⟨rfl,rfl⟩
 refine Le.zrU rfl ?_
 repeat' (first|exact trivial|exact TLs.refl _|exact TLs.nil _|refine TLs.agL ?_|refine TLs.slL ?_|refine qaf ?_ ?_|fail)
theorem len2{α:Type}{l:List α}(h:l.length=2):∃a b,l=[a,b]:=by match l,h with|[a,b],_=>exact⟨a,b,rfl⟩
theorem len3{α:Type}{l:List α}(h:l.length=3):∃a b c,l=[a,b,c]:=by match l,h with|[a,b,c],_=>exact⟨a,b,c,rfl⟩
theorem len4{α:Type}{l:List α}(h:l.length=4):∃a b c d,l=[a,b,c,d]:=by match l,h with|[a,b,c,d],_=>exact⟨a,b,c,d,rfl⟩
theorem len9{α:Type}{l:List α}(h:l.length=9):∃a b c d e f g i j,l=[a,b,c,d,e,f,g,i,j]:=by match l,h with|[a,b,c,d,e,f,g,i,j],_=>exact⟨a,b,c,d,e,f,g,i,j,rfl⟩
theorem zwG{α:Type}{l:List α}(h:l.length=12):∃a b c d e f g i j k m n,l=[a,b,c,d,e,f,g,i,j,k,m,n]:=by match l,h with|[a,b,c,d,e,f,g,i,j,k,m,n],_=>exact⟨a,b,c,d,e,f,g,i,j,k,m,n,rfl⟩
abbrev zvL:Str:=[109,111,100,101,95,49]
abbrev nAt2:Str:=[97,116,95,50]
abbrev zeX:Str:=[98,111,100,121,95,49]
abbrev zjm:Str:=[110,101,120,116,95,49]
abbrev zjl:Str:=[98,97,99,107,95,49]
theorem xf1:(expF exaP).enums.map En.name=[zvL]/\(expF exaP).enums.map (fun u=>u.tags.length)=[2]/\(expF exaP).enums.map (fun u=>u.tags[1]?)=[some nAt2]:=by
 rw[zps]
 decide +kernel
theorem xf2:(expF exaP).nodes.length=3/\(expF exaP).nodes[0]?.map Nod.name=some zeX/\(expF exaP).nodes[2]?.map Nod.name=some [102]:=by
 rw[zps]
 decide +kernel
theorem xf3:(expF exaP).nodes[0]?.map (fun n=>(n.outs.length,n.outs[1]?.map Decl.name,n.outs[2]?.map Decl.name,n.eqs.length))=some (3,some zjm,some zjl,4):=by
 rw[zps]
 decide +kernel
theorem xf4:(expF exaP).nodes[2]?.map (fun n=>(n.locals.length,n.eqs.length))=some (12,9)/\(expF exaP).nodes[2]?.map (fun n=>n.eqs[0]?.map fun q=>q.right.kind.1)=some (some 7)/\(expF exaP).nodes[2]?.map (fun n=>n.eqs[4]?.map fun q=>q.right.kind.1)=some (some 10)/\(expF exaP).nodes[2]?.map (fun n=>n.eqs[4]?.map fun q=>q.right.name)=some (some zeX)/\(expF exaP).nodes[2]?.map (fun n=>n.eqs[6]?.map fun q=>q.right.kind.1)=some (some 9):=by
 rw[zps]
 decide +kernel
theorem xcount:countP exaP.nodes=1/\zuO exaP.nodes=1:=by decide +kernel
set_option maxHeartbeats 16000000 in
theorem zdM:Pure Tryz.prog 10 [] (.b true):=by
 have c0:=zp9
 have c1:=xexp
 have c2:=zgq exaP (qaE xw (by decide))
 have c3:=zlY exaP (qaE xw (by decide))
 rw[xcount.1]at c2
 rw[xcount.2]at c3
 obtain⟨f1,f2,f3⟩:=xf1
 obtain⟨g1,g2,g3⟩:=xf2
 have g4:=xf3
 have g5:=xf4
 generalize expF exaP=P at*
 obtain⟨es,ns⟩:=P
 dsimp only at*
 obtain⟨b,c,f,rfl⟩:=len3 g1
 obtain⟨u,rfl⟩:∃u,es=[u]:=by
  have:es.length=1:=by simpa using congrArg List.length f1
  match es,this with|[u],_=>exact⟨u,rfl⟩
 simp only[qaj,qay,qba,and_true]at f1 f2 f3
 simp at g2 g3 g4 g5
 obtain⟨h1,h2,h3,h4⟩:=g4
 obtain⟨⟨k1,k2⟩,k3,k4,k4',k5⟩:=g5
 obtain⟨un,ut⟩:=u
 obtain⟨bn,bi,bo,bl,bq,ba,bs,be⟩:=b
 obtain⟨fn,fi,fo,fl,fq,fa,fs,fe⟩:=f
 dsimp only at*
 obtain⟨t0,t1,rfl⟩:=len2 f2
 obtain⟨d0,d1,d2,rfl⟩:=len3 h1
 obtain⟨e0,e1,e2,e3,rfl⟩:=len4 h4
 obtain⟨l0,l1,l2,l3,l4,l5,l6,l7,l8,l9,l10,l11,rfl⟩:=zwG k1
 obtain⟨q0,q1,q2,q3,q4,q5,q6,q7,q8,rfl⟩:=len9 k2
 simp at f3 h2 h3 k3 k4 k4' k5
 have e30:T.n q0.right.kind=T.i 7:=by show T.i q0.right.kind.1=_;rw[k3]
 have e34:T.n q4.right.kind=T.i 10:=by show T.i q4.right.kind.1=_;rw[k4]
 have e36:T.n q6.right.kind=T.i 9:=by show T.i q6.right.kind.1=_;rw[k5]
 have e44:T.s q4.right.name=T.s zeX:=by rw[k4']
 subst f1 f3 g2 g3
 have hb1:zaa d1= .ag [T.s zjm,T.n d1.ty,.sl 3 (d1.clock.map onT)]:=by unfold zaa;rw[h2]
 have hb2:zaa d2= .ag [T.s zjl,T.n d2.ty,.sl 3 (d2.clock.map onT)]:=by unfold zaa;rw[h3]
 have hq0:equT q0= .ag [.sl 1 (q0.left.map T.s),T.i 7,T.n q0.right.op,T.n q0.right.t,T.n q0.right.v,T.s q0.right.name,.sl 6 (q0.right.args.map exT)]:=by unfold equT exC;rw[e30]
 have hq4:equT q4= .ag [.sl 1 (q4.left.map T.s),T.i 10,T.n q4.right.op,T.n q4.right.t,T.n q4.right.v,T.s zeX,.sl 6 (q4.right.args.map exT)]:=by unfold equT exC;rw[e34,e44]
 have hq6:equT q6= .ag [.sl 1 (q6.left.map T.s),T.i 9,T.n q6.right.op,T.n q6.right.t,T.n q6.right.v,T.s q6.right.name,.sl 6 (q6.right.args.map exT)]:=by unfold equT exC;rw[e36]
 simp only[zax,zaC,plnN,qaj,qay,nodT,enT,hb1,hb2,hq0,hq4,hq6]at c1
 clear e30 e34 e36 e44 hb1 hb2 hq0 hq4 hq6 h1 h2 h3 h4 k1 k2 k3 k4 k4' k5 g1 f2
 refine so Tryz.func10 ?_
 repeat' (first|refine wkt ?_|refine wka ?_|refine wv c0 ?_|refine wv c1 ?_|refine wv c2 ?_|refine wv c3 ?_|exact wkc|(intro hc;exact absurd rfl hc)|intro hc|(apply TO.want;exact rfl)|refine wk2 ?_ ?_|fail)
 apply TR.zrt 8 9 10 11 (HA:=[.cells [.s [],.t (.v (.slice none 0 0)),.t (.v (.slice none 0 0)),.t (.v (.slice none 0 0)),.t (.v (.slice none 0 0)),.t (.v (.slice none 0 0)),.t (.v (.slice none 0 0)),.t (.v (.slice none 0 0))]]) (HB:=[.cells [.s [],.t (.v (.slice none 0 0)),.t (.v (.slice none 0 0)),.t (.v (.slice none 0 0)),.t (.v (.slice none 0 0)),.t (.v (.slice none 0 0)),.t (.v (.slice none 0 0)),.t (.v (.slice none 0 0))]]) (H1:=[.cells [.s [],.t (.v (.slice none 0 0)),.t (.v (.slice none 0 0)),.t (.v (.slice none 0 0)),.t (.v (.slice none 0 0)),.t (.v (.slice none 0 0)),.t (.v (.slice none 0 0)),.t (.v (.slice none 0 0))],.cells [.s [],.t (.v (.slice none 0 0)),.t (.v (.slice none 0 0)),.t (.v (.slice none 0 0)),.t (.v (.slice none 0 0)),.t (.v (.slice none 0 0)),.t (.v (.slice none 0 0)),.t (.v (.slice none 0 0))]]) (H2:=[.cells [.s [],.t (.v (.slice none 0 0)),.t (.v (.slice none 0 0)),.t (.v (.slice none 0 0)),.t (.v (.slice none 0 0)),.t (.v (.slice none 0 0)),.t (.v (.slice none 0 0)),.t (.v (.slice none 0 0))],.cells [.s [],.t (.v (.slice none 0 0)),.t (.v (.slice none 0 0)),.t (.v (.slice none 0 0)),.t (.v (.slice none 0 0)),.t (.v (.slice none 0 0)),.t (.v (.slice none 0 0)),.t (.v (.slice none 0 0))]]) (C1:=[.cells [.t (T.s zeX),.t (.sl 3 (bi.map zaa)),.t (.sl 3 [zaa d0,.ag [T.s zjm,T.n d1.ty,.sl 3 (d1.clock.map onT)],.ag [T.s zjl,T.n d2.ty,.sl 3 (d2.clock.map onT)]]),.t (.sl 3 (bl.map zaa)),.t (.sl 7 [equT e0,equT e1,equT e2,equT e3]),.t (.sl 1 []),.t (.sl 6 (bs.map exT)),.t (.sl 6 (be.map exT))],.cells [.s [],.t (.v (.slice none 0 0)),.t (.v (.slice none 0 0)),.t (.v (.slice none 0 0)),.t (.v (.slice none 0 0)),.t (.v (.slice none 0 0)),.t (.v (.slice none 0 0)),.t (.v (.slice none 0 0))]]) (C2:=[.cells [.s [],.t (.v (.slice none 0 0)),.t (.v (.slice none 0 0)),.t (.v (.slice none 0 0)),.t (.v (.slice none 0 0)),.t (.v (.slice none 0 0)),.t (.v (.slice none 0 0)),.t (.v (.slice none 0 0))],.cells [.t (T.s zeX),.t (.sl 3 (bi.map zaa)),.t (.sl 3 [zaa d0,.ag [T.s zjm,T.n d1.ty,.sl 3 (d1.clock.map onT)],.ag [T.s zjl,T.n d2.ty,.sl 3 (d2.clock.map onT)]]),.t (.sl 3 (bl.map zaa)),.t (.sl 7 [equT e0,equT e1,equT e2,equT e3]),.t (.sl 1 []),.t (.sl 6 (bs.map exT)),.t (.sl 6 (be.map exT))]]) (F1:=[.cells [.t (T.s zeX),.t (.sl 3 (bi.map zaa)),.t (.sl 3 [zaa d0,.ag [T.s zjm,T.n d1.ty,.sl 3 (d1.clock.map onT)],.ag [T.s zjl,T.n d2.ty,.sl 3 (d2.clock.map onT)]]),.t (.sl 3 (bl.map zaa)),.t (.sl 7 [equT e0,equT e1,equT e2,equT e3]),.t (.sl 1 []),.t (.sl 6 (bs.map exT)),.t (.sl 6 (be.map exT))],.cells [.t (T.s [102]),.t (.sl 3 (fi.map zaa)),.t (.sl 3 (fo.map zaa)),.t (.sl 3 [zaa l0,zaa l1,zaa l2,zaa l3,zaa l4,zaa l5,zaa l6,zaa l7,zaa l8,zaa l9,zaa l10,zaa l11]),.t (.sl 7 [.ag [.sl 1 (q0.left.map T.s),T.i 7,T.n q0.right.op,T.n q0.right.t,T.n q0.right.v,T.s q0.right.name,.sl 6 (q0.right.args.map exT)],equT q1,equT q2,equT q3,.ag [.sl 1 (q4.left.map T.s),T.i 10,T.n q4.right.op,T.n q4.right.t,T.n q4.right.v,T.s zeX,.sl 6 (q4.right.args.map exT)],equT q5,.ag [.sl 1 (q6.left.map T.s),T.i 9,T.n q6.right.op,T.n q6.right.t,T.n q6.right.v,T.s q6.right.name,.sl 6 (q6.right.args.map exT)],equT q7,equT q8]),.t (.sl 1 []),.t (.sl 6 (fs.map exT)),.t (.sl 6 (fe.map exT))]]) (F2:=[.cells [.t (T.s [102]),.t (.sl 3 (fi.map zaa)),.t (.sl 3 (fo.map zaa)),.t (.sl 3 [zaa l0,zaa l1,zaa l2,zaa l3,zaa l4,zaa l5,zaa l6,zaa l7,zaa l8,zaa l9,zaa l10,zaa l11]),.t (.sl 7 [.ag [.sl 1 (q0.left.map T.s),T.i 7,T.n q0.right.op,T.n q0.right.t,T.n q0.right.v,T.s q0.right.name,.sl 6 (q0.right.args.map exT)],equT q1,equT q2,equT q3,.ag [.sl 1 (q4.left.map T.s),T.i 10,T.n q4.right.op,T.n q4.right.t,T.n q4.right.v,T.s zeX,.sl 6 (q4.right.args.map exT)],equT q5,.ag [.sl 1 (q6.left.map T.s),T.i 9,T.n q6.right.op,T.n q6.right.t,T.n q6.right.v,T.s q6.right.name,.sl 6 (q6.right.args.map exT)],equT q7,equT q8]),.t (.sl 1 []),.t (.sl 6 (fs.map exT)),.t (.sl 6 (fe.map exT))],.cells [.t (T.s zeX),.t (.sl 3 (bi.map zaa)),.t (.sl 3 [zaa d0,.ag [T.s zjm,T.n d1.ty,.sl 3 (d1.clock.map onT)],.ag [T.s zjl,T.n d2.ty,.sl 3 (d2.clock.map onT)]]),.t (.sl 3 (bl.map zaa)),.t (.sl 7 [equT e0,equT e1,equT e2,equT e3]),.t (.sl 1 []),.t (.sl 6 (bs.map exT)),.t (.sl 6 (be.map exT))]]) [_,_,_,_,_,_,_,_,_,_,.any,.any] [_,_,_,_,_,_,_,_,_,_,.any,.any] hmix
 case hB=>(dsimp only[List.length];decide +kernel)
 case hp=>
  repeat' (first|exact trivial|exact⟨⟨rfl,rfl⟩,trivial⟩|exact qaf rfl rfl|refine qaf (fun env=>?_) ?_|refine qaf ?_ ?_|refine wma ?_|(apply TO.alloc zag;(iterate 3 exact rfl))|(apply TO.indexAddr zag;(iterate 8 exact rfl);omega;exact rfl)|refine wmk ?_|intro env|fail)
  all_goals exact rfl
 case hE1=>exact rfl
 case hE2=>exact rfl
 case hK1=>
  repeat' (first|refine wkt ?_|refine zqo ?_|exact wkc|(intro hc;exact absurd rfl hc)|intro hc|(apply TO.want;exact rfl)|refine wk2 ?_ ?_|refine wk ?_|fail)
  exact wkr
 case hK2=>
  repeat' (first|refine wkt ?_|refine zqo ?_|exact wkc|(intro hc;exact absurd rfl hc)|intro hc|(apply TO.want;exact rfl)|refine wk2 ?_ ?_|refine wk ?_|fail)
  exact wkr
end Go.Proofs.YtpnnpgbaiobbjaaGreatDoor
