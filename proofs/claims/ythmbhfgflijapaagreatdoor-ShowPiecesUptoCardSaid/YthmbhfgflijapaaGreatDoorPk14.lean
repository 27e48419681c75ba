import Derived.DeepKeys5
import Derived.Test.YthmbhfgflijapaaGreatDoorPk13
set_option linter.all false
namespace Go.Proofs.YthmbhfgflijapaaGreatDoor
open Go Go.TL
attribute [local irreducible] TR TO Then zag RetK Sound zab Kf GG zaK
theorem zq7{q:Equ}:wEx q.right≤(equT q).w:=by
 have h:=zh8 q.right
 rw[zae,w_ag]at h
 rw[show equT q= .ag (.sl 1 (q.left.map T.s)::exC q.right) from rfl,w_ag,qah,qay]
 have:=zlv (.sl 1 (q.left.map T.s))
 omega
theorem zeD{q:Equ}:q.left.length≤(equT q).w:=by
 have h:=zaB T.s 1 q.left
 rw[show equT q= .ag (.sl 1 (q.left.map T.s)::exC q.right) from rfl,w_ag,qah,qay]
 omega
def equC(q:Equ):List T:=.sl 1 (q.left.map T.s)::[T.n q.right.kind,T.n q.right.op,T.n q.right.t,T.n q.right.v,.s q.right.name,.sl 6 (q.right.args.map exT)]
theorem ziz{l:List Equ}{k:Nat}(h:k<l.length):(l.map equT)[k]?=some (.ag (equC l[k])):=zbj equT h
theorem ziI(es:List En)(n q:Int)(u:Equ)(hw:(equT u).w≤1000000000):LS 88 [.t (.ag (equC u))] es n q (equE es u):=by
 refine Sound.err rfl (fun _=>rfl) ?_
 have hx:=zco es u.right (qaq zq7 hw)
 have hlb:u.left.length≤1000000000:=qaq zeD hw
 have hml:(u.left.map T.s).length=u.left.length:=qab _
 have hr:=zfb es n q (za4 es u.right)
 have hz:equE es u=equE es u:=rfl
 conv at hz=>rhs;unfold equE orE
 rw[zae]at hx
 unfold exC at hx
 unfold equC
 generalize equE es u=z at hz⊢
 generalize za4 es u.right=xe at*
 refine so Tryz.func88 ?_
 repeat' (first|refine wu ?_|exact wkc|intro hc|refine wk2 ?_ ?_|refine wm ?_|fail)
 all_goals first
  | ((repeat' (first|refine zab.panic ?_|refine wk ?_|fail));apply retF;(first|assumption|decide);(clear hr hx;grind);exact rfl;exact rfl)
  | skip
 generalize u.left=l at*
 refine TR.zaA l.length (fun k=>zac zcb (l.take k)=0) (fun k=>[(0,.ref 0 0),(3,.cp [.sl 1 (l.map T.s),T.n u.right.kind,T.n u.right.op,T.n u.right.t,T.n u.right.v,.s u.right.name,.sl 6 (u.right.args.map exT)] 0),(19,.t (.sl 1 (l.map T.s))),(20,.i (l.map T.s).length),(21,.i k)]) (fun _=>[zct es n q]) rfl (fun k hlt ha=>?_) (fun ha=>?_)
 ·have hx:=at_s hlt
  have h1:=zaJ (f:=zcb) hlt ha
  have h2:=zaz (f:=zcb) hlt ha
  generalize l[k]=x at*
  have hs:=zbL es n q x
  repeat' (first|refine wu ?_|exact wkc|intro hc|refine wk2 ?_ ?_|refine we hs ?_ ?_|fail)
  all_goals first
   | exact zab.zaI hlt (h2 hc)
   | ((repeat' (first|refine zab.panic ?_|refine wk ?_|fail));apply retF;(first|assumption|decide);(clear hr hx hs;grind);exact rfl;exact rfl)
 ·have h1:=zaF ha
  repeat' (first|refine wu ?_|exact wkc|intro hc|refine wk2 ?_ ?_|refine wv hx ?_|refine we hr ?_ ?_|refine wm ?_|fail)
  all_goals first
   | ((repeat' (first|refine zab.panic ?_|refine wk ?_|fail));apply retF;(first|assumption|decide);(clear hr hx;grind);exact rfl;exact rfl)
   | exact retN (by clear hr hx;grind) rfl rfl
def zlo(t:Tran):List T:=[T.n t.cond.kind,T.n t.cond.op,T.n t.cond.t,T.n t.cond.v,.s t.cond.name,.sl 6 (t.cond.args.map exT),T.n t.to,.b t.resume]
theorem zlF{l:List Tran}{k:Nat}(h:k<l.length):(l.map zay)[k]?=some (.ag (zlo l[k])):=zbj zay h
theorem zjV{t:Tran}:wEx t.cond≤(zay t).w:=by
 have h:=zh8 t.cond
 rw[zae,w_ag]at h
 rw[show zay t= .ag (zlo t) from rfl,w_ag]
 simp only[exC,zlo,qah,qaC,qay,qaQ]at*
 omega
theorem zgw(es:List En)(n q:Int)(l:List Tran)(states:Int)(strong:Bool)(hw:(T.sl 8 (l.map zay)).w≤1000000000):LS 129 [.t (.sl 8 (l.map zay)),.i states,.b strong] es n q (zac (zfL es states strong) l):=by
 refine Sound.err rfl (fun _=>rfl) ?_
 have hml:(l.map zay).length=l.length:=qab _
 have hlb:l.length≤1000000000:=qaq (qbY (zaB zay 8 l)) hw
 refine so Tryz.func129 ?_
 repeat' (first|refine wu ?_|exact wkc|intro hc|refine wk2 ?_ ?_|fail)
 refine TR.zaA l.length (fun k=>zac (zfL es states strong) (l.take k)=0) (fun k=>[(0,.ref 0 0),(2,.i states),(3,.b strong),(10,.t (.sl 8 (l.map zay))),(11,.i (l.map zay).length),(12,.i k)]) (fun _=>[zct es n q]) rfl (fun k hlt ha=>?_) (fun ha=>?_)
 ·have hx:=zlF hlt
  have h1:=zaJ (f:=zfL es states strong) hlt ha
  have h2:=zaz (f:=zfL es states strong) hlt ha
  have hwx:=zaN (f:=zay) (sz:=8) (qaf hlt)
  generalize l[k]=x at*
  have hwe:wEx x.cond≤1000000000:=by have:=zjV (t:=x);omega
  have hex:=zco es x.cond hwe
  have hst:=zhZ x.cond hwe
  rw[zae]at hex
  unfold exC at hex hst
  unfold zlo at hx
  have hr:=zfb es n q (za4 es x.cond)
  have hz:zfL es states strong x=zfL es states strong x:=rfl
  conv at hz=>rhs;unfold zfL orE
  generalize zfL es states strong x=z at*
  generalize za4 es x.cond=xe at*
  generalize sless x.cond=sl at*
  cases strong
  all_goals
   repeat' (first|refine wu ?_|exact wkc|intro hc|refine wk2 ?_ ?_|refine wm ?_|refine wv hex ?_|refine we hr ?_ ?_|refine wb hst ?_ ?_|fail)
  all_goals first
   | exact zab.zaI hlt (h2 (by clear hex hst hr;grind))
   | ((repeat' (first|refine zab.panic ?_|refine wk ?_|fail));apply retF;(first|assumption|decide);(clear hex hst hr hx;grind);exact rfl;exact rfl)
 ·repeat' (first|refine wu ?_|exact wkc|intro hc|refine wk2 ?_ ?_|fail)
  exact retN (zaF ha) rfl rfl
def zdL(a:Auto):List T:=[.sl 6 (a.states.map staT)]
theorem zlH(a:Auto):zar a= .ag (zdL a):=zja a
def staC(s:Sta):List T:=[.s s.name,zap s.locals,.sl 7 (s.eqs.map equT),.sl 1 (s.autos.map zar),.sl 8 (s.unl.map zay),.sl 8 (s.unt.map zay)]
theorem zlg(s:Sta):staT s= .ag (staC s):=zjO s
theorem zmU{l:List Sta}{k:Nat}(h:k<l.length):(l.map staT)[k]?=some (.ag (staC l[k])):=by rw[<-zlg];exact zbj staT h
theorem zg8{l:List Auto}{k:Nat}(h:k<l.length):(l.map zar)[k]?=some (.ag (zdL l[k])):=by rw[<-zlH];exact zbj zar h
theorem zlw(s:Sta):(zap s.locals).w+(T.sl 7 (s.eqs.map equT)).w+(T.sl 1 (s.autos.map zar)).w+(T.sl 8 (s.unl.map zay)).w+(T.sl 8 (s.unt.map zay)).w≤(staT s).w:=by
 rw[zlg,w_ag];simp only[staC,qah,qaC,qay,qaQ];omega
theorem zgy(a:Auto):(T.sl 6 (a.states.map staT)).w≤(zar a).w:=by
 rw[zlH,w_ag];simp only[zdL,qah,qaC,qay,qaQ];omega
theorem zgj(es:List En)(n q:Int):∀(k:Nat) (d:Int),k≤3->d+k=3->∀(a:Auto),(zar a).w≤1000000000->LS 89 [.t (.ag (zdL a)),.i d] es n q (zdy es k a)
 | 0,d,_,hd,a,_=>by
   refine Sound.err rfl (fun _=>rfl) ?_
   unfold zdy zdL
   refine so Tryz.func89 ?_
   repeat' (first|refine wu ?_|exact wkc|intro hc|refine wk2 ?_ ?_|refine wm ?_|fail)
   ·apply retF
    ·decide
    ·rfl
    ·exact rfl
    ·exact rfl
 | k+1,d,hk3,hd,a,hw=>by
   have ih:∀x,(zar x).w≤1000000000->LS 89 [.t (.ag (zdL x)),.i (d+1)] es n q (zdy es k x):=fun x hx=>zgj es n q k (d+1) (by omega) (by omega) x hx
   refine Sound.err rfl (fun _=>rfl) ?_
   have hwa:=zgy a
   have hlb:a.states.length≤1000000000:=by have:=zaB staT 6 a.states;omega
   have hml:(a.states.map staT).length=a.states.length:=qab _
   have hz:zdy es (k+1) a=zdy es (k+1) a:=rfl
   conv at hz=>rhs;unfold zdy orE
   generalize zdy es (k+1) a=z at hz⊢
   generalize zdy es k=F at*
   unfold zdL
   generalize a.states=l at*
   refine so Tryz.func89 ?_
   repeat' (first|refine wu ?_|exact wkc|intro hc|refine wk2 ?_ ?_|refine wm ?_|fail)
   all_goals first
    | ((repeat' (first|refine zab.panic ?_|refine wk ?_|fail));apply retF;(first|assumption|decide);(clear ih;grind);exact rfl;exact rfl)
    | (exfalso;omega)
    | skip
   have hz2:z=zac (stE es F (l.length:Int)) l:=by clear ih;grind
   clear hz
   refine TR.zaA l.length (fun k=>zac (stE es F (l.length:Int)) (l.take k)=0) (fun k=>[(0,.ref 0 0),(2,.i d),(4,.cp [.sl 6 (l.map staT)] 0),(29,.t (.sl 6 (l.map staT))),(30,.i (l.map staT).length),(31,.i k)]) (fun _=>[zct es n q]) rfl (fun j hlt ha=>?_) (fun ha=>?_)
   ·have hx:=zmU hlt
    have h1:=zaJ (f:=stE es F (l.length:Int)) hlt ha
    have h2:=zaz (f:=stE es F (l.length:Int)) hlt ha
    have hwx:=zaN (f:=staT) (sz:=6) (qaf hlt)
    generalize l[j]=x at*
    have hws:=zlw x
    have hl1:=zaB equT 7 x.eqs
    have hl2:=zaB zar 1 x.autos
    have m1:(x.locals.map zav).length=x.locals.length:=qab _
    have m2:(x.eqs.map equT).length=x.eqs.length:=qab _
    have m3:(x.autos.map zar).length=x.autos.length:=qab _
    have m4:(x.unl.map zay).length=x.unl.length:=qab _
    have m5:(x.unt.map zay).length=x.unt.length:=qab _
    have hi:=zbL es n q x.name
    have hd1:=zdc es n q x.locals false (by omega)
    have ht1:=zgw es n q x.unl (l.length:Int) true (by omega)
    have ht2:=zgw es n q x.unt (l.length:Int) false (by omega)
    rw[<-hml]at ht1 ht2
    have hz:stE es F (l.length:Int) x=stE es F (l.length:Int) x:=rfl
    conv at hz=>rhs;unfold stE orE
    have heq:∀u,u∈x.eqs->LS 88 [.t (.ag (equC u))] es n q (equE es u):=fun u hu=>ziI es n q u (by have:=zaN (f:=equT) (sz:=7) hu;omega)
    have hau:∀u,u∈x.autos->LS 89 [.t (.ag (zdL u)),.i (d+1)] es n q (F u):=fun u hu=>ih u (by have:=zaN (f:=zar) (sz:=1) hu;omega)
    clear ih
    generalize stE es F (l.length:Int) x=zs at hz h1 h2
    rw[<-hml]at hz
    unfold staC at hx
    repeat' (first|refine wu ?_|exact wkc|intro hc|refine wk2 ?_ ?_|refine wm ?_|refine we hi ?_ ?_|refine we hd1 ?_ ?_|fail)
    all_goals first
     | ((repeat' (first|refine zab.panic ?_|refine wk ?_|fail));apply retF;(first|assumption|decide);(clear hi hd1 ht1 ht2 heq hau hx;grind);exact rfl;exact rfl)
     | skip
    refine TR.zaA x.eqs.length (fun i=>zac (equE es) (x.eqs.take i)=0) (fun i=>[(0,.ref 0 0),(2,.i d),(4,.cp [.sl 6 (l.map staT)] 0),(29,.t (.sl 6 (l.map staT))),(30,.i (l.map staT).length),(31,.i j),(7,.cp [.s x.name,zap x.locals,.sl 7 (x.eqs.map equT),.sl 1 (x.autos.map zar),.sl 8 (x.unl.map zay),.sl 8 (x.unt.map zay)] 0),(72,.t (.sl 7 (x.eqs.map equT))),(73,.i (x.eqs.map equT).length),(74,.i i)]) (fun _=>[zct es n q]) rfl (fun i hlt2 ha2=>?_) (fun ha2=>?_)
    ·have hx2:=ziz hlt2
     have g1:=zaJ (f:=equE es) hlt2 ha2
     have g2:=zaz (f:=equE es) hlt2 ha2
     have hs:=heq _ (qaf hlt2)
     generalize x.eqs[i]=u at*
     unfold equC at hx2 hs
     repeat' (first|refine wu ?_|exact wkc|intro hc|refine wk2 ?_ ?_|refine we hs ?_ ?_|fail)
     all_goals exact zwbg
    have he2:=zaF ha2
    refine wk ?_
    repeat' (first|refine wu ?_|exact wkc|intro hc|refine wk2 ?_ ?_|fail)
    refine TR.zaA x.autos.length (fun i=>zac F (x.autos.take i)=0) (fun i=>[(0,.ref 0 0),(2,.i d),(4,.cp [.sl 6 (l.map staT)] 0),(29,.t (.sl 6 (l.map staT))),(30,.i (l.map staT).length),(31,.i j),(7,.cp [.s x.name,zap x.locals,.sl 7 (x.eqs.map equT),.sl 1 (x.autos.map zar),.sl 8 (x.unl.map zay),.sl 8 (x.unt.map zay)] 0),(83,.t (.sl 1 (x.autos.map zar))),(84,.i (x.autos.map zar).length),(85,.i i)]) (fun _=>[zct es n q]) rfl (fun i hlt2 ha2=>?_) (fun ha2=>?_)
    ·have hx2:=zg8 hlt2
     have g1:=zaJ (f:=F) hlt2 ha2
     have g2:=zaz (f:=F) hlt2 ha2
     have hs:=hau _ (qaf hlt2)
     generalize x.autos[i]=u at*
     unfold zdL at hx2 hs
     repeat' (first|refine wu ?_|exact wkc|intro hc|refine wk2 ?_ ?_|refine we hs ?_ ?_|fail)
     all_goals exact zwbg
    have he3:=zaF ha2
    refine wk ?_
    repeat' (first|refine wu ?_|exact wkc|intro hc|refine wk2 ?_ ?_|refine we ht1 ?_ ?_|refine we ht2 ?_ ?_|fail)
    all_goals first
     | exact zab.zaI hlt (h2 (by clear hi hd1 ht1 ht2 heq hau hx;grind))
     | ((repeat' (first|refine zab.panic ?_|refine wk ?_|fail));apply retF;(first|assumption|decide);(clear hi hd1 ht1 ht2 heq hau hx;grind);exact rfl;exact rfl)
   ·repeat' (first|refine wu ?_|exact wkc|intro hc|refine wk2 ?_ ?_|fail)
    exact retN (by rw[hz2,zaF ha]) rfl rfl
theorem zlG(es:List En)(n q:Int)(a:Auto)(hw:(zar a).w≤1000000000):LS 89 [.t (.ag (zdL a)),.i 0] es n q (zdy es 3 a):=zgj es n q 3 0 (qae _) rfl a hw
theorem wka{G Q:Prop}(k:Q)(h:Hold Q->G:=by
  (intro k;apply TO.ztA zaf;(iterate 9 exact rfl);exact leB;exact k.p)):G:=h ⟨k⟩
theorem retQ{rs:List ResultVar}{env:Env}{H H1:Heap}{v:SV}{n q q' c c':Int}(h0:c'≠0)(hc:c'=c)(hq:q'=q)(hN:Nat.ble 1 H.length=true)(hb:zaa H.length H=true):
  RetK tab rs 1 (Err0 c v (zih n q c) H1 1) (.panic (zih n q' c')) env H:=by
 subst hc hq;exact RetK.errP h0 hN rfl hb
theorem zks{α:Type}{f:α->Int}{l:List α}{k:Nat}(hk:k<l.length)(h:zac f (l.take k)=0)(hn:f l[k]≠0):zdd f l=((k:Int),f l[k]):=by
 conv=>lhs;rw[<-qaV k l]
 rw[zfq,if_pos h,qaT hk,zac,if_neg hn,if_neg hn,zdd,if_neg hn]
 simp;omega
theorem zlu(n:Nod):(zap n.ins).w+(zap n.outs).w+(zap n.locals).w+(T.sl 7 (n.eqs.map equT)).w+(T.sl 1 (n.autos.map zar)).w+(T.sl 6 (n.assume.map exT)).w+(T.sl 6 (n.ensure.map exT)).w≤(nodT n).w:=by
 rw[show nodT n= .ag (nodC n) from rfl,w_ag];simp only[nodC,qah,qaC,qay,qaQ];omega
set_option maxHeartbeats 1000000 in
theorem zmk (es:List En) (a b i:Int) (n:Nod) (hw:(nodT n).w≤1000000000):
  Sound Tryz.prog 56 [.ref 0 0,.i i,.t (.ag (nodC n))] [zct es a b] (Err (zcu es n).2 (.tup []) (zih i (zcu es n).1 (zcu es n).2) [zct es i (-1)]):=by
 refine Sound.err rfl (fun _=>rfl) ?_
 have hwn:=zlu n
 have l1:=zaB equT 7 n.eqs
 have l2:=zaB zar 1 n.autos
 have l3:=zaB exT 6 n.assume
 have l4:=zaB exT 6 n.ensure
 have m1:(n.ins.map zav).length=n.ins.length:=qab _
 have m2:(n.outs.map zav).length=n.outs.length:=qab _
 have m3:(n.locals.map zav).length=n.locals.length:=qab _
 have m4:(n.eqs.map equT).length=n.eqs.length:=qab _
 have m5:(n.autos.map zar).length=n.autos.length:=qab _
 have m6:(n.assume.map exT).length=n.assume.length:=qab _
 have m7:(n.ensure.map exT).length=n.ensure.length:=qab _
 have hi:=zbL es i (-1) n.name
 have hd1:=zdc es i (-1) n.ins true (by omega)
 have hd2:=zdc es i (-1) n.outs true (by omega)
 have hd3:=zdc es i (-1) n.locals false (by omega)
 have heq:∀(q:Int) u,u∈n.eqs->LS 88 [.t (.ag (equC u))] es i q (equE es u):=fun q u hu=>ziI es i q u (by have:=zaN (f:=equT) (sz:=7) hu;omega)
 have hau:∀u,u∈n.autos->LS 89 [.t (.ag (zdL u)),.i 0] es i (-1) (zdy es 3 u):=fun u hu=>zlG es i (-1) u (by have:=zaN (f:=zar) (sz:=1) hu;omega)
 have hex:∀u,u∈n.assume\/u∈n.ensure->wEx u≤1000000000:=fun u hu=>by
  have:=zh8 u
  rcases hu with hu|hu
  ·have:=zaN (f:=exT) (sz:=6) hu;omega
  ·have:=zaN (f:=exT) (sz:=6) hu;omega
 have hz:zcu es n=zcu es n:=rfl
 conv at hz=>rhs;unfold zcu zl8 zqR orE
 generalize zcu es n=z at hz⊢
 unfold nodC
 clear hwn hw
 refine so Tryz.func56 ?_
 repeat' (first|refine wu ?_|exact wkc|intro hc|refine wk2 ?_ ?_|refine wm ?_|refine we hi ?_ ?_|refine we hd1 ?_ ?_|refine we hd2 ?_ ?_|refine we hd3 ?_ ?_|fail)
 all_goals first
  | ((repeat' (first|refine zab.panic ?_|refine wk ?_|fail));apply retQ;(first|assumption|decide);(clear hi hd1 hd2 hd3 heq hau hex;grind);(clear hi hd1 hd2 hd3 heq hau hex;grind);exact rfl;exact rfl)
  | skip
 refine TR.zaA n.eqs.length (fun k=>zac (equE es) (n.eqs.take k)=0) (fun k=>[(0,.ref 0 0),(5,.cp (nC n) 0),(80,.t (.sl 7 (n.eqs.map equT))),(81,.i (n.eqs.map equT).length),(82,.i k)]) (fun k=>[zct es i ((k:Int)-1)]) rfl (fun k hlt ha=>?_) (fun ha=>?_)
 ·have hx:=ziz hlt
  have g1:=zaJ (f:=(equE es)) hlt ha
  have g2:=zaz (f:=(equE es)) hlt ha
  have hs:=heq k _ (qaf hlt)
  have g3:=zks (f:=equE es) hlt ha
  generalize n.eqs[k]=u at*
  unfold equC at hx hs
  repeat' (first|refine wkt ?_|refine wka ?_|refine wk ?_|exact wkc|intro hc|refine wk2 ?_ ?_|refine we hs ?_ ?_|fail)
  all_goals first
   | (refine zab.zaI hlt (g2 hc) ?_ (by rw[show((k+1:Nat):Int)-1=k from by omega]);repeat' (first|exact trivial|refine qai rfl ?_|fail))
   | ((repeat' (first|refine zab.panic ?_|refine wk ?_|fail));apply retQ;(first|assumption|decide);(clear hs hi hd1 hd2 hd3 heq hau hex hx;grind);(clear hs hi hd1 hd2 hd3 heq hau hex hx;grind);exact rfl;exact rfl)
 have e1:=zaF ha
 clear hi hd1 hd2 hd3 heq
 refine wk ?_
 repeat' (first|refine wu ?_|exact wkc|intro hc|refine wk2 ?_ ?_|fail)
 refine TR.zaA n.autos.length (fun k=>zac (zdy es 3) (n.autos.take k)=0) (fun k=>[(0,.ref 0 0),(5,.cp (nC n) 0),(101,.t (.sl 1 (n.autos.map zar))),(102,.i (n.autos.map zar).length),(103,.i k)]) (fun k=>[zct es i (-1)]) rfl (fun k hlt ha=>?_) (fun ha=>?_)
 ·have hx:=zg8 hlt
  have g1:=zaJ (f:=(zdy es 3)) hlt ha
  have g2:=zaz (f:=(zdy es 3)) hlt ha
  have hs:=hau _ (qaf hlt)
  generalize n.autos[k]=u at*
  unfold zdL at hx hs
  repeat' (first|refine wu ?_|exact wkc|intro hc|refine wk2 ?_ ?_|refine we hs ?_ ?_|fail)
  all_goals first
   | exact zab.zaI hlt (g2 hc)
   | ((repeat' (first|refine zab.panic ?_|refine wk ?_|fail));apply retQ;(first|assumption|decide);(clear hs hau hex hx;grind);(clear hs hau hex hx;grind);exact rfl;exact rfl)
 have e2:=zaF ha
 clear hau
 refine wk ?_
 repeat' (first|refine wu ?_|exact wkc|intro hc|refine wk2 ?_ ?_|fail)
 refine TR.zaA n.assume.length (fun k=>zac (za4 es) (n.assume.take k)=0) (fun k=>[(0,.ref 0 0),(5,.cp (nC n) 0),(112,.t (.sl 6 (n.assume.map exT))),(113,.i (n.assume.map exT).length),(114,.i k)]) (fun k=>[zct es i (-1)]) rfl (fun k hlt ha=>?_) (fun ha=>?_)
 ·have hx:=zd3 hlt
  have g1:=zaJ (f:=(za4 es)) hlt ha
  have g2:=zaz (f:=(za4 es)) hlt ha
  have hs:=zco es _ (hex _ (.inl (qaf hlt)))
  rw[zae]at hs
  generalize n.assume[k]=u at*
  exact zwm
 have e3:=zaF ha
 refine wk ?_
 repeat' (first|refine wu ?_|exact wkc|intro hc|refine wk2 ?_ ?_|fail)
 refine TR.zaA n.ensure.length (fun k=>zac (za4 es) (n.ensure.take k)=0) (fun k=>[(0,.ref 0 0),(5,.cp (nC n) 0),(128,.t (.sl 6 (n.ensure.map exT))),(129,.i (n.ensure.map exT).length),(130,.i k)]) (fun k=>[zct es i (-1)]) rfl (fun k hlt ha=>?_) (fun ha=>?_)
 ·have hx:=zd3 hlt
  have g1:=zaJ (f:=(za4 es)) hlt ha
  have g2:=zaz (f:=(za4 es)) hlt ha
  have hs:=zco es _ (hex _ (.inr (qaf hlt)))
  rw[zae]at hs
  generalize n.ensure[k]=u at*
  exact zwm
 have e4:=zaF ha
 refine wk ?_
 repeat' (first|refine wu ?_|exact wkc|intro hc|refine wk2 ?_ ?_|fail)
 refine RetK.errN (vs:=[]) ?_ rfl (Le.refl _) rfl rfl rfl rfl rfl
 clear hex;grind
end Go.Proofs.YthmbhfgflijapaaGreatDoor
namespace Go.TL
open Go
section rules
variable {P:Program}{n:Nat}{env:Env}{H:Heap}{K:TK}{all:Array Oper}{rest:List Oper}{tab:Tab}{q:Bool}
variable {d:Nat}{ty:TypeId}{pos:String}{aft:Array Edge}
theorem TO.zg7(hT:zaw P tab){t xt:TypeId}{i:TyI}{x:Operand}{s:SV}(hd:Nat.ble (d+1) n=true)(hx:env.val x=some (.ifc t s))(ht:tab.get t=some i)(ha:i.k.agg=true)
  (k:TO q P n all rest ((d,.tup [s,.b true])::env) H K):TO q P n all (⟨some d,.typeAssert x xt t true,ty,pos,aft,none⟩::rest) env H K:=
 TO.op hd (fun m ac h1 h2 h3=>by
  have hv:=h3.val hx
  generalize hq:ac.eval x=u at hv
  cases hv with
  | ifc _ _ y hy=>
    obtain⟨dd,ti,z,g1,g2,g3,g4,g5,g6,g7,g8,g9⟩:=(hT t i ht).ex
    refine⟨.tuple #[y,.bool true],fun w' hw'=>?_,?_⟩
    ·cases hk:i.k <;> rw[hk]at ha g3 <;> simp[TK'.agg]at ha <;> cases dd <;> simp[TK'.fits]at g3 <;> simp[execOp,hq,Instr.typeAssert,run_underlying g1]
    ·refine .tup _ _ rfl fun j c z hc hz=>?_
     match j with
     | 0=>simp at hc hz;subst hc hz;exact hy
     | 1=>simp at hc hz;subst hc hz;exact .t _ _ (.v _)
     | j+2=>simp at hc) k
theorem TO.ziy(hT:zaw P tab){t xt:TypeId}{i:TyI}{x:Operand}(hd:Nat.ble (d+1) n=true)(hx:env.val x=some (.t (.v .nilIface)))(ht:tab.get t=some i)(ha:i.k.agg=true)
  (k:TO q P n all rest ((d,.tup [.t (.ag i.zero),.b false])::env) H K):TO q P n all (⟨some d,.typeAssert x xt t true,ty,pos,aft,none⟩::rest) env H K:=
 TO.op hd (fun m ac h1 h2 h3=>by
  have hv:=h3.val hx
  generalize hq:ac.eval x=u at hv
  have hu:=hv.v_eq
  subst hu
  obtain⟨dd,ti,z,g1,g2,g3,g4,g5,g6,g7,g8,g9⟩:=(hT t i ht).ex
  obtain⟨cs,rfl⟩:=g8 ha
  obtain⟨z1,z2,z3⟩:=zb3 (A:=m.A) (w:=m.w) _ _ g7
  refine⟨.tuple #[.agg cs,.bool false],fun w' hw'=>?_,?_⟩
  ·have hz:(zeroValue t).run P w'= .ok (.agg cs) w':=by simp[zeroValue,typeInfo,g2,g6]
   cases hk:i.k <;> rw[hk]at ha g3 <;> simp[TK'.agg]at ha <;> cases dd <;> simp[TK'.fits]at g3 <;> simp[execOp,hq,Instr.typeAssert,run_underlying g1,hz]
  ·refine .tup _ _ rfl fun j c z hc hz=>?_
   match j with
   | 0=>
     simp at hc hz;subst hc hz
     refine .t _ _ (.ag _ _ (by simpa [Value.cells]using z1.symm) (fun i y hy=>z2 i y (by simpa [Value.cells]using hy)) fun i c y hc hy=>z3 i c y hc (by simpa [Value.cells]using hy))
   | 1=>simp at hc hz;subst hc hz;exact .t _ _ (.v _)
   | j+2=>simp at hc) k
end rules
end Go.TL
namespace Go.Proofs.YthmbhfgflijapaaGreatDoor
open Go Go.TL
attribute [local irreducible] TR TO Then zag RetK Sound zab Kf GG zaK
theorem ziD(n q c:Int)(a b d:SV)(Hr:Heap)(hb:zaa (Hr.length+2) Hr=true):
  zcj Tryz.prog 53 [.ref 0 0,.ref 1 0] (.cells [a,b]:: .cells [d]::Hr) (some (zih n q c)) (fun H3=>H3= .cells [.i n,.i q]:: .cells [.i c]::Hr):=by
 refine zcj.of (tab:=tab) Tryz.func53 (by kernel_rfl) rfl rfl rfl rfl ?_
 repeat' (first|refine wu ?_|exact wkc|intro hc|refine wk2 ?_ ?_|(apply TO.zg7 zaf;(iterate 4 exact rfl))|fail)
 refine Then.normal ?_
 repeat' (first|refine wkt ?_|fail)
 refine TR.zjC (envF:=?envF) (HF:=.cells [.i n,.i q]:: .cells [.i c]::Hr) [(.cp [T.i n,T.i q,T.i c] 0,false),(.t (.ag [T.i n,T.i q]),false),(.cp [T.i n,T.i q,T.i c] 2,false),(.i c,false),(.any,true),(.any,true)] [.cells [a,b]:: .cells [d]::Hr,.cells [.i n,.i q]:: .cells [d]::Hr,.cells [.i n,.i q]:: .cells [.i c]::Hr] hmix ?hB ?h0 ?hp ?hF ?hE ?hK
 case hB=>(dsimp only[List.map];decide +kernel)
 case h0=>exact rfl
 case hF=>exact rfl
 case hE=>exact rfl
 case hp=>repeat' (first|refine wu ?_|exact trivial|exact qai rfl rfl|refine qai (fun H env=>?_) ?_|refine qai (fun env=>?_) ?_|fail)
 repeat' (first|refine wu ?_|exact wkc|intro hc|refine wk2 ?_ ?_|fail)
 have ht:(Blk.cells [.i n,.i q]::Blk.cells [.i c]::Hr).take (Blk.cells [a,b]::Blk.cells [d]::Hr).length=Blk.cells [.i n,.i q]::Blk.cells [.i c]::Hr:=by simp
 refine⟨qae _,?_,ht⟩
 show zaa _ (List.take _ (Blk.cells [.i n,.i q]::Blk.cells [.i c]::Hr))=true
 rw[ht]
 exact hb
theorem znZ(H:Heap)(hb:zaa H.length H=true):
  zcj Tryz.prog 53 [.ref 0 0,.ref 1 0] H none (fun H3=>H3=H):=by
 refine zcj.of (tab:=tab) Tryz.func53 (by kernel_rfl) rfl rfl rfl rfl ?_
 repeat' (first|refine wu ?_|exact wkc|intro hc|refine wk2 ?_ ?_|(apply TO.ziy zaf;(iterate 4 exact rfl))|fail)
 refine Then.normal ?_
 repeat' (first|refine wu ?_|exact wkc|intro hc|refine wk2 ?_ ?_|fail)
 exact⟨qae _,by rw[qaI (qae _)];exact hb,qaI (qae _)⟩
theorem we3{G Q1 Q2:Prop}{f:FuncId}{cargs:List SV}{v pv:SV}{c:Int}{Hc H1:Heap}(hs:Sound Tryz.prog f cargs Hc (Err c v pv H1))(k1:Q1)(k2:Q2)(h:Sound Tryz.prog f cargs Hc (Err c v pv H1)->Hold Q1->Hold Q2->G:=by
  intro hs k1 k2
  (apply TO.zkf [2] hs;(iterate 3 exact rfl);exact zqa;exact rfl;exact Hands.one rfl rfl;(iterate 4 exact rfl);exact k1.p;exact k2.p)):G:=h hs ⟨k1⟩ ⟨k2⟩
structure zsG (p:Prog) (w:Nat):Prop where
 es:p.enums.length≤w
 tg:∀u∈p.enums,u.tags.length≤w
 ns:p.nodes.length≤w
 nd:∀n∈p.nodes,(nodT n).w≤w
theorem zqn{p:Prog}{w:Nat}(hw:(T.ag (za8 p)).w≤w):zsG p w:=by
 have l1:(T.sl 2 (p.enums.map enT)).w+(zbB p.nodes).w≤(T.ag (za8 p)).w:=by rw[w_ag];simp only[za8,qah,qaC,qay,qaQ];omega
 have b1:=zaB enT 2 p.enums
 have b2:=zaB nodT 8 p.nodes
 have h8:(zbB p.nodes).w=(T.sl 8 (p.nodes.map nodT)).w:=rfl
 refine⟨by omega,fun u hu=>?_,by omega,fun n hn=>?_⟩
 ·have:=zaN (f:=enT) (sz:=2) hu
  rw[enT,w_ag]at this;simp only[qah,qaC,qay,qaQ]at this
  have:=zaB T.s 1 u.tags
  omega
 ·have:=zaN (f:=nodT) (sz:=8) hn
  omega
theorem zlb(p:Prog)(hw:zsG p 1000000000):Pure Tryz.prog 28 [.t (.ag (za8 p))] (.tup [.t (.ag [T.i (za7 p).1.1,T.i (za7 p).1.2]),.i (za7 p).2]):=by
 refine Sound.ze6 zaf Tryz.func28 (by kernel_rfl) rfl rfl (gf:=53) (cv:=[.ref 0 0,.ref 1 0]) ?_
 unfold za8
 refine TD.seq ?_
 repeat' (first|refine wu ?_|fail)
 show TD _ _ (.seq _ _) _ _ _ _ _ _
 refine TD.defer (tz:=0) rfl rfl ?_
 have m1:(p.enums.map enT).length=p.enums.length:=qab _
 have m2:(p.nodes.map nodT).length=p.nodes.length:=qab _
 have b1:=hw.es
 have b2:=hw.ns
 have hen:∀(n q:Int) u,u∈p.enums->LS 55 [.t (.ag [.s u.name,.sl 1 (u.tags.map T.s)])] p.enums n q (zeK u):=fun n q u hu=>zlY p.enums n q u (hw.tg u hu)
 have hno:∀(a b i:Int) u,u∈p.nodes->Sound Tryz.prog 56 [.ref 0 0,.i i,.t (.ag (nodC u))] [zct p.enums a b] (Err (zcu p.enums u).2 (.tup []) (zih i (zcu p.enums u).1 (zcu p.enums u).2) [zct p.enums i (-1)]):=fun a b i u hu=>zmk p.enums a b i u (hw.nd u hu)
 have hz:za7 p=za7 p:=rfl
 conv at hz=>rhs;unfold za7 limE
 generalize za7 p=z at hz⊢
 refine wk ?_
 repeat' (first|refine wkt ?_|refine wka ?_|refine wk ?_|exact wkc|intro hc|refine wk2 ?_ ?_|(apply TO.zds [2] (zpX p.enums (-1) (-1) 3);(iterate 3 exact rfl);exact⟨Le.refl _,Le.refl _,Le.refl _,trivial⟩;exact rfl;exact Hands.one rfl rfl;exact rfl;exact rfl)|refine we3 (zpW p.enums (-1) (-1) 3 (by decide)) ?_ ?_|fail)
 all_goals first
  | (have hzz:z=((-1,-1),3):=by rw[hz];clear hen hno;grind
     subst hzz
     exact⟨_,ziD _ _ _ _ _ _ _ rfl,fun H3 h=>by subst h;exact wkr⟩)
  | skip
 rw[if_neg (by clear hen hno hz;simp;omega)]at hz
 refine TR.zaA p.enums.length (fun k=>zac zeK (p.enums.take k)=0) (fun k=>[(1,.cp [.sl 2 (p.enums.map enT),zbB p.nodes] 0),(2,.ref 0 0),(3,.ref 1 0),(4,.ref 2 0),(28,.t (.sl 2 (p.enums.map enT))),(29,.i (p.enums.map enT).length),(30,.i k)])
  (fun k=>[.cells [.i 0,.i 0],.cells [.i 0],zct p.enums (-1) (-1)]) rfl (fun k hlt ha=>?_) (fun ha=>?_)
 ·have hx:(p.enums.map enT)[k]?=some (.ag [.s p.enums[k].name,.sl 1 (p.enums[k].tags.map T.s)]):=zbj enT hlt
  have g1:=zaJ (f:=zeK) hlt ha
  have g2:=zaz (f:=zeK) hlt ha
  have hs:=hen (-1) (-1) _ (qaf hlt)
  generalize p.enums[k]=u at*
  clear hen hno
  repeat' (first|refine wkt ?_|refine wka ?_|refine wk ?_|exact wkc|intro hc|refine wk2 ?_ ?_|refine we3 hs ?_ ?_|fail)
  ·exact zab.zaI hlt (g2 hc)
  ·rw[if_pos (by rw[g1 hc];exact hc),g1 hc]at hz
   exact zwde
 have e1:=zaF ha
 rw[if_neg (by simp[e1])]at hz
 clear hen
 refine wk ?_
 repeat' (first|refine wu ?_|exact wkc|intro hc|refine wk2 ?_ ?_|fail)
 refine TR.zaA p.nodes.length (fun k=>zac (fun n=>(zcu p.enums n).2) (p.nodes.take k)=0) (fun k=>[(2,.ref 0 0),(3,.ref 1 0),(4,.ref 2 0),(39,.t (zbB p.nodes)),(40,.i (p.nodes.map nodT).length),(41,.i k)])
  (fun k=>[.cells [.i 0,.i 0],.cells [.i 0],zct p.enums ((k:Int)-1) (-1)]) rfl (fun k hlt ha=>?_) (fun ha=>?_)
 ·have hx:=zj5 hlt
  have g1:=zaJ (f:=fun n=>(zcu p.enums n).2) hlt ha
  have g2:=zaz (f:=fun n=>(zcu p.enums n).2) hlt ha
  have g3:=zks (f:=fun n=>(zcu p.enums n).2) hlt ha
  have hs:=hno ((k:Int)-1) (-1) k _ (qaf hlt)
  have hat:p.nodes[k]?=some p.nodes[k]:=qac hlt
  generalize p.nodes[k]=u at*
  clear hno
  unfold nodC at hx hs
  repeat' (first|refine wkt ?_|refine wka ?_|refine wk ?_|exact wkc|intro hc|refine wk2 ?_ ?_|refine we3 hs ?_ ?_|fail)
  ·refine zab.zaI hlt (g2 hc) ?_ (by rw[show((k+1:Nat):Int)-1=k from by omega];rfl)
   repeat' (first|exact trivial|refine qai rfl ?_|fail)
  ·rw[if_neg (by rw[g1 hc];exact hc),g3 hc,g1 hc]at hz
   simp only[qcv,hat,qaW,qbm]at hz
   exact zwde
 have e2:=zaF ha
 rw[if_pos e2]at hz
 subst hz
 refine wk ?_
 repeat' (first|refine wu ?_|exact wkc|intro hc|refine wk2 ?_ ?_|fail)
 exact⟨_,znZ _ rfl,fun H3 h=>by subst h;exact wkr⟩
theorem zgt(p:Prog)(hw:(T.ag (za8 p)).w≤1000000000):Pure Tryz.prog 28 [.t (.ag (za8 p))] (.tup [.t (.ag [T.i (za7 p).1.1,T.i (za7 p).1.2]),.i (za7 p).2]):=zlb p (zqn hw)
theorem kStr:Maps.Keyed Tryz.prog 9:=Maps.string_keyed Tryz.underlying9
set_option maxRecDepth 100000 in
theorem kKey:Maps.Keyed Tryz.prog 101:=Maps.Keyed.of_law (deep_law_laid (m:=3) (by kernel_rfl) (by decide) (qag (by kernel_rfl)) (by kernel_rfl) (by kernel_rfl))
theorem keyS{s:Str}(h:s.length≤1000000000):∃l,keyOf Tryz.prog 9 (str s)=some l:=by
 exact zwcj
abbrev keyV (k:Int)(s:Str):Value:=.agg #[.int .i64 k,str s]
theorem zv9:Tryz.prog.keyType 101=true:=by kernel_rfl
theorem zsN:Tryz.prog.cellsOf 101=2:=by kernel_rfl
theorem zu6:Tryz.prog.cellsOf 3=1:=by kernel_rfl
theorem zu7:Tryz.prog.cellsOf 9=1:=by kernel_rfl
theorem zv1:∃N,Tryz.prog.types.size=N+1:=⟨Tryz.prog.types.size-1,by kernel_rfl⟩
theorem zrT(N:Nat){k:Int}{s:Str}(hw:(Lit.int .i64 k).wf=true)(hs:(⟨s.toArray⟩:ByteArray).size≤maxLen):
  (Tryz.prog.keyLits (N+1+1) 101 [.int .i64 k,str s])=some [.int .i64 k,.string s]:=by
 have e1:∀c,Tryz.prog.keyLits (N+1) 3 [c]=(match c with| .int q' n=>if q'= .i64/\(Lit.int .i64 n).wf=true then some [.int .i64 n] else none|_=>none):=fun c=>by
  unfold Program.keyLits
  simp only[Tryz.underlying3]
  cases c <;> rfl
 have e2:Tryz.prog.keyLits (N+1) 9 [str s]=some [.string s]:=by
  unfold Program.keyLits
  simp only[Tryz.underlying9]
  rw[if_pos hs]
 unfold Program.keyLits
 simp only[Tryz.underlying101,zsN]
 simp only[qal,qaz,qb0,List.mapM_nil,zu6,zu7,qbe,List.take,List.drop,e1,e2,hw]
 simp
theorem keyK{k:Int}{s:Str}(hk:0≤k/\k≤2)(h:s.length≤1000000000):∃l,keyOf Tryz.prog 101 (keyV k s)=some l:=by
 have hs:(⟨s.toArray⟩:ByteArray).size≤maxLen:=by
  show s.toArray.size≤maxLen
  simp[maxLen];omega
 have hw:(Lit.int .i64 k).wf=true:=by
  simp only[Lit.wf,qau,decide_eq_true_eq]
  exact⟨by show(-9223372036854775808:Int)≤k;omega,by show k≤(9223372036854775807:Int);omega⟩
 have h5:(Value.agg #[.int .i64 k,str s]).formed Tryz.prog 101=true:=by
  simp only[Value.formed,Tryz.underlying101,zsN];rfl
 obtain⟨N,hN⟩:=zv1
 refine⟨.string (keyBytes [.int .i64 k,.string s]),?_⟩
 rw[keyOf,Tryz.underlying101]
 simp only[zv9,h5,hN,Value.cells,Bool.and_self,if_true,zrT N hw hs,qaW]
end Go.Proofs.YthmbhfgflijapaaGreatDoor
