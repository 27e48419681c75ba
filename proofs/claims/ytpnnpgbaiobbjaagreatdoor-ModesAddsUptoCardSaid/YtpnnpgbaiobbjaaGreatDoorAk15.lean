import Derived.Test.YtpnnpgbaiobbjaaGreatDoorAk14
set_option linter.all false
namespace Go.Proofs.YtpnnpgbaiobbjaaGreatDoor
open Go Go.TL
attribute [local irreducible] TR TO Then zao RetK Sound zab Kf GG zaZ
theorem zaF{α:Type}{f:α->Int}{l:List α}{k:Nat}(hk:k<l.length)(h:zaf f (l.take k)=0)(hn:f l[k]≠0):zaf f l=f l[k]:=by
 conv=>lhs;rw[<-qaS k l]
 rw[zcL,if_pos h,qbl hk,zaf,if_neg hn]
theorem zaq{α:Type}{f:α->Int}{l:List α}{k:Nat}(hk:k<l.length)(h:zaf f (l.take k)=0)(hz:f l[k]=0):zaf f (l.take (k+1))=0:=by
 rw[qaA hk,zcL,if_pos h,zaf,if_pos hz,zaf]
theorem zaH{α:Type}{f:α->Int}{l:List α}(h:zaf f (l.take l.length)=0):zaf f l=0:=by rwa [qah]at h
theorem at_s{l:List Str}{k:Nat}(h:k<l.length):(l.map T.s)[k]?=some (T.s l[k]):=by simp[h]
theorem zvl{l:List OnC}{k:Nat}(h:k<l.length):(l.map onT)[k]?=some (.ag [.s l[k].name,T.n l[k].t,T.n l[k].tag]):=zar onT h
theorem zms(es:List En)(n q:Int)(u:En)(hw:u.tags.length≤1000000000):LS 72 [.t (.ag [.s u.name,.sl 1 (u.tags.map T.s)])] es n q (zft u):=by
 refine Sound.err rfl (fun _=>rfl) ?_
 have hi:=zbD es n q u.name
 have hml:(u.tags.map T.s).length=u.tags.length:=qaa _
 have hz:zft u=zft u:=rfl
 conv at hz=>rhs;unfold zft orE
 generalize zft u=z at hz⊢
 refine so Tryz.func72 ?_
 repeat' (first|refine wu ?_|exact wkc|intro hc|refine wk2 ?_ ?_|refine we hi ?_ ?_|refine wm ?_|fail)
 all_goals first
  | (apply retF;assumption;(rw[hz];clear hi;grind);exact rfl;exact rfl)
  | (apply retF;decide;(rw[hz];clear hi;grind);exact rfl;exact rfl)
  | skip
 have hz2:z=zaf zcw u.tags:=by rw[hz];clear hi;grind
 clear hz
 generalize u.tags=l at*
 refine TR.zal l.length (fun k=>zaf zcw (l.take k)=0) (fun k=>[(0,.ref 0 0),(23,.t (.sl 1 (l.map T.s))),(24,.i (l.map T.s).length),(25,.i k)]) (fun _=>[zck es n q]) rfl (fun k hlt ha=>?_) (fun ha=>?_)
 ·have hx:=at_s hlt
  have h1:=zaF (f:=zcw) hlt ha
  have h2:=zaq (f:=zcw) hlt ha
  generalize l[k]=x at*
  have hs:=zbD es n q x
  repeat' (first|refine wu ?_|exact wkc|intro hc|refine wk2 ?_ ?_|refine we hs ?_ ?_|fail)
  ·exact zab.zat hlt (h2 hc)
  ·refine zab.panic ?_
   repeat' (first|refine wu ?_|exact wkc|intro hc|refine wk2 ?_ ?_|fail)
   exact retF hc (by rw[hz2,h1 hc]) rfl rfl
 ·repeat' (first|refine wu ?_|exact wkc|intro hc|refine wk2 ?_ ?_|fail)
  exact retN (by rw[hz2,zaH ha]) rfl rfl
theorem zc4(es:List En)(n q:Int)(l:List Decl)(port:Bool)(hw:(zac l).w≤1000000000):LS 123 [.t (zac l),.b port] es n q (zaf (zfp es port) l):=by
 refine Sound.err rfl (fun _=>rfl) ?_
 have hml:(l.map zaa).length=l.length:=qaa _
 have hlb:l.length≤1000000000:=qaE (qbs (zai zaa 3 l)) hw
 refine so Tryz.func123 ?_
 repeat' (first|refine wu ?_|exact wkc|intro hc|refine wk2 ?_ ?_|fail)
 refine TR.zal l.length (fun k=>zaf (zfp es port) (l.take k)=0) (fun k=>[(0,.ref 0 0),(2,.b port),(10,.t (zac l)),(11,.i (l.map zaa).length),(12,.i k)]) (fun _=>[zck es n q]) rfl (fun k hlt ha=>?_) (fun ha=>?_)
 ·have hx:=zcQ hlt
  have h1:=zaF (f:=zfp es port) hlt ha
  have h2:=zaq (f:=zfp es port) hlt ha
  have hcl:=zai onT 3 l[k].clock
  have hwx:=zav (f:=zaa) (sz:=3) (qad hlt)
  rw[show zaa l[k]= .ag (zeR l[k]) from rfl,w_ag]at hwx
  generalize l[k]=x at*
  simp only[zeR,qaj,qay,qao,qaI]at hwx
  have hmo:(x.clock.map onT).length=x.clock.length:=qaa _
  have hs:=zbD es n q x.name
  have hsz:=zgh es x.ty
  unfold zeR at hx
  have hz:zfp es port x=zfp es port x:=rfl
  conv at hz=>rhs;unfold zfp orE
  generalize zfp es port x=z at hz h1 h2
  cases port
  all_goals
   repeat' (first|refine wu ?_|exact wkc|intro hc|refine wk2 ?_ ?_|refine we hs ?_ ?_|refine wm ?_|refine wv hsz ?_|fail)
  all_goals first
   | (refine zab.panic ?_
      refine wk ?_
      apply retF
      first|assumption|decide
      ·clear hs hsz;grind
      exact rfl
      exact rfl)
   | skip
  all_goals
   have hz2:z=zaf (onE es) x.clock:=by clear hs hsz;grind
   clear hz hs hsz
   generalize x.clock=cl at*
   refine TR.zal cl.length (fun j=>zaf (onE es) (cl.take j)=0) (fun j=>[(0,.ref 0 0),(2,.b _),(10,.t (zac l)),(11,.i (l.map zaa).length),(12,.i k),(47,.t (.sl 3 (cl.map onT))),(48,.i (cl.map onT).length),(49,.i j)]) (fun _=>[zck es n q]) rfl (fun j hlt2 ha2=>?_) (fun ha2=>?_)
   ·have hx2:=zvl hlt2
    have g1:=zaF (f:=onE es) hlt2 ha2
    have g2:=zaq (f:=onE es) hlt2 ha2
    generalize cl[j]=o at*
    have hs:=zbD es n q o.name
    have hh:=zk9 es o.t o.tag
    have hz:onE es o=onE es o:=rfl
    conv at hz=>rhs;unfold onE orE
    generalize onE es o=z3 at hz g1 g2
    repeat' (first|refine wu ?_|exact wkc|intro hc|refine wk2 ?_ ?_|refine we hs ?_ ?_|refine wm ?_|refine wb hh ?_ ?_|fail)
    all_goals first
     | exact zab.zat hlt2 (g2 (by clear hs hh;grind))
     | (refine zab.panic ?_
        refine wk ?_
        refine zab.panic ?_
        refine wk ?_
        apply retF
        first|assumption|decide
        ·clear hs hh;grind
        exact rfl
        exact rfl)
   ·have hz3:=zaH ha2
    refine wk ?_
    repeat' (first|refine wu ?_|exact wkc|intro hc|refine wk2 ?_ ?_|fail)
    exact zab.zat hlt (h2 (by rw[hz2,hz3]))
 ·repeat' (first|refine wu ?_|exact wkc|intro hc|refine wk2 ?_ ?_|fail)
  exact retN (zaH ha) rfl rfl
def allF(g:Ex->Bool)(H1:Heap)(_:List Ex)(x:Ex):Out:=if g x=true then .go else .jump .ret H1
theorem zoi(g:Ex->Bool)(H1:Heap):∀(l pre:List Ex),zbc (allF g H1) pre l=if l.all g=true then .go else .jump .ret H1
 | [],pre=>by simp[zbc]
 | x::l,pre=>by
   simp only[zbc,allF,qbG,qaz]
   by_cases h:g x=true
   ·simp only[h,if_true,true_and];exact zoi g H1 l _
   ·simp[h]
theorem zij(e:Ex)(h:wEx e≤1000000000):Pure Tryz.prog 257 [.t (.ag (exC e))] (.b (sless e)):=by
 have hs:=zcN e
 rw[zay]at hs
 have hc0:exC e=[T.n e.kind,T.n e.op,T.n e.t,T.n e.v,.s e.name,.sl 6 (e.args.map exT)]:=rfl
 rw[hc0]at hs⊢
 unfold sless
 refine so Tryz.func257 ?_
 repeat' (first|refine wkb ?_|refine wk ?_|exact wkc|intro hc|refine wk2 ?_ ?_|refine wv hs ?_|fail)
 refine TR.zdF e (fun _=>[.cells [.b false]]) (allF (fun x=>zlL x.kind.1) [.cells [.b false]]) rfl h rfl rfl rfl (fun _=>⟨rfl,rfl⟩) (fun pre x=>?_) (fun fn pre x post hw=>?_) (fun fn=>?_)
 ·unfold allF
  split <;> rename_i hq <;> split at hq <;> cases hq
  ·trivial
  ·exact⟨rfl,rfl⟩
 ·have hcx:exC x=[T.n x.kind,T.n x.op,T.n x.t,T.n x.v,.s x.name,.sl 6 (x.args.map exT)]:=rfl
  rw[hcx]
  repeat' (first|refine wu ?_|exact wkc|intro hc|refine wk2 ?_ ?_|fail)
  refine⟨rfl,?_⟩
  repeat' (first|refine wu ?_|exact wkc|intro hc|refine wk2 ?_ ?_|fail)
  all_goals first
   | (refine⟨_,?_,rfl,rfl⟩
      rw[allF,if_neg (by clear hs hc0 hcx;simp[zlL];omega)]
      rfl)
   | (refine⟨?_,rfl,rfl⟩
      rw[allF,if_pos (by clear hs hc0 hcx;simp[zlL];omega)])
 ·rw[zoi]
  by_cases h2:((flat e).all fun x=>zlL x.kind.1)=true
  ·exact zwdq
  ·rw[if_neg h2,qcb _ |>.mp h2]
   simp only[]
   repeat' (first|refine wu ?_|exact wkc|intro hc|refine wk2 ?_ ?_|fail)
   exact wkr
theorem zr2{q:Equ}:wEx q.right≤(equT q).w:=by
 have h:=zdI q.right
 rw[zay,w_ag]at h
 rw[show equT q= .ag (.sl 1 (q.left.map T.s)::exC q.right) from rfl,w_ag,qaj,qao]
 have:=ziS (.sl 1 (q.left.map T.s))
 omega
theorem zda{q:Equ}:q.left.length≤(equT q).w:=by
 have h:=zai T.s 1 q.left
 rw[show equT q= .ag (.sl 1 (q.left.map T.s)::exC q.right) from rfl,w_ag,qaj,qao]
 omega
def equC(q:Equ):List T:=.sl 1 (q.left.map T.s)::[T.n q.right.kind,T.n q.right.op,T.n q.right.t,T.n q.right.v,.s q.right.name,.sl 6 (q.right.args.map exT)]
theorem ziZ{l:List Equ}{k:Nat}(h:k<l.length):(l.map equT)[k]?=some (.ag (equC l[k])):=zar equT h
theorem zjb(es:List En)(n q:Int)(u:Equ)(hw:(equT u).w≤1000000000):LS 124 [.t (.ag (equC u))] es n q (equE es u):=by
 refine Sound.err rfl (fun _=>rfl) ?_
 have hx:=zdQ es u.right (qaE zr2 hw)
 have hlb:u.left.length≤1000000000:=qaE zda hw
 have hml:(u.left.map T.s).length=u.left.length:=qaa _
 have hr:=ze8 es n q (zbY es u.right)
 have hz:equE es u=equE es u:=rfl
 conv at hz=>rhs;unfold equE orE
 rw[zay]at hx
 unfold exC at hx
 unfold equC
 generalize equE es u=z at hz⊢
 generalize zbY es u.right=xe at*
 refine so Tryz.func124 ?_
 repeat' (first|refine wu ?_|exact wkc|intro hc|refine wk2 ?_ ?_|refine wm ?_|fail)
 all_goals first
  | ((repeat' (first|refine zab.panic ?_|refine wk ?_|fail));apply retF;(first|assumption|decide);(clear hr hx;grind);exact rfl;exact rfl)
  | skip
 generalize u.left=l at*
 refine TR.zal l.length (fun k=>zaf zcw (l.take k)=0) (fun k=>[(0,.ref 0 0),(3,.cp [.sl 1 (l.map T.s),T.n u.right.kind,T.n u.right.op,T.n u.right.t,T.n u.right.v,.s u.right.name,.sl 6 (u.right.args.map exT)] 0),(19,.t (.sl 1 (l.map T.s))),(20,.i (l.map T.s).length),(21,.i k)]) (fun _=>[zck es n q]) rfl (fun k hlt ha=>?_) (fun ha=>?_)
 ·have hx:=at_s hlt
  have h1:=zaF (f:=zcw) hlt ha
  have h2:=zaq (f:=zcw) hlt ha
  generalize l[k]=x at*
  have hs:=zbD es n q x
  repeat' (first|refine wu ?_|exact wkc|intro hc|refine wk2 ?_ ?_|refine we hs ?_ ?_|fail)
  all_goals first
   | exact zab.zat hlt (h2 hc)
   | ((repeat' (first|refine zab.panic ?_|refine wk ?_|fail));apply retF;(first|assumption|decide);(clear hr hx hs;grind);exact rfl;exact rfl)
 ·have h1:=zaH ha
  repeat' (first|refine wu ?_|exact wkc|intro hc|refine wk2 ?_ ?_|refine wv hx ?_|refine we hr ?_ ?_|refine wm ?_|fail)
  all_goals first
   | ((repeat' (first|refine zab.panic ?_|refine wk ?_|fail));apply retF;(first|assumption|decide);(clear hr hx;grind);exact rfl;exact rfl)
   | exact retN (by clear hr hx;grind) rfl rfl
def zgY(t:Tran):List T:=[T.n t.cond.kind,T.n t.cond.op,T.n t.cond.t,T.n t.cond.v,.s t.cond.name,.sl 6 (t.cond.args.map exT),T.n t.to,.b t.resume]
theorem zl2{l:List Tran}{k:Nat}(h:k<l.length):(l.map zah)[k]?=some (.ag (zgY l[k])):=zar zah h
theorem zks{t:Tran}:wEx t.cond≤(zah t).w:=by
 have h:=zdI t.cond
 rw[zay,w_ag]at h
 rw[show zah t= .ag (zgY t) from rfl,w_ag]
 simp only[exC,zgY,qaj,qay,qao,qaI]at*
 omega
theorem zgO(es:List En)(n q:Int)(l:List Tran)(states:Int)(strong:Bool)(hw:(T.sl 8 (l.map zah)).w≤1000000000):LS 204 [.t (.sl 8 (l.map zah)),.i states,.b strong] es n q (zaf (zfd es states strong) l):=by
 refine Sound.err rfl (fun _=>rfl) ?_
 have hml:(l.map zah).length=l.length:=qaa _
 have hlb:l.length≤1000000000:=qaE (qbs (zai zah 8 l)) hw
 refine so Tryz.func204 ?_
 repeat' (first|refine wu ?_|exact wkc|intro hc|refine wk2 ?_ ?_|fail)
 refine TR.zal l.length (fun k=>zaf (zfd es states strong) (l.take k)=0) (fun k=>[(0,.ref 0 0),(2,.i states),(3,.b strong),(10,.t (.sl 8 (l.map zah))),(11,.i (l.map zah).length),(12,.i k)]) (fun _=>[zck es n q]) rfl (fun k hlt ha=>?_) (fun ha=>?_)
 ·have hx:=zl2 hlt
  have h1:=zaF (f:=zfd es states strong) hlt ha
  have h2:=zaq (f:=zfd es states strong) hlt ha
  have hwx:=zav (f:=zah) (sz:=8) (qad hlt)
  generalize l[k]=x at*
  have hwe:wEx x.cond≤1000000000:=by have:=zks (t:=x);omega
  have hex:=zdQ es x.cond hwe
  have hst:=zij x.cond hwe
  rw[zay]at hex
  unfold exC at hex hst
  unfold zgY at hx
  have hr:=ze8 es n q (zbY es x.cond)
  have hz:zfd es states strong x=zfd es states strong x:=rfl
  conv at hz=>rhs;unfold zfd orE
  generalize zfd es states strong x=z at*
  generalize zbY es x.cond=xe at*
  generalize sless x.cond=sl at*
  cases strong
  all_goals
   repeat' (first|refine wu ?_|exact wkc|intro hc|refine wk2 ?_ ?_|refine wm ?_|refine wv hex ?_|refine we hr ?_ ?_|refine wb hst ?_ ?_|fail)
  all_goals first
   | exact zab.zat hlt (h2 (by clear hex hst hr;grind))
   | ((repeat' (first|refine zab.panic ?_|refine wk ?_|fail));apply retF;(first|assumption|decide);(clear hex hst hr hx;grind);exact rfl;exact rfl)
 ·repeat' (first|refine wu ?_|exact wkc|intro hc|refine wk2 ?_ ?_|fail)
  exact retN (zaH ha) rfl rfl
def zdj(a:Auto):List T:=[.sl 6 (a.states.map staT)]
theorem zho(a:Auto):zae a= .ag (zdj a):=zbV a
def staC(s:Sta):List T:=[.s s.name,zac s.locals,.sl 7 (s.eqs.map equT),.sl 1 (s.autos.map zae),.sl 8 (s.unl.map zah),.sl 8 (s.unt.map zah)]
theorem zii(s:Sta):staT s= .ag (staC s):=za8 s
theorem znD{l:List Sta}{k:Nat}(h:k<l.length):(l.map staT)[k]?=some (.ag (staC l[k])):=by rw[<-zii];exact zar staT h
theorem zhn{l:List Auto}{k:Nat}(h:k<l.length):(l.map zae)[k]?=some (.ag (zdj l[k])):=by rw[<-zho];exact zar zae h
theorem zdK(s:Sta):(zac s.locals).w+(T.sl 7 (s.eqs.map equT)).w+(T.sl 1 (s.autos.map zae)).w+(T.sl 8 (s.unl.map zah)).w+(T.sl 8 (s.unt.map zah)).w≤(staT s).w:=by
 rw[zii,w_ag];simp only[staC,qaj,qay,qao,qaI];omega
theorem zbJ(a:Auto):(T.sl 6 (a.states.map staT)).w≤(zae a).w:=by
 rw[zho,w_ag];simp only[zdj,qaj,qay,qao,qaI];omega
theorem zgu(es:List En)(n q:Int):∀(k:Nat) (d:Int),k≤3->d+k=3->∀(a:Auto),(zae a).w≤1000000000->LS 125 [.t (.ag (zdj a)),.i d] es n q (zcu es k a)
 | 0,d,_,hd,a,_=>by
   refine Sound.err rfl (fun _=>rfl) ?_
   unfold zcu zdj
   refine so Tryz.func125 ?_
   repeat' (first|refine wu ?_|exact wkc|intro hc|refine wk2 ?_ ?_|refine wm ?_|fail)
   ·apply retF
    ·decide
    ·rfl
    ·exact rfl
    ·exact rfl
 | k+1,d,hk3,hd,a,hw=>by
   have ih:∀x,(zae x).w≤1000000000->LS 125 [.t (.ag (zdj x)),.i (d+1)] es n q (zcu es k x):=fun x hx=>zgu es n q k (d+1) (by omega) (by omega) x hx
   refine Sound.err rfl (fun _=>rfl) ?_
   have hwa:=zbJ a
   have hlb:a.states.length≤1000000000:=by have:=zai staT 6 a.states;omega
   have hml:(a.states.map staT).length=a.states.length:=qaa _
   have hz:zcu es (k+1) a=zcu es (k+1) a:=rfl
   conv at hz=>rhs;unfold zcu orE
   generalize zcu es (k+1) a=z at hz⊢
   generalize zcu es k=F at*
   unfold zdj
   generalize a.states=l at*
   refine so Tryz.func125 ?_
   repeat' (first|refine wu ?_|exact wkc|intro hc|refine wk2 ?_ ?_|refine wm ?_|fail)
   all_goals first
    | ((repeat' (first|refine zab.panic ?_|refine wk ?_|fail));apply retF;(first|assumption|decide);(clear ih;grind);exact rfl;exact rfl)
    | (exfalso;omega)
    | skip
   have hz2:z=zaf (stE es F (l.length:Int)) l:=by clear ih;grind
   clear hz
   refine TR.zal l.length (fun k=>zaf (stE es F (l.length:Int)) (l.take k)=0) (fun k=>[(0,.ref 0 0),(2,.i d),(4,.cp [.sl 6 (l.map staT)] 0),(29,.t (.sl 6 (l.map staT))),(30,.i (l.map staT).length),(31,.i k)]) (fun _=>[zck es n q]) rfl (fun j hlt ha=>?_) (fun ha=>?_)
   ·have hx:=znD hlt
    have h1:=zaF (f:=stE es F (l.length:Int)) hlt ha
    have h2:=zaq (f:=stE es F (l.length:Int)) hlt ha
    have hwx:=zav (f:=staT) (sz:=6) (qad hlt)
    generalize l[j]=x at*
    have hws:=zdK x
    have hl1:=zai equT 7 x.eqs
    have hl2:=zai zae 1 x.autos
    have m1:(x.locals.map zaa).length=x.locals.length:=qaa _
    have m2:(x.eqs.map equT).length=x.eqs.length:=qaa _
    have m3:(x.autos.map zae).length=x.autos.length:=qaa _
    have m4:(x.unl.map zah).length=x.unl.length:=qaa _
    have m5:(x.unt.map zah).length=x.unt.length:=qaa _
    have hi:=zbD es n q x.name
    have hd1:=zc4 es n q x.locals false (by omega)
    have ht1:=zgO es n q x.unl (l.length:Int) true (by omega)
    have ht2:=zgO es n q x.unt (l.length:Int) false (by omega)
    rw[<-hml]at ht1 ht2
    have hz:stE es F (l.length:Int) x=stE es F (l.length:Int) x:=rfl
    conv at hz=>rhs;unfold stE orE
    have heq:∀u,u∈x.eqs->LS 124 [.t (.ag (equC u))] es n q (equE es u):=fun u hu=>zjb es n q u (by have:=zav (f:=equT) (sz:=7) hu;omega)
    have hau:∀u,u∈x.autos->LS 125 [.t (.ag (zdj u)),.i (d+1)] es n q (F u):=fun u hu=>ih u (by have:=zav (f:=zae) (sz:=1) hu;omega)
    clear ih
    generalize stE es F (l.length:Int) x=zs at hz h1 h2
    rw[<-hml]at hz
    unfold staC at hx
    repeat' (first|refine wu ?_|exact wkc|intro hc|refine wk2 ?_ ?_|refine wm ?_|refine we hi ?_ ?_|refine we hd1 ?_ ?_|fail)
    all_goals first
     | ((repeat' (first|refine zab.panic ?_|refine wk ?_|fail));apply retF;(first|assumption|decide);(clear hi hd1 ht1 ht2 heq hau hx;grind);exact rfl;exact rfl)
     | skip
    refine TR.zal x.eqs.length (fun i=>zaf (equE es) (x.eqs.take i)=0) (fun i=>[(0,.ref 0 0),(2,.i d),(4,.cp [.sl 6 (l.map staT)] 0),(29,.t (.sl 6 (l.map staT))),(30,.i (l.map staT).length),(31,.i j),(7,.cp [.s x.name,zac x.locals,.sl 7 (x.eqs.map equT),.sl 1 (x.autos.map zae),.sl 8 (x.unl.map zah),.sl 8 (x.unt.map zah)] 0),(72,.t (.sl 7 (x.eqs.map equT))),(73,.i (x.eqs.map equT).length),(74,.i i)]) (fun _=>[zck es n q]) rfl (fun i hlt2 ha2=>?_) (fun ha2=>?_)
    ·have hx2:=ziZ hlt2
     have g1:=zaF (f:=equE es) hlt2 ha2
     have g2:=zaq (f:=equE es) hlt2 ha2
     have hs:=heq _ (qad hlt2)
     generalize x.eqs[i]=u at*
     unfold equC at hx2 hs
     repeat' (first|refine wu ?_|exact wkc|intro hc|refine wk2 ?_ ?_|refine we hs ?_ ?_|fail)
     all_goals exact zwbi
    have he2:=zaH ha2
    refine wk ?_
    repeat' (first|refine wu ?_|exact wkc|intro hc|refine wk2 ?_ ?_|fail)
    refine TR.zal x.autos.length (fun i=>zaf F (x.autos.take i)=0) (fun i=>[(0,.ref 0 0),(2,.i d),(4,.cp [.sl 6 (l.map staT)] 0),(29,.t (.sl 6 (l.map staT))),(30,.i (l.map staT).length),(31,.i j),(7,.cp [.s x.name,zac x.locals,.sl 7 (x.eqs.map equT),.sl 1 (x.autos.map zae),.sl 8 (x.unl.map zah),.sl 8 (x.unt.map zah)] 0),(83,.t (.sl 1 (x.autos.map zae))),(84,.i (x.autos.map zae).length),(85,.i i)]) (fun _=>[zck es n q]) rfl (fun i hlt2 ha2=>?_) (fun ha2=>?_)
    ·have hx2:=zhn hlt2
     have g1:=zaF (f:=F) hlt2 ha2
     have g2:=zaq (f:=F) hlt2 ha2
     have hs:=hau _ (qad hlt2)
     generalize x.autos[i]=u at*
     unfold zdj at hx2 hs
     repeat' (first|refine wu ?_|exact wkc|intro hc|refine wk2 ?_ ?_|refine we hs ?_ ?_|fail)
     all_goals exact zwbi
    have he3:=zaH ha2
    refine wk ?_
    repeat' (first|refine wu ?_|exact wkc|intro hc|refine wk2 ?_ ?_|refine we ht1 ?_ ?_|refine we ht2 ?_ ?_|fail)
    all_goals first
     | exact zab.zat hlt (h2 (by clear hi hd1 ht1 ht2 heq hau hx;grind))
     | ((repeat' (first|refine zab.panic ?_|refine wk ?_|fail));apply retF;(first|assumption|decide);(clear hi hd1 ht1 ht2 heq hau hx;grind);exact rfl;exact rfl)
   ·repeat' (first|refine wu ?_|exact wkc|intro hc|refine wk2 ?_ ?_|fail)
    exact retN (by rw[hz2,zaH ha]) rfl rfl
theorem zl4(es:List En)(n q:Int)(a:Auto)(hw:(zae a).w≤1000000000):LS 125 [.t (.ag (zdj a)),.i 0] es n q (zcu es 3 a):=zgu es n q 3 0 (qag _) rfl a hw
theorem wka{G Q:Prop}(k:Q)(h:Hold Q->G:=by
  (intro k;apply TO.zpC zag;(iterate 9 exact rfl);exact leB;exact k.p)):G:=h ⟨k⟩
theorem retQ{rs:List ResultVar}{env:Env}{H H1:Heap}{v:SV}{n q q' c c':Int}(h0:c'≠0)(hc:c'=c)(hq:q'=q)(hN:Nat.ble 1 H.length=true)(hb:zad H.length H=true):
  RetK tab rs 1 (Err0 c v (ziE n q c) H1 1) (.panic (ziE n q' c')) env H:=by
 subst hc hq;exact RetK.errP h0 hN rfl hb
theorem zhG{α:Type}{f:α->Int}{l:List α}{k:Nat}(hk:k<l.length)(h:zaf f (l.take k)=0)(hn:f l[k]≠0):zcS f l=((k:Int),f l[k]):=by
 conv=>lhs;rw[<-qaS k l]
 rw[zfA,if_pos h,qbl hk,zaf,if_neg hn,if_neg hn,zcS,if_neg hn]
 simp;omega
theorem zdJ(n:Nod):(zac n.ins).w+(zac n.outs).w+(zac n.locals).w+(T.sl 7 (n.eqs.map equT)).w+(T.sl 1 (n.autos.map zae)).w+(T.sl 6 (n.assume.map exT)).w+(T.sl 6 (n.ensure.map exT)).w≤(nodT n).w:=by
 rw[show nodT n= .ag (nodC n) from rfl,w_ag];simp only[nodC,qaj,qay,qao,qaI];omega
set_option maxHeartbeats 1000000 in
theorem zmX (es:List En) (a b i:Int) (n:Nod) (hw:(nodT n).w≤1000000000):
  Sound Tryz.prog 73 [.ref 0 0,.i i,.t (.ag (nodC n))] [zck es a b] (Err (zcf es n).2 (.tup []) (ziE i (zcf es n).1 (zcf es n).2) [zck es i (-1)]):=by
 refine Sound.err rfl (fun _=>rfl) ?_
 have hwn:=zdJ n
 have l1:=zai equT 7 n.eqs
 have l2:=zai zae 1 n.autos
 have l3:=zai exT 6 n.assume
 have l4:=zai exT 6 n.ensure
 have m1:(n.ins.map zaa).length=n.ins.length:=qaa _
 have m2:(n.outs.map zaa).length=n.outs.length:=qaa _
 have m3:(n.locals.map zaa).length=n.locals.length:=qaa _
 have m4:(n.eqs.map equT).length=n.eqs.length:=qaa _
 have m5:(n.autos.map zae).length=n.autos.length:=qaa _
 have m6:(n.assume.map exT).length=n.assume.length:=qaa _
 have m7:(n.ensure.map exT).length=n.ensure.length:=qaa _
 have hi:=zbD es i (-1) n.name
 have hd1:=zc4 es i (-1) n.ins true (by omega)
 have hd2:=zc4 es i (-1) n.outs true (by omega)
 have hd3:=zc4 es i (-1) n.locals false (by omega)
 have heq:∀(q:Int) u,u∈n.eqs->LS 124 [.t (.ag (equC u))] es i q (equE es u):=fun q u hu=>zjb es i q u (by have:=zav (f:=equT) (sz:=7) hu;omega)
 have hau:∀u,u∈n.autos->LS 125 [.t (.ag (zdj u)),.i 0] es i (-1) (zcu es 3 u):=fun u hu=>zl4 es i (-1) u (by have:=zav (f:=zae) (sz:=1) hu;omega)
 have hex:∀u,u∈n.assume\/u∈n.ensure->wEx u≤1000000000:=fun u hu=>by
  have:=zdI u
  rcases hu with hu|hu
  ·have:=zav (f:=exT) (sz:=6) hu;omega
  ·have:=zav (f:=exT) (sz:=6) hu;omega
 have hz:zcf es n=zcf es n:=rfl
 conv at hz=>rhs;unfold zcf zmF zpq orE
 generalize zcf es n=z at hz⊢
 unfold nodC
 clear hwn hw
 refine so Tryz.func73 ?_
 repeat' (first|refine wu ?_|exact wkc|intro hc|refine wk2 ?_ ?_|refine wm ?_|refine we hi ?_ ?_|refine we hd1 ?_ ?_|refine we hd2 ?_ ?_|refine we hd3 ?_ ?_|fail)
 all_goals first
  | ((repeat' (first|refine zab.panic ?_|refine wk ?_|fail));apply retQ;(first|assumption|decide);(clear hi hd1 hd2 hd3 heq hau hex;grind);(clear hi hd1 hd2 hd3 heq hau hex;grind);exact rfl;exact rfl)
  | skip
 refine TR.zal n.eqs.length (fun k=>zaf (equE es) (n.eqs.take k)=0) (fun k=>[(0,.ref 0 0),(5,.cp (nC n) 0),(80,.t (.sl 7 (n.eqs.map equT))),(81,.i (n.eqs.map equT).length),(82,.i k)]) (fun k=>[zck es i ((k:Int)-1)]) rfl (fun k hlt ha=>?_) (fun ha=>?_)
 ·have hx:=ziZ hlt
  have g1:=zaF (f:=(equE es)) hlt ha
  have g2:=zaq (f:=(equE es)) hlt ha
  have hs:=heq k _ (qad hlt)
  have g3:=zhG (f:=equE es) hlt ha
  generalize n.eqs[k]=u at*
  unfold equC at hx hs
  repeat' (first|refine wkt ?_|refine wka ?_|refine wk ?_|exact wkc|intro hc|refine wk2 ?_ ?_|refine we hs ?_ ?_|fail)
  all_goals first
   | (refine zab.zat hlt (g2 hc) ?_ (by rw[show((k+1:Nat):Int)-1=k from by omega]);repeat' (first|exact trivial|refine qaf rfl ?_|fail))
   | ((repeat' (first|refine zab.panic ?_|refine wk ?_|fail));apply retQ;(first|assumption|decide);(clear hs hi hd1 hd2 hd3 heq hau hex hx;grind);(clear hs hi hd1 hd2 hd3 heq hau hex hx;grind);exact rfl;exact rfl)
 have e1:=zaH ha
 clear hi hd1 hd2 hd3 heq
 refine wk ?_
 repeat' (first|refine wu ?_|exact wkc|intro hc|refine wk2 ?_ ?_|fail)
 refine TR.zal n.autos.length (fun k=>zaf (zcu es 3) (n.autos.take k)=0) (fun k=>[(0,.ref 0 0),(5,.cp (nC n) 0),(101,.t (.sl 1 (n.autos.map zae))),(102,.i (n.autos.map zae).length),(103,.i k)]) (fun k=>[zck es i (-1)]) rfl (fun k hlt ha=>?_) (fun ha=>?_)
 ·have hx:=zhn hlt
  have g1:=zaF (f:=(zcu es 3)) hlt ha
  have g2:=zaq (f:=(zcu es 3)) hlt ha
  have hs:=hau _ (qad hlt)
  generalize n.autos[k]=u at*
  unfold zdj at hx hs
  repeat' (first|refine wu ?_|exact wkc|intro hc|refine wk2 ?_ ?_|refine we hs ?_ ?_|fail)
  all_goals first
   | exact zab.zat hlt (g2 hc)
   | ((repeat' (first|refine zab.panic ?_|refine wk ?_|fail));apply retQ;(first|assumption|decide);(clear hs hau hex hx;grind);(clear hs hau hex hx;grind);exact rfl;exact rfl)
 have e2:=zaH ha
 clear hau
 refine wk ?_
 repeat' (first|refine wu ?_|exact wkc|intro hc|refine wk2 ?_ ?_|fail)
 refine TR.zal n.assume.length (fun k=>zaf (zbY es) (n.assume.take k)=0) (fun k=>[(0,.ref 0 0),(5,.cp (nC n) 0),(112,.t (.sl 6 (n.assume.map exT))),(113,.i (n.assume.map exT).length),(114,.i k)]) (fun k=>[zck es i (-1)]) rfl (fun k hlt ha=>?_) (fun ha=>?_)
 ·have hx:=zed hlt
  have g1:=zaF (f:=(zbY es)) hlt ha
  have g2:=zaq (f:=(zbY es)) hlt ha
  have hs:=zdQ es _ (hex _ (.inl (qad hlt)))
  rw[zay]at hs
  generalize n.assume[k]=u at*
  exact zwk
 have e3:=zaH ha
 refine wk ?_
 repeat' (first|refine wu ?_|exact wkc|intro hc|refine wk2 ?_ ?_|fail)
 refine TR.zal n.ensure.length (fun k=>zaf (zbY es) (n.ensure.take k)=0) (fun k=>[(0,.ref 0 0),(5,.cp (nC n) 0),(128,.t (.sl 6 (n.ensure.map exT))),(129,.i (n.ensure.map exT).length),(130,.i k)]) (fun k=>[zck es i (-1)]) rfl (fun k hlt ha=>?_) (fun ha=>?_)
 ·have hx:=zed hlt
  have g1:=zaF (f:=(zbY es)) hlt ha
  have g2:=zaq (f:=(zbY es)) hlt ha
  have hs:=zdQ es _ (hex _ (.inr (qad hlt)))
  rw[zay]at hs
  generalize n.ensure[k]=u at*
  exact zwk
 have e4:=zaH ha
 refine wk ?_
 repeat' (first|refine wu ?_|exact wkc|intro hc|refine wk2 ?_ ?_|fail)
 refine RetK.errN (vs:=[]) ?_ rfl (Le.refl _) rfl rfl rfl rfl rfl
 clear hex;grind
end Go.Proofs.YtpnnpgbaiobbjaaGreatDoor
namespace Go.TL
open Go
section rules
variable {P:Program}{n:Nat}{env:Env}{H:Heap}{K:TK}{all:Array Oper}{rest:List Oper}{tab:Tab}{q:Bool}
variable {d:Nat}{ty:TypeId}{pos:String}{aft:Array Edge}
theorem TO.zkA(hT:zaA P tab){t xt:TypeId}{i:TyI}{x:Operand}{s:SV}(hd:Nat.ble (d+1) n=true)(hx:env.val x=some (.ifc t s))(ht:tab.get t=some i)(ha:i.k.agg=true)
  (k:TO q P n all rest ((d,.tup [s,.b true])::env) H K):TO q P n all (⟨some d,.typeAssert x xt t true,ty,pos,aft,none⟩::rest) env H K:=
 TO.op hd (fun m ac h1 h2 h3=>by
  have hv:=h3.val hx
  generalize hq:ac.eval x=u at hv
  cases hv with
  | ifc _ _ y hy=>
    obtain⟨dd,ti,z,g1,g2,g3,g4,g5,g6,g7,g8,g9⟩:=(hT t i ht).ex
    refine⟨.tuple #[y,.bool true],fun w' hw'=>?_,?_⟩
    ·cases hk:i.k <;> rw[hk]at ha g3 <;> simp[TK'.agg]at ha <;> cases dd <;> simp[TK'.fits]at g3 <;> simp[execOp,hq,Instr.typeAssert,run_underlying g1]
    ·refine .tup _ _ rfl fun j c z hc hz=>?_
     match j with
     | 0=>simp at hc hz;subst hc hz;exact hy
     | 1=>simp at hc hz;subst hc hz;exact .t _ _ (.v _)
     | j+2=>simp at hc) k
theorem TO.ziY(hT:zaA P tab){t xt:TypeId}{i:TyI}{x:Operand}(hd:Nat.ble (d+1) n=true)(hx:env.val x=some (.t (.v .nilIface)))(ht:tab.get t=some i)(ha:i.k.agg=true)
  (k:TO q P n all rest ((d,.tup [.t (.ag i.zero),.b false])::env) H K):TO q P n all (⟨some d,.typeAssert x xt t true,ty,pos,aft,none⟩::rest) env H K:=
 TO.op hd (fun m ac h1 h2 h3=>by
  have hv:=h3.val hx
  generalize hq:ac.eval x=u at hv
  have hu:=hv.v_eq
  subst hu
  obtain⟨dd,ti,z,g1,g2,g3,g4,g5,g6,g7,g8,g9⟩:=(hT t i ht).ex
  obtain⟨cs,rfl⟩:=g8 ha
  obtain⟨z1,z2,z3⟩:=zbW (A:=m.A) (w:=m.w) _ _ g7
  refine⟨.tuple #[.agg cs,.bool false],fun w' hw'=>?_,?_⟩
  ·have hz:(zeroValue t).run P w'= .ok (.agg cs) w':=by simp[zeroValue,typeInfo,g2,g6]
   cases hk:i.k <;> rw[hk]at ha g3 <;> simp[TK'.agg]at ha <;> cases dd <;> simp[TK'.fits]at g3 <;> simp[execOp,hq,Instr.typeAssert,run_underlying g1,hz]
  ·refine .tup _ _ rfl fun j c z hc hz=>?_
   match j with
   | 0=>
     simp at hc hz;subst hc hz
     refine .t _ _ (.ag _ _ (by simpa [Value.cells]using z1.symm) (fun i y hy=>z2 i y (by simpa [Value.cells]using hy)) fun i c y hc hy=>z3 i c y hc (by simpa [Value.cells]using hy))
   | 1=>simp at hc hz;subst hc hz;exact .t _ _ (.v _)
   | j+2=>simp at hc) k
end rules
end Go.TL
namespace Go.Proofs.YtpnnpgbaiobbjaaGreatDoor
open Go Go.TL
attribute [local irreducible] TR TO Then zao RetK Sound zab Kf GG zaZ
theorem zi6(n q c:Int)(a b d:SV)(Hr:Heap)(hb:zad (Hr.length+2) Hr=true):
  zc2 Tryz.prog 70 [.ref 0 0,.ref 1 0] (.cells [a,b]:: .cells [d]::Hr) (some (ziE n q c)) (fun H3=>H3= .cells [.i n,.i q]:: .cells [.i c]::Hr):=by
 refine zc2.of (tab:=tab) Tryz.func70 (by kernel_rfl) rfl rfl rfl rfl ?_
 repeat' (first|refine wu ?_|exact wkc|intro hc|refine wk2 ?_ ?_|(apply TO.zkA zag;(iterate 4 exact rfl))|fail)
 refine Then.normal ?_
 repeat' (first|refine wkt ?_|fail)
 refine TR.zm2 (envF:=?envF) (HF:=.cells [.i n,.i q]:: .cells [.i c]::Hr) [(.cp [T.i n,T.i q,T.i c] 0,false),(.t (.ag [T.i n,T.i q]),false),(.cp [T.i n,T.i q,T.i c] 2,false),(.i c,false),(.any,true),(.any,true)] [.cells [a,b]:: .cells [d]::Hr,.cells [.i n,.i q]:: .cells [d]::Hr,.cells [.i n,.i q]:: .cells [.i c]::Hr] hmix ?hB ?h0 ?hp ?hF ?hE ?hK
 case hB=>(dsimp only[List.map];decide +kernel)
 case h0=>exact rfl
 case hF=>exact rfl
 case hE=>exact rfl
 case hp=>repeat' (first|refine wu ?_|exact trivial|exact qaf rfl rfl|refine qaf (fun H env=>?_) ?_|refine qaf (fun env=>?_) ?_|fail)
 repeat' (first|refine wu ?_|exact wkc|intro hc|refine wk2 ?_ ?_|fail)
 have ht:(Blk.cells [.i n,.i q]::Blk.cells [.i c]::Hr).take (Blk.cells [a,b]::Blk.cells [d]::Hr).length=Blk.cells [.i n,.i q]::Blk.cells [.i c]::Hr:=by simp
 refine⟨qag _,?_,ht⟩
 show zad _ (List.take _ (Blk.cells [.i n,.i q]::Blk.cells [.i c]::Hr))=true
 rw[ht]
 exact hb
theorem zoN(H:Heap)(hb:zad H.length H=true):
  zc2 Tryz.prog 70 [.ref 0 0,.ref 1 0] H none (fun H3=>H3=H):=by
 refine zc2.of (tab:=tab) Tryz.func70 (by kernel_rfl) rfl rfl rfl rfl ?_
 repeat' (first|refine wu ?_|exact wkc|intro hc|refine wk2 ?_ ?_|(apply TO.ziY zag;(iterate 4 exact rfl))|fail)
 refine Then.normal ?_
 repeat' (first|refine wu ?_|exact wkc|intro hc|refine wk2 ?_ ?_|fail)
 exact⟨qag _,by rw[qaX (qag _)];exact hb,qaX (qag _)⟩
theorem we3{G Q1 Q2:Prop}{f:FuncId}{cargs:List SV}{v pv:SV}{c:Int}{Hc H1:Heap}(hs:Sound Tryz.prog f cargs Hc (Err c v pv H1))(k1:Q1)(k2:Q2)(h:Sound Tryz.prog f cargs Hc (Err c v pv H1)->Hold Q1->Hold Q2->G:=by
  intro hs k1 k2
  (apply TO.zma [2] hs;(iterate 3 exact rfl);exact zqb;exact rfl;exact Hands.one rfl rfl;(iterate 4 exact rfl);exact k1.p;exact k2.p)):G:=h hs ⟨k1⟩ ⟨k2⟩
structure ziV (p:Prog) (w:Nat):Prop where
 es:p.enums.length≤w
 tg:∀u∈p.enums,u.tags.length≤w
 ns:p.nodes.length≤w
 nd:∀n∈p.nodes,(nodT n).w≤w
theorem zlx{p:Prog}{w:Nat}(hw:(T.ag (zax p)).w≤w):ziV p w:=by
 have l1:(T.sl 2 (p.enums.map enT)).w+(zaC p.nodes).w≤(T.ag (zax p)).w:=by rw[w_ag];simp only[zax,qaj,qay,qao,qaI];omega
 have b1:=zai enT 2 p.enums
 have b2:=zai nodT 8 p.nodes
 have h8:(zaC p.nodes).w=(T.sl 8 (p.nodes.map nodT)).w:=rfl
 refine⟨by omega,fun u hu=>?_,by omega,fun n hn=>?_⟩
 ·have:=zav (f:=enT) (sz:=2) hu
  rw[enT,w_ag]at this;simp only[qaj,qay,qao,qaI]at this
  have:=zai T.s 1 u.tags
  omega
 ·have:=zav (f:=nodT) (sz:=8) hn
  omega
theorem zgL(p:Prog)(hw:ziV p 1000000000):Pure Tryz.prog 29 [.t (.ag (zax p))] (.tup [.t (.ag [T.i (zba p).1.1,T.i (zba p).1.2]),.i (zba p).2]):=by
 refine Sound.zrj zag Tryz.func29 (by kernel_rfl) rfl rfl (gf:=70) (cv:=[.ref 0 0,.ref 1 0]) ?_
 unfold zax
 refine TD.seq ?_
 repeat' (first|refine wu ?_|fail)
 show TD _ _ (.seq _ _) _ _ _ _ _ _
 refine TD.defer (tz:=0) rfl rfl ?_
 have m1:(p.enums.map enT).length=p.enums.length:=qaa _
 have m2:(p.nodes.map nodT).length=p.nodes.length:=qaa _
 have b1:=hw.es
 have b2:=hw.ns
 have hen:∀(n q:Int) u,u∈p.enums->LS 72 [.t (.ag [.s u.name,.sl 1 (u.tags.map T.s)])] p.enums n q (zft u):=fun n q u hu=>zms p.enums n q u (hw.tg u hu)
 have hno:∀(a b i:Int) u,u∈p.nodes->Sound Tryz.prog 73 [.ref 0 0,.i i,.t (.ag (nodC u))] [zck p.enums a b] (Err (zcf p.enums u).2 (.tup []) (ziE i (zcf p.enums u).1 (zcf p.enums u).2) [zck p.enums i (-1)]):=fun a b i u hu=>zmX p.enums a b i u (hw.nd u hu)
 have hz:zba p=zba p:=rfl
 conv at hz=>rhs;unfold zba limE
 generalize zba p=z at hz⊢
 refine wk ?_
 repeat' (first|refine wkt ?_|refine wka ?_|refine wk ?_|exact wkc|intro hc|refine wk2 ?_ ?_|(apply TO.zpN [2] (zrc p.enums (-1) (-1) 3);(iterate 3 exact rfl);exact⟨Le.refl _,Le.refl _,Le.refl _,trivial⟩;exact rfl;exact Hands.one rfl rfl;exact rfl;exact rfl)|refine we3 (zrb p.enums (-1) (-1) 3 (by decide)) ?_ ?_|fail)
 all_goals first
  | (have hzz:z=((-1,-1),3):=by rw[hz];clear hen hno;grind
     subst hzz
     exact⟨_,zi6 _ _ _ _ _ _ _ rfl,fun H3 h=>by subst h;exact wkr⟩)
  | skip
 rw[if_neg (by clear hen hno hz;simp;omega)]at hz
 refine TR.zal p.enums.length (fun k=>zaf zft (p.enums.take k)=0) (fun k=>[(1,.cp [.sl 2 (p.enums.map enT),zaC p.nodes] 0),(2,.ref 0 0),(3,.ref 1 0),(4,.ref 2 0),(28,.t (.sl 2 (p.enums.map enT))),(29,.i (p.enums.map enT).length),(30,.i k)])
  (fun k=>[.cells [.i 0,.i 0],.cells [.i 0],zck p.enums (-1) (-1)]) rfl (fun k hlt ha=>?_) (fun ha=>?_)
 ·have hx:(p.enums.map enT)[k]?=some (.ag [.s p.enums[k].name,.sl 1 (p.enums[k].tags.map T.s)]):=zar enT hlt
  have g1:=zaF (f:=zft) hlt ha
  have g2:=zaq (f:=zft) hlt ha
  have hs:=hen (-1) (-1) _ (qad hlt)
  generalize p.enums[k]=u at*
  clear hen hno
  repeat' (first|refine wkt ?_|refine wka ?_|refine wk ?_|exact wkc|intro hc|refine wk2 ?_ ?_|refine we3 hs ?_ ?_|fail)
  ·exact zab.zat hlt (g2 hc)
  ·rw[if_pos (by rw[g1 hc];exact hc),g1 hc]at hz
   exact zwdb
 have e1:=zaH ha
 rw[if_neg (by simp[e1])]at hz
 clear hen
 refine wk ?_
 repeat' (first|refine wu ?_|exact wkc|intro hc|refine wk2 ?_ ?_|fail)
 refine TR.zal p.nodes.length (fun k=>zaf (fun n=>(zcf p.enums n).2) (p.nodes.take k)=0) (fun k=>[(2,.ref 0 0),(3,.ref 1 0),(4,.ref 2 0),(39,.t (zaC p.nodes)),(40,.i (p.nodes.map nodT).length),(41,.i k)])
  (fun k=>[.cells [.i 0,.i 0],.cells [.i 0],zck p.enums ((k:Int)-1) (-1)]) rfl (fun k hlt ha=>?_) (fun ha=>?_)
 ·have hx:=zeV hlt
  have g1:=zaF (f:=fun n=>(zcf p.enums n).2) hlt ha
  have g2:=zaq (f:=fun n=>(zcf p.enums n).2) hlt ha
  have g3:=zhG (f:=fun n=>(zcf p.enums n).2) hlt ha
  have hs:=hno ((k:Int)-1) (-1) k _ (qad hlt)
  have hat:p.nodes[k]?=some p.nodes[k]:=qac hlt
  generalize p.nodes[k]=u at*
  clear hno
  unfold nodC at hx hs
  repeat' (first|refine wkt ?_|refine wka ?_|refine wk ?_|exact wkc|intro hc|refine wk2 ?_ ?_|refine we3 hs ?_ ?_|fail)
  ·refine zab.zat hlt (g2 hc) ?_ (by rw[show((k+1:Nat):Int)-1=k from by omega];rfl)
   repeat' (first|exact trivial|refine qaf rfl ?_|fail)
  ·rw[if_neg (by rw[g1 hc];exact hc),g3 hc,g1 hc]at hz
   simp only[qcv,hat,qa6,qch]at hz
   exact zwdb
 have e2:=zaH ha
 rw[if_pos e2]at hz
 subst hz
 refine wk ?_
 repeat' (first|refine wu ?_|exact wkc|intro hc|refine wk2 ?_ ?_|fail)
 exact⟨_,zoN _ rfl,fun H3 h=>by subst h;exact wkr⟩
theorem zlI(p:Prog)(hw:(T.ag (zax p)).w≤1000000000):Pure Tryz.prog 29 [.t (.ag (zax p))] (.tup [.t (.ag [T.i (zba p).1.1,T.i (zba p).1.2]),.i (zba p).2]):=zgL p (zlx hw)
end Go.Proofs.YtpnnpgbaiobbjaaGreatDoor
