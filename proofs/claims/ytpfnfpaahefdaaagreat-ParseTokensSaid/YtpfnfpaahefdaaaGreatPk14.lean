import Derived.Test.YtpfnfpaahefdaaaGreatPk13
set_option linter.all false
namespace Go.Proofs.YtpfnfpaahefdaaaGreat
open Go Go.TL
attribute [local irreducible] TR TO Then zab RetK Sound zac Kf GG za2
theorem zbj{α:Type}{f:α->Int}{l:List α}{k:Nat}(hk:k<l.length)(h:zap f (l.take k)=0)(hn:f l[k]≠0):zap f l=f l[k]:=by
 conv=>lhs;rw[<-qbf k l]
 rw[zcD,if_pos h,qaF hk,zap,if_neg hn]
theorem za0{α:Type}{f:α->Int}{l:List α}{k:Nat}(hk:k<l.length)(h:zap f (l.take k)=0)(hz:f l[k]=0):zap f (l.take (k+1))=0:=by
 rw[qaJ hk,zcD,if_pos h,zap,if_pos hz,zap]
theorem za7{α:Type}{f:α->Int}{l:List α}(h:zap f (l.take l.length)=0):zap f l=0:=by rwa [qbd]at h
theorem at_s{l:List Str}{k:Nat}(h:k<l.length):(l.map T.s)[k]?=some (T.s l[k]):=by simp[h]
theorem zrj{l:List OnC}{k:Nat}(h:k<l.length):(l.map onT)[k]?=some (.ag [.s l[k].name,T.n l[k].t,T.n l[k].tag]):=zbW onT h
theorem zju(es:List En)(n q:Int)(u:En)(hw:u.tags.length≤1000000000):LS 21 [.t (.ag [.s u.name,.sl 1 (u.tags.map T.s)])] es n q (zf2 u):=by
 refine Sound.err rfl (fun _=>rfl) ?_
 have hi:=zbH es n q u.name
 have hml:(u.tags.map T.s).length=u.tags.length:=qad _
 have hz:zf2 u=zf2 u:=rfl
 conv at hz=>rhs;unfold zf2 orE
 generalize zf2 u=z at hz⊢
 refine so Tryz.func21 ?_
 repeat' (first|refine wu ?_|exact wkc|intro hc|refine wk2 ?_ ?_|refine we hi ?_ ?_|refine wm ?_|fail)
 all_goals first
  | (apply retF;assumption;(rw[hz];clear hi;grind);exact rfl;exact rfl)
  | (apply retF;decide;(rw[hz];clear hi;grind);exact rfl;exact rfl)
  | skip
 have hz2:z=zap zcw u.tags:=by rw[hz];clear hi;grind
 clear hz
 generalize u.tags=l at*
 refine TR.zbv l.length (fun k=>zap zcw (l.take k)=0) (fun k=>[(0,.ref 0 0),(23,.t (.sl 1 (l.map T.s))),(24,.i (l.map T.s).length),(25,.i k)]) (fun _=>[zcd es n q]) rfl (fun k hlt ha=>?_) (fun ha=>?_)
 ·have hx:=at_s hlt
  have h1:=zbj (f:=zcw) hlt ha
  have h2:=za0 (f:=zcw) hlt ha
  generalize l[k]=x at*
  have hs:=zbH es n q x
  repeat' (first|refine wu ?_|exact wkc|intro hc|refine wk2 ?_ ?_|refine we hs ?_ ?_|fail)
  ·exact zac.zb0 hlt (h2 hc)
  ·refine zac.panic ?_
   repeat' (first|refine wu ?_|exact wkc|intro hc|refine wk2 ?_ ?_|fail)
   exact retF hc (by rw[hz2,h1 hc]) rfl rfl
 ·repeat' (first|refine wu ?_|exact wkc|intro hc|refine wk2 ?_ ?_|fail)
  exact retN (by rw[hz2,za7 ha]) rfl rfl
theorem zcX(es:List En)(n q:Int)(l:List Decl)(port:Bool)(hw:(zcn l).w≤1000000000):LS 45 [.t (zcn l),.b port] es n q (zap (zfv es port) l):=by
 refine Sound.err rfl (fun _=>rfl) ?_
 have hml:(l.map zag).length=l.length:=qad _
 have hlb:l.length≤1000000000:=qa9 (qb3 (zdZ zag 3 l)) hw
 refine so Tryz.func45 ?_
 repeat' (first|refine wu ?_|exact wkc|intro hc|refine wk2 ?_ ?_|fail)
 refine TR.zbv l.length (fun k=>zap (zfv es port) (l.take k)=0) (fun k=>[(0,.ref 0 0),(2,.b port),(10,.t (zcn l)),(11,.i (l.map zag).length),(12,.i k)]) (fun _=>[zcd es n q]) rfl (fun k hlt ha=>?_) (fun ha=>?_)
 ·have hx:=zpk hlt
  have h1:=zbj (f:=zfv es port) hlt ha
  have h2:=za0 (f:=zfv es port) hlt ha
  have hcl:=zdZ onT 3 l[k].clock
  have hwx:=zh7 (f:=zag) (sz:=3) (qaz hlt)
  rw[show zag l[k]= .ag (znX l[k]) from rfl,w_ag]at hwx
  generalize l[k]=x at*
  simp only[znX,qah,qas,qax,qaK]at hwx
  have hmo:(x.clock.map onT).length=x.clock.length:=qad _
  have hs:=zbH es n q x.name
  have hsz:=zdn es x.ty
  unfold znX at hx
  have hz:zfv es port x=zfv es port x:=rfl
  conv at hz=>rhs;unfold zfv orE
  generalize zfv es port x=z at hz h1 h2
  cases port
  all_goals
   repeat' (first|refine wu ?_|exact wkc|intro hc|refine wk2 ?_ ?_|refine we hs ?_ ?_|refine wm ?_|refine wv hsz ?_|fail)
  all_goals first
   | (refine zac.panic ?_
      refine wk ?_
      apply retF
      first|assumption|decide
      ·clear hs hsz;grind
      exact rfl
      exact rfl)
   | skip
  all_goals
   have hz2:z=zap (onE es) x.clock:=by clear hs hsz;grind
   clear hz hs hsz
   generalize x.clock=cl at*
   refine TR.zbv cl.length (fun j=>zap (onE es) (cl.take j)=0) (fun j=>[(0,.ref 0 0),(2,.b _),(10,.t (zcn l)),(11,.i (l.map zag).length),(12,.i k),(47,.t (.sl 3 (cl.map onT))),(48,.i (cl.map onT).length),(49,.i j)]) (fun _=>[zcd es n q]) rfl (fun j hlt2 ha2=>?_) (fun ha2=>?_)
   ·have hx2:=zrj hlt2
    have g1:=zbj (f:=onE es) hlt2 ha2
    have g2:=za0 (f:=onE es) hlt2 ha2
    generalize cl[j]=o at*
    have hs:=zbH es n q o.name
    have hh:=ziv es o.t o.tag
    have hz:onE es o=onE es o:=rfl
    conv at hz=>rhs;unfold onE orE
    generalize onE es o=z3 at hz g1 g2
    repeat' (first|refine wu ?_|exact wkc|intro hc|refine wk2 ?_ ?_|refine we hs ?_ ?_|refine wm ?_|refine wb hh ?_ ?_|fail)
    all_goals first
     | exact zac.zb0 hlt2 (g2 (by clear hs hh;grind))
     | (refine zac.panic ?_
        refine wk ?_
        refine zac.panic ?_
        refine wk ?_
        apply retF
        first|assumption|decide
        ·clear hs hh;grind
        exact rfl
        exact rfl)
   ·have hz3:=za7 ha2
    refine wk ?_
    repeat' (first|refine wu ?_|exact wkc|intro hc|refine wk2 ?_ ?_|fail)
    exact zac.zb0 hlt (h2 (by rw[hz2,hz3]))
 ·repeat' (first|refine wu ?_|exact wkc|intro hc|refine wk2 ?_ ?_|fail)
  exact retN (za7 ha) rfl rfl
def allF(g:Ex->Bool)(H1:Heap)(_:List Ex)(x:Ex):Out:=if g x=true then .go else .jump .ret H1
theorem zkL(g:Ex->Bool)(H1:Heap):∀(l pre:List Ex),zbx (allF g H1) pre l=if l.all g=true then .go else .jump .ret H1
 | [],pre=>by simp[zbx]
 | x::l,pre=>by
   simp only[zbx,allF,qbr,qat]
   by_cases h:g x=true
   ·simp only[h,if_true,true_and];exact zkL g H1 l _
   ·simp[h]
theorem zgB(e:Ex)(h:wEx e≤1000000000):Pure Tryz.prog 92 [.t (.ag (exC e))] (.b (sless e)):=by
 have hs:=zd0 e
 rw[zao]at hs
 have hc0:exC e=[T.n e.kind,T.n e.op,T.n e.t,T.n e.v,.s e.name,.sl 6 (e.args.map exT)]:=rfl
 rw[hc0]at hs⊢
 unfold sless
 refine so Tryz.func92 ?_
 repeat' (first|refine wkb ?_|refine wk ?_|exact wkc|intro hc|refine wk2 ?_ ?_|refine wv hs ?_|fail)
 refine TR.zeO e (fun _=>[.cells [.b false]]) (allF (fun x=>zi0 x.kind.1) [.cells [.b false]]) rfl h rfl rfl rfl (fun _=>⟨rfl,rfl⟩) (fun pre x=>?_) (fun fn pre x post hw=>?_) (fun fn=>?_)
 ·unfold allF
  split <;> rename_i hq <;> split at hq <;> cases hq
  ·trivial
  ·exact⟨rfl,rfl⟩
 ·have hcx:exC x=[T.n x.kind,T.n x.op,T.n x.t,T.n x.v,.s x.name,.sl 6 (x.args.map exT)]:=rfl
  rw[hcx]
  repeat' (first|refine wu ?_|exact wkc|intro hc|refine wk2 ?_ ?_|fail)
  refine⟨rfl,?_⟩
  repeat' (first|refine wu ?_|exact wkc|intro hc|refine wk2 ?_ ?_|fail)
  all_goals first
   | (refine⟨_,?_,rfl,rfl⟩
      rw[allF,if_neg (by clear hs hc0 hcx;simp[zi0];omega)]
      rfl)
   | (refine⟨?_,rfl,rfl⟩
      rw[allF,if_pos (by clear hs hc0 hcx;simp[zi0];omega)])
 ·rw[zkL]
  by_cases h2:((flat e).all fun x=>zi0 x.kind.1)=true
  ·exact zwdx
  ·rw[if_neg h2,Bool.not_eq_true _ |>.mp h2]
   simp only[]
   repeat' (first|refine wu ?_|exact wkc|intro hc|refine wk2 ?_ ?_|fail)
   exact wkr
theorem zp1{q:Equ}:wEx q.right≤(equT q).w:=by
 have h:=zhs q.right
 rw[zao,w_ag]at h
 rw[show equT q= .ag (.sl 1 (q.left.map T.s)::exC q.right) from rfl,w_ag,qah,qax]
 have:=zre (.sl 1 (q.left.map T.s))
 omega
theorem zoa{q:Equ}:q.left.length≤(equT q).w:=by
 have h:=zdZ T.s 1 q.left
 rw[show equT q= .ag (.sl 1 (q.left.map T.s)::exC q.right) from rfl,w_ag,qah,qax]
 omega
def equC(q:Equ):List T:=.sl 1 (q.left.map T.s)::[T.n q.right.kind,T.n q.right.op,T.n q.right.t,T.n q.right.v,.s q.right.name,.sl 6 (q.right.args.map exT)]
theorem zoS{l:List Equ}{k:Nat}(h:k<l.length):(l.map equT)[k]?=some (.ag (equC l[k])):=zbW equT h
theorem zg7(es:List En)(n q:Int)(u:Equ)(hw:(equT u).w≤1000000000):LS 46 [.t (.ag (equC u))] es n q (equE es u):=by
 refine Sound.err rfl (fun _=>rfl) ?_
 have hx:=zcL es u.right (qa9 zp1 hw)
 have hlb:u.left.length≤1000000000:=qa9 zoa hw
 have hml:(u.left.map T.s).length=u.left.length:=qad _
 have hr:=zeq es n q (zcp es u.right)
 have hz:equE es u=equE es u:=rfl
 conv at hz=>rhs;unfold equE orE
 rw[zao]at hx
 unfold exC at hx
 unfold equC
 generalize equE es u=z at hz⊢
 generalize zcp es u.right=xe at*
 refine so Tryz.func46 ?_
 repeat' (first|refine wu ?_|exact wkc|intro hc|refine wk2 ?_ ?_|refine wm ?_|fail)
 all_goals first
  | ((repeat' (first|refine zac.panic ?_|refine wk ?_|fail));apply retF;(first|assumption|decide);(clear hr hx;grind);exact rfl;exact rfl)
  | skip
 generalize u.left=l at*
 refine TR.zbv l.length (fun k=>zap zcw (l.take k)=0) (fun k=>[(0,.ref 0 0),(3,.cp [.sl 1 (l.map T.s),T.n u.right.kind,T.n u.right.op,T.n u.right.t,T.n u.right.v,.s u.right.name,.sl 6 (u.right.args.map exT)] 0),(19,.t (.sl 1 (l.map T.s))),(20,.i (l.map T.s).length),(21,.i k)]) (fun _=>[zcd es n q]) rfl (fun k hlt ha=>?_) (fun ha=>?_)
 ·have hx:=at_s hlt
  have h1:=zbj (f:=zcw) hlt ha
  have h2:=za0 (f:=zcw) hlt ha
  generalize l[k]=x at*
  have hs:=zbH es n q x
  repeat' (first|refine wu ?_|exact wkc|intro hc|refine wk2 ?_ ?_|refine we hs ?_ ?_|fail)
  all_goals first
   | exact zac.zb0 hlt (h2 hc)
   | ((repeat' (first|refine zac.panic ?_|refine wk ?_|fail));apply retF;(first|assumption|decide);(clear hr hx hs;grind);exact rfl;exact rfl)
 ·have h1:=za7 ha
  repeat' (first|refine wu ?_|exact wkc|intro hc|refine wk2 ?_ ?_|refine wv hx ?_|refine we hr ?_ ?_|refine wm ?_|fail)
  all_goals first
   | ((repeat' (first|refine zac.panic ?_|refine wk ?_|fail));apply retF;(first|assumption|decide);(clear hr hx;grind);exact rfl;exact rfl)
   | exact retN (by clear hr hx;grind) rfl rfl
def zoH(t:Tran):List T:=[T.n t.cond.kind,T.n t.cond.op,T.n t.cond.t,T.n t.cond.v,.s t.cond.name,.sl 6 (t.cond.args.map exT),T.n t.to,.b t.resume]
theorem zpl{l:List Tran}{k:Nat}(h:k<l.length):(l.map zaW)[k]?=some (.ag (zoH l[k])):=zbW zaW h
theorem zoI{t:Tran}:wEx t.cond≤(zaW t).w:=by
 have h:=zhs t.cond
 rw[zao,w_ag]at h
 rw[show zaW t= .ag (zoH t) from rfl,w_ag]
 simp only[exC,zoH,qah,qas,qax,qaK]at*
 omega
theorem zfq(es:List En)(n q:Int)(l:List Tran)(states:Int)(strong:Bool)(hw:(T.sl 8 (l.map zaW)).w≤1000000000):LS 74 [.t (.sl 8 (l.map zaW)),.i states,.b strong] es n q (zap (zgV es states strong) l):=by
 refine Sound.err rfl (fun _=>rfl) ?_
 have hml:(l.map zaW).length=l.length:=qad _
 have hlb:l.length≤1000000000:=qa9 (qb3 (zdZ zaW 8 l)) hw
 refine so Tryz.func74 ?_
 repeat' (first|refine wu ?_|exact wkc|intro hc|refine wk2 ?_ ?_|fail)
 refine TR.zbv l.length (fun k=>zap (zgV es states strong) (l.take k)=0) (fun k=>[(0,.ref 0 0),(2,.i states),(3,.b strong),(10,.t (.sl 8 (l.map zaW))),(11,.i (l.map zaW).length),(12,.i k)]) (fun _=>[zcd es n q]) rfl (fun k hlt ha=>?_) (fun ha=>?_)
 ·have hx:=zpl hlt
  have h1:=zbj (f:=zgV es states strong) hlt ha
  have h2:=za0 (f:=zgV es states strong) hlt ha
  have hwx:=zh7 (f:=zaW) (sz:=8) (qaz hlt)
  generalize l[k]=x at*
  have hwe:wEx x.cond≤1000000000:=by have:=zoI (t:=x);omega
  have hex:=zcL es x.cond hwe
  have hst:=zgB x.cond hwe
  rw[zao]at hex
  unfold exC at hex hst
  unfold zoH at hx
  have hr:=zeq es n q (zcp es x.cond)
  have hz:zgV es states strong x=zgV es states strong x:=rfl
  conv at hz=>rhs;unfold zgV orE
  generalize zgV es states strong x=z at*
  generalize zcp es x.cond=xe at*
  generalize sless x.cond=sl at*
  cases strong
  all_goals
   repeat' (first|refine wu ?_|exact wkc|intro hc|refine wk2 ?_ ?_|refine wm ?_|refine wv hex ?_|refine we hr ?_ ?_|refine wb hst ?_ ?_|fail)
  all_goals first
   | exact zac.zb0 hlt (h2 (by clear hex hst hr;grind))
   | ((repeat' (first|refine zac.panic ?_|refine wk ?_|fail));apply retF;(first|assumption|decide);(clear hex hst hr hx;grind);exact rfl;exact rfl)
 ·repeat' (first|refine wu ?_|exact wkc|intro hc|refine wk2 ?_ ?_|fail)
  exact retN (za7 ha) rfl rfl
def zfs(a:Auto):List T:=[.sl 6 (a.states.map staT)]
theorem zme(a:Auto):zaG a= .ag (zfs a):=zdt a
def staC(s:Sta):List T:=[.s s.name,zcn s.locals,.sl 7 (s.eqs.map equT),.sl 1 (s.autos.map zaG),.sl 8 (s.unl.map zaW),.sl 8 (s.unt.map zaW)]
theorem zpc(s:Sta):staT s= .ag (staC s):=zdc s
theorem zqt{l:List Sta}{k:Nat}(h:k<l.length):(l.map staT)[k]?=some (.ag (staC l[k])):=by rw[<-zpc];exact zbW staT h
theorem zmc{l:List Auto}{k:Nat}(h:k<l.length):(l.map zaG)[k]?=some (.ag (zfs l[k])):=by rw[<-zme];exact zbW zaG h
theorem zrw(s:Sta):(zcn s.locals).w+(T.sl 7 (s.eqs.map equT)).w+(T.sl 1 (s.autos.map zaG)).w+(T.sl 8 (s.unl.map zaW)).w+(T.sl 8 (s.unt.map zaW)).w≤(staT s).w:=by
 rw[zpc,w_ag];simp only[staC,qah,qas,qax,qaK];omega
theorem zrc(a:Auto):(T.sl 6 (a.states.map staT)).w≤(zaG a).w:=by
 rw[zme,w_ag];simp only[zfs,qah,qas,qax,qaK];omega
theorem zfe(es:List En)(n q:Int):∀(k:Nat) (d:Int),k≤3->d+k=3->∀(a:Auto),(zaG a).w≤1000000000->LS 47 [.t (.ag (zfs a)),.i d] es n q (zeg es k a)
 | 0,d,_,hd,a,_=>by
   refine Sound.err rfl (fun _=>rfl) ?_
   unfold zeg zfs
   refine so Tryz.func47 ?_
   repeat' (first|refine wu ?_|exact wkc|intro hc|refine wk2 ?_ ?_|refine wm ?_|fail)
   ·apply retF
    ·decide
    ·rfl
    ·exact rfl
    ·exact rfl
 | k+1,d,hk3,hd,a,hw=>by
   have ih:∀x,(zaG x).w≤1000000000->LS 47 [.t (.ag (zfs x)),.i (d+1)] es n q (zeg es k x):=fun x hx=>zfe es n q k (d+1) (by omega) (by omega) x hx
   refine Sound.err rfl (fun _=>rfl) ?_
   have hwa:=zrc a
   have hlb:a.states.length≤1000000000:=by have:=zdZ staT 6 a.states;omega
   have hml:(a.states.map staT).length=a.states.length:=qad _
   have hz:zeg es (k+1) a=zeg es (k+1) a:=rfl
   conv at hz=>rhs;unfold zeg orE
   generalize zeg es (k+1) a=z at hz⊢
   generalize zeg es k=F at*
   unfold zfs
   generalize a.states=l at*
   refine so Tryz.func47 ?_
   repeat' (first|refine wu ?_|exact wkc|intro hc|refine wk2 ?_ ?_|refine wm ?_|fail)
   all_goals first
    | ((repeat' (first|refine zac.panic ?_|refine wk ?_|fail));apply retF;(first|assumption|decide);(clear ih;grind);exact rfl;exact rfl)
    | (exfalso;omega)
    | skip
   have hz2:z=zap (stE es F (l.length:Int)) l:=by clear ih;grind
   clear hz
   refine TR.zbv l.length (fun k=>zap (stE es F (l.length:Int)) (l.take k)=0) (fun k=>[(0,.ref 0 0),(2,.i d),(4,.cp [.sl 6 (l.map staT)] 0),(29,.t (.sl 6 (l.map staT))),(30,.i (l.map staT).length),(31,.i k)]) (fun _=>[zcd es n q]) rfl (fun j hlt ha=>?_) (fun ha=>?_)
   ·have hx:=zqt hlt
    have h1:=zbj (f:=stE es F (l.length:Int)) hlt ha
    have h2:=za0 (f:=stE es F (l.length:Int)) hlt ha
    have hwx:=zh7 (f:=staT) (sz:=6) (qaz hlt)
    generalize l[j]=x at*
    have hws:=zrw x
    have hl1:=zdZ equT 7 x.eqs
    have hl2:=zdZ zaG 1 x.autos
    have m1:(x.locals.map zag).length=x.locals.length:=qad _
    have m2:(x.eqs.map equT).length=x.eqs.length:=qad _
    have m3:(x.autos.map zaG).length=x.autos.length:=qad _
    have m4:(x.unl.map zaW).length=x.unl.length:=qad _
    have m5:(x.unt.map zaW).length=x.unt.length:=qad _
    have hi:=zbH es n q x.name
    have hd1:=zcX es n q x.locals false (by omega)
    have ht1:=zfq es n q x.unl (l.length:Int) true (by omega)
    have ht2:=zfq es n q x.unt (l.length:Int) false (by omega)
    rw[<-hml]at ht1 ht2
    have hz:stE es F (l.length:Int) x=stE es F (l.length:Int) x:=rfl
    conv at hz=>rhs;unfold stE orE
    have heq:∀u,u∈x.eqs->LS 46 [.t (.ag (equC u))] es n q (equE es u):=fun u hu=>zg7 es n q u (by have:=zh7 (f:=equT) (sz:=7) hu;omega)
    have hau:∀u,u∈x.autos->LS 47 [.t (.ag (zfs u)),.i (d+1)] es n q (F u):=fun u hu=>ih u (by have:=zh7 (f:=zaG) (sz:=1) hu;omega)
    clear ih
    generalize stE es F (l.length:Int) x=zs at hz h1 h2
    rw[<-hml]at hz
    unfold staC at hx
    repeat' (first|refine wu ?_|exact wkc|intro hc|refine wk2 ?_ ?_|refine wm ?_|refine we hi ?_ ?_|refine we hd1 ?_ ?_|fail)
    all_goals first
     | ((repeat' (first|refine zac.panic ?_|refine wk ?_|fail));apply retF;(first|assumption|decide);(clear hi hd1 ht1 ht2 heq hau hx;grind);exact rfl;exact rfl)
     | skip
    refine TR.zbv x.eqs.length (fun i=>zap (equE es) (x.eqs.take i)=0) (fun i=>[(0,.ref 0 0),(2,.i d),(4,.cp [.sl 6 (l.map staT)] 0),(29,.t (.sl 6 (l.map staT))),(30,.i (l.map staT).length),(31,.i j),(7,.cp [.s x.name,zcn x.locals,.sl 7 (x.eqs.map equT),.sl 1 (x.autos.map zaG),.sl 8 (x.unl.map zaW),.sl 8 (x.unt.map zaW)] 0),(72,.t (.sl 7 (x.eqs.map equT))),(73,.i (x.eqs.map equT).length),(74,.i i)]) (fun _=>[zcd es n q]) rfl (fun i hlt2 ha2=>?_) (fun ha2=>?_)
    ·have hx2:=zoS hlt2
     have g1:=zbj (f:=equE es) hlt2 ha2
     have g2:=za0 (f:=equE es) hlt2 ha2
     have hs:=heq _ (qaz hlt2)
     generalize x.eqs[i]=u at*
     unfold equC at hx2 hs
     repeat' (first|refine wu ?_|exact wkc|intro hc|refine wk2 ?_ ?_|refine we hs ?_ ?_|fail)
     all_goals exact zwbe
    have he2:=za7 ha2
    refine wk ?_
    repeat' (first|refine wu ?_|exact wkc|intro hc|refine wk2 ?_ ?_|fail)
    refine TR.zbv x.autos.length (fun i=>zap F (x.autos.take i)=0) (fun i=>[(0,.ref 0 0),(2,.i d),(4,.cp [.sl 6 (l.map staT)] 0),(29,.t (.sl 6 (l.map staT))),(30,.i (l.map staT).length),(31,.i j),(7,.cp [.s x.name,zcn x.locals,.sl 7 (x.eqs.map equT),.sl 1 (x.autos.map zaG),.sl 8 (x.unl.map zaW),.sl 8 (x.unt.map zaW)] 0),(83,.t (.sl 1 (x.autos.map zaG))),(84,.i (x.autos.map zaG).length),(85,.i i)]) (fun _=>[zcd es n q]) rfl (fun i hlt2 ha2=>?_) (fun ha2=>?_)
    ·have hx2:=zmc hlt2
     have g1:=zbj (f:=F) hlt2 ha2
     have g2:=za0 (f:=F) hlt2 ha2
     have hs:=hau _ (qaz hlt2)
     generalize x.autos[i]=u at*
     unfold zfs at hx2 hs
     repeat' (first|refine wu ?_|exact wkc|intro hc|refine wk2 ?_ ?_|refine we hs ?_ ?_|fail)
     all_goals exact zwbe
    have he3:=za7 ha2
    refine wk ?_
    repeat' (first|refine wu ?_|exact wkc|intro hc|refine wk2 ?_ ?_|refine we ht1 ?_ ?_|refine we ht2 ?_ ?_|fail)
    all_goals first
     | exact zac.zb0 hlt (h2 (by clear hi hd1 ht1 ht2 heq hau hx;grind))
     | ((repeat' (first|refine zac.panic ?_|refine wk ?_|fail));apply retF;(first|assumption|decide);(clear hi hd1 ht1 ht2 heq hau hx;grind);exact rfl;exact rfl)
   ·repeat' (first|refine wu ?_|exact wkc|intro hc|refine wk2 ?_ ?_|fail)
    exact retN (by rw[hz2,za7 ha]) rfl rfl
theorem zjf(es:List En)(n q:Int)(a:Auto)(hw:(zaG a).w≤1000000000):LS 47 [.t (.ag (zfs a)),.i 0] es n q (zeg es 3 a):=zfe es n q 3 0 (qae _) rfl a hw
theorem wka{G Q:Prop}(k:Q)(h:Hold Q->G:=by
  (intro k;apply TO.zpi zaa;(iterate 9 exact rfl);exact leB;exact k.p)):G:=h ⟨k⟩
theorem retQ{rs:List ResultVar}{env:Env}{H H1:Heap}{v:SV}{n q q' c c':Int}(h0:c'≠0)(hc:c'=c)(hq:q'=q)(hN:Nat.ble 1 H.length=true)(hb:zad H.length H=true):
  RetK tab rs 1 (Err0 c v (zgR n q c) H1 1) (.panic (zgR n q' c')) env H:=by
 subst hc hq;exact RetK.errP h0 hN rfl hb
theorem zir{α:Type}{f:α->Int}{l:List α}{k:Nat}(hk:k<l.length)(h:zap f (l.take k)=0)(hn:f l[k]≠0):zcZ f l=((k:Int),f l[k]):=by
 conv=>lhs;rw[<-qbf k l]
 rw[zeD,if_pos h,qaF hk,zap,if_neg hn,if_neg hn,zcZ,if_neg hn]
 simp;omega
theorem zrv(n:Nod):(zcn n.ins).w+(zcn n.outs).w+(zcn n.locals).w+(T.sl 7 (n.eqs.map equT)).w+(T.sl 1 (n.autos.map zaG)).w+(T.sl 6 (n.assume.map exT)).w+(T.sl 6 (n.ensure.map exT)).w≤(nodT n).w:=by
 rw[show nodT n= .ag (nodC n) from rfl,w_ag];simp only[nodC,qah,qas,qax,qaK];omega
set_option maxHeartbeats 1000000 in
theorem zjL (es:List En) (a b i:Int) (n:Nod) (hw:(nodT n).w≤1000000000):
  Sound Tryz.prog 22 [.ref 0 0,.i i,.t (.ag (nodC n))] [zcd es a b] (Err (zcU es n).2 (.tup []) (zgR i (zcU es n).1 (zcU es n).2) [zcd es i (-1)]):=by
 refine Sound.err rfl (fun _=>rfl) ?_
 have hwn:=zrv n
 have l1:=zdZ equT 7 n.eqs
 have l2:=zdZ zaG 1 n.autos
 have l3:=zdZ exT 6 n.assume
 have l4:=zdZ exT 6 n.ensure
 have m1:(n.ins.map zag).length=n.ins.length:=qad _
 have m2:(n.outs.map zag).length=n.outs.length:=qad _
 have m3:(n.locals.map zag).length=n.locals.length:=qad _
 have m4:(n.eqs.map equT).length=n.eqs.length:=qad _
 have m5:(n.autos.map zaG).length=n.autos.length:=qad _
 have m6:(n.assume.map exT).length=n.assume.length:=qad _
 have m7:(n.ensure.map exT).length=n.ensure.length:=qad _
 have hi:=zbH es i (-1) n.name
 have hd1:=zcX es i (-1) n.ins true (by omega)
 have hd2:=zcX es i (-1) n.outs true (by omega)
 have hd3:=zcX es i (-1) n.locals false (by omega)
 have heq:∀(q:Int) u,u∈n.eqs->LS 46 [.t (.ag (equC u))] es i q (equE es u):=fun q u hu=>zg7 es i q u (by have:=zh7 (f:=equT) (sz:=7) hu;omega)
 have hau:∀u,u∈n.autos->LS 47 [.t (.ag (zfs u)),.i 0] es i (-1) (zeg es 3 u):=fun u hu=>zjf es i (-1) u (by have:=zh7 (f:=zaG) (sz:=1) hu;omega)
 have hex:∀u,u∈n.assume\/u∈n.ensure->wEx u≤1000000000:=fun u hu=>by
  have:=zhs u
  rcases hu with hu|hu
  ·have:=zh7 (f:=exT) (sz:=6) hu;omega
  ·have:=zh7 (f:=exT) (sz:=6) hu;omega
 have hz:zcU es n=zcU es n:=rfl
 conv at hz=>rhs;unfold zcU zpy zq5 orE
 generalize zcU es n=z at hz⊢
 unfold nodC
 clear hwn hw
 refine so Tryz.func22 ?_
 repeat' (first|refine wu ?_|exact wkc|intro hc|refine wk2 ?_ ?_|refine wm ?_|refine we hi ?_ ?_|refine we hd1 ?_ ?_|refine we hd2 ?_ ?_|refine we hd3 ?_ ?_|fail)
 all_goals first
  | ((repeat' (first|refine zac.panic ?_|refine wk ?_|fail));apply retQ;(first|assumption|decide);(clear hi hd1 hd2 hd3 heq hau hex;grind);(clear hi hd1 hd2 hd3 heq hau hex;grind);exact rfl;exact rfl)
  | skip
 refine TR.zbv n.eqs.length (fun k=>zap (equE es) (n.eqs.take k)=0) (fun k=>[(0,.ref 0 0),(5,.cp (nC n) 0),(80,.t (.sl 7 (n.eqs.map equT))),(81,.i (n.eqs.map equT).length),(82,.i k)]) (fun k=>[zcd es i ((k:Int)-1)]) rfl (fun k hlt ha=>?_) (fun ha=>?_)
 ·have hx:=zoS hlt
  have g1:=zbj (f:=(equE es)) hlt ha
  have g2:=za0 (f:=(equE es)) hlt ha
  have hs:=heq k _ (qaz hlt)
  have g3:=zir (f:=equE es) hlt ha
  generalize n.eqs[k]=u at*
  unfold equC at hx hs
  repeat' (first|refine wkt ?_|refine wka ?_|refine wk ?_|exact wkc|intro hc|refine wk2 ?_ ?_|refine we hs ?_ ?_|fail)
  all_goals first
   | (refine zac.zb0 hlt (g2 hc) ?_ (by rw[show((k+1:Nat):Int)-1=k from by omega]);repeat' (first|exact trivial|refine qai rfl ?_|fail))
   | ((repeat' (first|refine zac.panic ?_|refine wk ?_|fail));apply retQ;(first|assumption|decide);(clear hs hi hd1 hd2 hd3 heq hau hex hx;grind);(clear hs hi hd1 hd2 hd3 heq hau hex hx;grind);exact rfl;exact rfl)
 have e1:=za7 ha
 clear hi hd1 hd2 hd3 heq
 refine wk ?_
 repeat' (first|refine wu ?_|exact wkc|intro hc|refine wk2 ?_ ?_|fail)
 refine TR.zbv n.autos.length (fun k=>zap (zeg es 3) (n.autos.take k)=0) (fun k=>[(0,.ref 0 0),(5,.cp (nC n) 0),(101,.t (.sl 1 (n.autos.map zaG))),(102,.i (n.autos.map zaG).length),(103,.i k)]) (fun k=>[zcd es i (-1)]) rfl (fun k hlt ha=>?_) (fun ha=>?_)
 ·have hx:=zmc hlt
  have g1:=zbj (f:=(zeg es 3)) hlt ha
  have g2:=za0 (f:=(zeg es 3)) hlt ha
  have hs:=hau _ (qaz hlt)
  generalize n.autos[k]=u at*
  unfold zfs at hx hs
  repeat' (first|refine wu ?_|exact wkc|intro hc|refine wk2 ?_ ?_|refine we hs ?_ ?_|fail)
  all_goals first
   | exact zac.zb0 hlt (g2 hc)
   | ((repeat' (first|refine zac.panic ?_|refine wk ?_|fail));apply retQ;(first|assumption|decide);(clear hs hau hex hx;grind);(clear hs hau hex hx;grind);exact rfl;exact rfl)
 have e2:=za7 ha
 clear hau
 refine wk ?_
 repeat' (first|refine wu ?_|exact wkc|intro hc|refine wk2 ?_ ?_|fail)
 refine TR.zbv n.assume.length (fun k=>zap (zcp es) (n.assume.take k)=0) (fun k=>[(0,.ref 0 0),(5,.cp (nC n) 0),(112,.t (.sl 6 (n.assume.map exT))),(113,.i (n.assume.map exT).length),(114,.i k)]) (fun k=>[zcd es i (-1)]) rfl (fun k hlt ha=>?_) (fun ha=>?_)
 ·have hx:=zg0 hlt
  have g1:=zbj (f:=(zcp es)) hlt ha
  have g2:=za0 (f:=(zcp es)) hlt ha
  have hs:=zcL es _ (hex _ (.inl (qaz hlt)))
  rw[zao]at hs
  generalize n.assume[k]=u at*
  exact zwl
 have e3:=za7 ha
 refine wk ?_
 repeat' (first|refine wu ?_|exact wkc|intro hc|refine wk2 ?_ ?_|fail)
 refine TR.zbv n.ensure.length (fun k=>zap (zcp es) (n.ensure.take k)=0) (fun k=>[(0,.ref 0 0),(5,.cp (nC n) 0),(128,.t (.sl 6 (n.ensure.map exT))),(129,.i (n.ensure.map exT).length),(130,.i k)]) (fun k=>[zcd es i (-1)]) rfl (fun k hlt ha=>?_) (fun ha=>?_)
 ·have hx:=zg0 hlt
  have g1:=zbj (f:=(zcp es)) hlt ha
  have g2:=za0 (f:=(zcp es)) hlt ha
  have hs:=zcL es _ (hex _ (.inr (qaz hlt)))
  rw[zao]at hs
  generalize n.ensure[k]=u at*
  exact zwl
 have e4:=za7 ha
 refine wk ?_
 repeat' (first|refine wu ?_|exact wkc|intro hc|refine wk2 ?_ ?_|fail)
 refine RetK.errN (vs:=[]) ?_ rfl (Le.refl _) rfl rfl rfl rfl rfl
 clear hex;grind
end Go.Proofs.YtpfnfpaahefdaaaGreat
namespace Go.TL
open Go
section rules
variable {P:Program}{n:Nat}{env:Env}{H:Heap}{K:TK}{all:Array Oper}{rest:List Oper}{tab:Tab}{q:Bool}
variable {d:Nat}{ty:TypeId}{pos:String}{aft:Array Edge}
theorem TO.zic(hT:zaF P tab){t xt:TypeId}{i:TyI}{x:Operand}{s:SV}(hd:Nat.ble (d+1) n=true)(hx:env.val x=some (.ifc t s))(ht:tab.get t=some i)(ha:i.k.agg=true)
  (k:TO q P n all rest ((d,.tup [s,.b true])::env) H K):TO q P n all (⟨some d,.typeAssert x xt t true,ty,pos,aft,none⟩::rest) env H K:=
 TO.op hd (fun m ac h1 h2 h3=>by
  have hv:=h3.val hx
  generalize hq:ac.eval x=u at hv
  cases hv with
  | ifc _ _ y hy=>
    obtain⟨dd,ti,z,g1,g2,g3,g4,g5,g6,g7,g8,g9⟩:=(hT t i ht).ex
    refine⟨.tuple #[y,.bool true],fun w' hw'=>?_,?_⟩
    ·cases hk:i.k <;> rw[hk]at ha g3 <;> simp[TK'.agg]at ha <;> cases dd <;> simp[TK'.fits]at g3 <;> simp[execOp,hq,Instr.typeAssert,run_underlying g1]
    ·refine .tup _ _ rfl fun j c z hc hz=>?_
     match j with
     | 0=>simp at hc hz;subst hc hz;exact hy
     | 1=>simp at hc hz;subst hc hz;exact .t _ _ (.v _)
     | j+2=>simp at hc) k
theorem TO.zlb(hT:zaF P tab){t xt:TypeId}{i:TyI}{x:Operand}(hd:Nat.ble (d+1) n=true)(hx:env.val x=some (.t (.v .nilIface)))(ht:tab.get t=some i)(ha:i.k.agg=true)
  (k:TO q P n all rest ((d,.tup [.t (.ag i.zero),.b false])::env) H K):TO q P n all (⟨some d,.typeAssert x xt t true,ty,pos,aft,none⟩::rest) env H K:=
 TO.op hd (fun m ac h1 h2 h3=>by
  have hv:=h3.val hx
  generalize hq:ac.eval x=u at hv
  have hu:=hv.v_eq
  subst hu
  obtain⟨dd,ti,z,g1,g2,g3,g4,g5,g6,g7,g8,g9⟩:=(hT t i ht).ex
  obtain⟨cs,rfl⟩:=g8 ha
  obtain⟨z1,z2,z3⟩:=zb3 (A:=m.A) (w:=m.w) _ _ g7
  refine⟨.tuple #[.agg cs,.bool false],fun w' hw'=>?_,?_⟩
  ·have hz:(zeroValue t).run P w'= .ok (.agg cs) w':=by simp[zeroValue,typeInfo,g2,g6]
   cases hk:i.k <;> rw[hk]at ha g3 <;> simp[TK'.agg]at ha <;> cases dd <;> simp[TK'.fits]at g3 <;> simp[execOp,hq,Instr.typeAssert,run_underlying g1,hz]
  ·refine .tup _ _ rfl fun j c z hc hz=>?_
   match j with
   | 0=>
     simp at hc hz;subst hc hz
     refine .t _ _ (.ag _ _ (by simpa [Value.cells]using z1.symm) (fun i y hy=>z2 i y (by simpa [Value.cells]using hy)) fun i c y hc hy=>z3 i c y hc (by simpa [Value.cells]using hy))
   | 1=>simp at hc hz;subst hc hz;exact .t _ _ (.v _)
   | j+2=>simp at hc) k
end rules
end Go.TL
namespace Go.Proofs.YtpfnfpaahefdaaaGreat
open Go Go.TL
attribute [local irreducible] TR TO Then zab RetK Sound zac Kf GG za2
theorem zg5(n q c:Int)(a b d:SV)(Hr:Heap)(hb:zad (Hr.length+2) Hr=true):
  zcb Tryz.prog 19 [.ref 0 0,.ref 1 0] (.cells [a,b]:: .cells [d]::Hr) (some (zgR n q c)) (fun H3=>H3= .cells [.i n,.i q]:: .cells [.i c]::Hr):=by
 refine zcb.of (tab:=tab) Tryz.func19 (by kernel_rfl) rfl rfl rfl rfl ?_
 repeat' (first|refine wu ?_|exact wkc|intro hc|refine wk2 ?_ ?_|(apply TO.zic zaa;(iterate 4 exact rfl))|fail)
 refine Then.normal ?_
 repeat' (first|refine wkt ?_|fail)
 refine TR.zpT (envF:=?envF) (HF:=.cells [.i n,.i q]:: .cells [.i c]::Hr) [(.cp [T.i n,T.i q,T.i c] 0,false),(.t (.ag [T.i n,T.i q]),false),(.cp [T.i n,T.i q,T.i c] 2,false),(.i c,false),(.any,true),(.any,true)] [.cells [a,b]:: .cells [d]::Hr,.cells [.i n,.i q]:: .cells [d]::Hr,.cells [.i n,.i q]:: .cells [.i c]::Hr] hmix ?hB ?h0 ?hp ?hF ?hE ?hK
 case hB=>(dsimp only[List.map];decide +kernel)
 case h0=>exact rfl
 case hF=>exact rfl
 case hE=>exact rfl
 case hp=>repeat' (first|refine wu ?_|exact trivial|exact qai rfl rfl|refine qai (fun H env=>?_) ?_|refine qai (fun env=>?_) ?_|fail)
 repeat' (first|refine wu ?_|exact wkc|intro hc|refine wk2 ?_ ?_|fail)
 have ht:(Blk.cells [.i n,.i q]::Blk.cells [.i c]::Hr).take (Blk.cells [a,b]::Blk.cells [d]::Hr).length=Blk.cells [.i n,.i q]::Blk.cells [.i c]::Hr:=by simp
 refine⟨qae _,?_,ht⟩
 show zad _ (List.take _ (Blk.cells [.i n,.i q]::Blk.cells [.i c]::Hr))=true
 rw[ht]
 exact hb
theorem zlh(H:Heap)(hb:zad H.length H=true):
  zcb Tryz.prog 19 [.ref 0 0,.ref 1 0] H none (fun H3=>H3=H):=by
 refine zcb.of (tab:=tab) Tryz.func19 (by kernel_rfl) rfl rfl rfl rfl ?_
 repeat' (first|refine wu ?_|exact wkc|intro hc|refine wk2 ?_ ?_|(apply TO.zlb zaa;(iterate 4 exact rfl))|fail)
 refine Then.normal ?_
 repeat' (first|refine wu ?_|exact wkc|intro hc|refine wk2 ?_ ?_|fail)
 exact⟨qae _,by rw[qaH (qae _)];exact hb,qaH (qae _)⟩
theorem we3{G Q1 Q2:Prop}{f:FuncId}{cargs:List SV}{v pv:SV}{c:Int}{Hc H1:Heap}(hs:Sound Tryz.prog f cargs Hc (Err c v pv H1))(k1:Q1)(k2:Q2)(h:Sound Tryz.prog f cargs Hc (Err c v pv H1)->Hold Q1->Hold Q2->G:=by
  intro hs k1 k2
  (apply TO.zqx [2] hs;(iterate 3 exact rfl);exact zqa;exact rfl;exact Hands.one rfl rfl;(iterate 4 exact rfl);exact k1.p;exact k2.p)):G:=h hs ⟨k1⟩ ⟨k2⟩
structure zfc (p:Prog) (w:Nat):Prop where
 es:p.enums.length≤w
 tg:∀u∈p.enums,u.tags.length≤w
 ns:p.nodes.length≤w
 nd:∀n∈p.nodes,(nodT n).w≤w
theorem ziW(p:Prog)(hw:zfc p 1000000000):Pure Tryz.prog 8 [.t (.ag (zq0 p))] (.tup [.t (.ag [T.i (zdK p).1.1,T.i (zdK p).1.2]),.i (zdK p).2]):=by
 refine Sound.zdb zaa Tryz.func8 (by kernel_rfl) rfl rfl (gf:=19) (cv:=[.ref 0 0,.ref 1 0]) ?_
 unfold zq0
 refine TD.seq ?_
 repeat' (first|refine wu ?_|fail)
 show TD _ _ (.seq _ _) _ _ _ _ _ _
 refine TD.defer (tz:=0) rfl rfl ?_
 have m1:(p.enums.map enT).length=p.enums.length:=qad _
 have m2:(p.nodes.map nodT).length=p.nodes.length:=qad _
 have b1:=hw.es
 have b2:=hw.ns
 have hen:∀(n q:Int) u,u∈p.enums->LS 21 [.t (.ag [.s u.name,.sl 1 (u.tags.map T.s)])] p.enums n q (zf2 u):=fun n q u hu=>zju p.enums n q u (hw.tg u hu)
 have hno:∀(a b i:Int) u,u∈p.nodes->Sound Tryz.prog 22 [.ref 0 0,.i i,.t (.ag (nodC u))] [zcd p.enums a b] (Err (zcU p.enums u).2 (.tup []) (zgR i (zcU p.enums u).1 (zcU p.enums u).2) [zcd p.enums i (-1)]):=fun a b i u hu=>zjL p.enums a b i u (hw.nd u hu)
 have hz:zdK p=zdK p:=rfl
 conv at hz=>rhs;unfold zdK limE
 generalize zdK p=z at hz⊢
 refine wk ?_
 repeat' (first|refine wkt ?_|refine wka ?_|refine wk ?_|exact wkc|intro hc|refine wk2 ?_ ?_|(apply TO.zcC [2] (zmU p.enums (-1) (-1) 3);(iterate 3 exact rfl);exact⟨Le.refl _,Le.refl _,Le.refl _,trivial⟩;exact rfl;exact Hands.one rfl rfl;exact rfl;exact rfl)|refine we3 (zmT p.enums (-1) (-1) 3 (by decide)) ?_ ?_|fail)
 all_goals first
  | (have hzz:z=((-1,-1),3):=by rw[hz];clear hen hno;grind
     subst hzz
     exact⟨_,zg5 _ _ _ _ _ _ _ rfl,fun H3 h=>by subst h;exact wkr⟩)
  | skip
 rw[if_neg (by clear hen hno hz;simp;omega)]at hz
 refine TR.zbv p.enums.length (fun k=>zap zf2 (p.enums.take k)=0) (fun k=>[(1,.cp [.sl 2 (p.enums.map enT),zmY p.nodes] 0),(2,.ref 0 0),(3,.ref 1 0),(4,.ref 2 0),(28,.t (.sl 2 (p.enums.map enT))),(29,.i (p.enums.map enT).length),(30,.i k)])
  (fun k=>[.cells [.i 0,.i 0],.cells [.i 0],zcd p.enums (-1) (-1)]) rfl (fun k hlt ha=>?_) (fun ha=>?_)
 ·have hx:(p.enums.map enT)[k]?=some (.ag [.s p.enums[k].name,.sl 1 (p.enums[k].tags.map T.s)]):=zbW enT hlt
  have g1:=zbj (f:=zf2) hlt ha
  have g2:=za0 (f:=zf2) hlt ha
  have hs:=hen (-1) (-1) _ (qaz hlt)
  generalize p.enums[k]=u at*
  clear hen hno
  repeat' (first|refine wkt ?_|refine wka ?_|refine wk ?_|exact wkc|intro hc|refine wk2 ?_ ?_|refine we3 hs ?_ ?_|fail)
  ·exact zac.zb0 hlt (g2 hc)
  ·rw[if_pos (by rw[g1 hc];exact hc),g1 hc]at hz
   exact zwde
 have e1:=za7 ha
 rw[if_neg (by simp[e1])]at hz
 clear hen
 refine wk ?_
 repeat' (first|refine wu ?_|exact wkc|intro hc|refine wk2 ?_ ?_|fail)
 refine TR.zbv p.nodes.length (fun k=>zap (fun n=>(zcU p.enums n).2) (p.nodes.take k)=0) (fun k=>[(2,.ref 0 0),(3,.ref 1 0),(4,.ref 2 0),(39,.t (zmY p.nodes)),(40,.i (p.nodes.map nodT).length),(41,.i k)])
  (fun k=>[.cells [.i 0,.i 0],.cells [.i 0],zcd p.enums ((k:Int)-1) (-1)]) rfl (fun k hlt ha=>?_) (fun ha=>?_)
 ·have hx:=zqs hlt
  have g1:=zbj (f:=fun n=>(zcU p.enums n).2) hlt ha
  have g2:=za0 (f:=fun n=>(zcU p.enums n).2) hlt ha
  have g3:=zir (f:=fun n=>(zcU p.enums n).2) hlt ha
  have hs:=hno ((k:Int)-1) (-1) k _ (qaz hlt)
  have hat:p.nodes[k]?=some p.nodes[k]:=qab hlt
  generalize p.nodes[k]=u at*
  clear hno
  unfold nodC at hx hs
  repeat' (first|refine wkt ?_|refine wka ?_|refine wk ?_|exact wkc|intro hc|refine wk2 ?_ ?_|refine we3 hs ?_ ?_|fail)
  ·refine zac.zb0 hlt (g2 hc) ?_ (by rw[show((k+1:Nat):Int)-1=k from by omega];rfl)
   repeat' (first|exact trivial|refine qai rfl ?_|fail)
  ·rw[if_neg (by rw[g1 hc];exact hc),g3 hc,g1 hc]at hz
   simp only[Int.toNat_natCast,hat,qaX,qbU]at hz
   exact zwde
 have e2:=za7 ha
 rw[if_pos e2]at hz
 subst hz
 refine wk ?_
 repeat' (first|refine wu ?_|exact wkc|intro hc|refine wk2 ?_ ?_|fail)
 exact⟨_,zlh _ rfl,fun H3 h=>by subst h;exact wkr⟩
end Go.Proofs.YtpfnfpaahefdaaaGreat
