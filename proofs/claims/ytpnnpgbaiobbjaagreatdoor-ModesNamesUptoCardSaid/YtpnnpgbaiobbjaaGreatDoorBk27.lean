import Derived.Test.YtpnnpgbaiobbjaaGreatDoorBk26
set_option linter.all false
namespace Go.Proofs.YtpnnpgbaiobbjaaGreatDoor
open Go Go.TL
attribute [local irreducible] TR TO Then zap RetK Sound zab Kf GG za3
def exA:Nat->Auto->Prop
 | 0,_=>True
 | k+1,a=>∀s∈a.states,(∀u∈s.eqs,∀x∈flat u.right,ExOk x)/\(∀t∈s.unl,∀x∈flat t.cond,ExOk x)/\(∀t∈s.unt,∀x∈flat t.cond,ExOk x)/\∀b∈s.autos,exA k b
section
variable (p:Prog)(hp:zgF p)(n q:Int)(seen:List (Int×Str×Int))(hse:zaX seen)(hsn:zcu p seen)(node:Int)
include hp hse hsn
theorem auc:∀(k:Nat) (h:Ch) (hin:h.N+4*k=19) (hk:h.ok) (hd:h.top.defs.length≤1000000000) (au:Auto) (hw:(zae au).w≤1000000000) (hn:ze5 k au) (hx:exA k au),
  SS 162 [.i node,.ref h.id 0,.t (.ag (zdv au))] p n q seen h (h.set (zcf p seen node k h.vis0 h.low h.top au).1) (zcf p seen node k h.vis0 h.low h.top au).2
 | 0,h,hin,hk,hd,au,hw,hn,hx=>hn.elim
 | k+1,h,hin,hk,hd,au,hw,hn,hx=>by
   have hws:∀s∈au.states,(staT s).w≤1000000000:=fun s hs=>by have:=zau (f:=staT) (sz:=6) hs;have:=zbH au;omega
   have hwa:∀s∈au.states,∀bb∈s.autos,(zae bb).w≤1000000000:=fun s hs bb hb=>by have:=zau (f:=zae) (sz:=1) hb;have:=zdQ s;have:=hws s hs;omega
   have hgd:=fun s (hs:s∈au.states) own B tt bb (hb:bb∈s.autos)=>zhF (p:=p) (seen:=seen) (node:=node) k (vis0:=h.vis) (low:=h.low++h.top.done) (own:=own) (B:=B) (t:=tt) (a:=bb) (hwa s hs bb hb)
   refine zsk p n q seen node h (by omega) hk hd (zcf p seen node k) au hw (fun s hs=>?_) (fun s hs hz=>?_)
   ·refine ztf p hp n q seen hse hsn node h (by omega) (by omega) hk (zcf p seen node k) s (hws s hs) (hgd s hs) (fun bb hb x hxo hxd hxs=>?_) (hx s hs).1 (hx s hs).2.1 (hx s hs).2.2.1
    have ih:=fun h1 h2 h3=>auc k (h.push x) h1 h2 h3 bb (hwa s hs bb hb) (hn s hs bb hb) ((hx s hs).2.2.2 bb hb)
    cases h
    case one=>simp[Ch.N]at hin;omega
    case c1=>exact ih (by simp[Ch.N,Ch.push]at *;omega) ⟨hk.1,hk.2,hxo⟩ hxd
    case c2=>exact ih (by simp[Ch.N,Ch.push]at *;omega) ⟨hk.1,hk.2.1,hk.2.2,hxo⟩ hxd
    case c3=>exact ih (by simp[Ch.N,Ch.push]at *;omega) ⟨hk.1,hk.2.1,hk.2.2.1,hk.2.2.2,hxo⟩ hxd
    case c4=>simp[Ch.N]at hin
   ·have:=zrJ (F:=zcf p seen node k) (hws s hs) (hgd s hs) hz
    have h2:=hws s hs
    exact⟨by omega,this.2⟩
end
section
variable {n:Nat}{env:Env}{K:TK}{all:Array Oper}{rest:List Oper}{d:Nat}{ty:TypeId}{pos:String}{aft:Array Edge}{H:Heap}{args:Array Operand}{ts:Array TypeId}
theorem TO.zuk{ls:List (List Decl)}(hl:ls.length≤1000000)(hn:ls.flatten.length≤3000000000)(hd:Nat.ble (d+1) n=true)(ha:env.vals args.toList=some [.t (.sl 1 (ls.map dls))])
  (k:TO false Tryz.prog n all rest ((d,.t (dls ls.flatten))::env) (H++[.dead]) K):
  TO false Tryz.prog n all (⟨some d,.call { callee:=.value (.func 108),args:=args,argTypes:=ts },ty,pos,aft,none⟩::rest) env H K:=by
 by_cases h0:ls.flatten=[]
 ·refine TO.ze8 (zfv ls hl h0) hd rfl ha (Les.refl _) rfl rfl ?_
  refine TO.less d (v':=.t (dls [])) (by rw[Env.zan]) (Le.nil 3) ?_
  refine TO.shadow (TO.zt1 ?_)
  rw[h0]at k;exact k
 ·have h1:1≤ls.flatten.length:=by
   cases hv:ls.flatten with
   | nil=>exact absurd hv h0
   | cons a l=>simp
  have hc:=zgP ls hl hn h1
  generalize ls.flatten=L at*
  have hcl:(zaO L).length=L.length*3:=zbi L
  refine TO.zkX (tl:=zaO L) hc hd rfl ha (Les.refl _) rfl ?_
  refine TO.zj8 d 3 H.length L.length (cs:=(zaO L).map .t) (es:=L.map zaa) (by rw[Env.zan]) (by simp) (by simp[hcl]) (fun j c hj=>hj) (by simp) (fun e he=>by obtain⟨x,_,rfl⟩:=qa2.1 he;rfl) rfl rfl ?_
  refine TO.shadow ?_
  rw[show(H++[Blk.cells ((zaO L).map SV.t)]).set H.length .dead=H++[.dead] from by rw[qcF _ _ (qag _),qbz];rfl]
  exact k
end
def seeL(L:List Decl):Lv:=⟨(L.map Decl.name).foldl ins [],[],[]⟩
def zji(p:Prog)(seen:List (Int×Str×Int))(node:Int)(L:List Decl)(l:List Ex):Int:=zaf (zeh p seen node (seeL L).own 1) l
theorem zgM(p:Prog)(hp:zgF p)(n q:Int)(seen:List (Int×Str×Int))(hse:zaX seen)(hsn:zcu p seen)(node:Int)(l:List Ex)(ls:List (List Decl))(hl:ls.length≤1000000)(hwl:(dls ls.flatten).w≤1000000000)(hw:(T.sl 6 (l.map exT)).w≤1000000000)(hex:∀e∈l,∀x∈flat e,ExOk x):
  Sound Tryz.prog 163 [.ref 0 0,.i node,.t (.sl 6 (l.map exT)),.t (.sl 1 (ls.map dls))] [lkB p n q,zb0 seen] (Err (zji p seen node ls.flatten l) (.tup []) (zcv n q (zji p seen node ls.flatten l)) [lkB p n q,zb0 seen]):=by
 have hfl:ls.flatten.length≤1000000000:=by have:=zai zaa 3 ls.flatten;have:(dls ls.flatten).w=(T.sl 3 (ls.flatten.map zaa)).w:=rfl;omega
 have hex2:l.length≤1000000000:=by have:=zai exT 6 l;omega
 have hm1:(ls.flatten.map zaa).length=ls.flatten.length:=qaa _
 have hm2:(l.map exT).length=l.length:=qaa _
 unfold zji
 refine Sound.err rfl (fun _=>rfl) ?_
 refine so Tryz.func163 ?_
 refine TR.dead ?_
 repeat' (first|refine wu ?_|(apply TO.zug (zlu p n q seen);(iterate 3 exact rfl);exact Les.refl _)|(apply TO.zuk hl (by omega);exact rfl;exact rfl)|fail)
 generalize ls.flatten=L at*
 have hnm:∀x∈L,x.name.length≤1000000000:=fun x hx=>by have:=(zbd hx).1;have:(dls L).w=(zad L).w:=rfl;omega
 have hins:∀k,zaw (((L.take k).map Decl.name).foldl ins []):=by
  have:∀(l:List Decl) (d:List Str),zaw d->(∀x∈l,x.name.length≤1000000000)->zaw ((l.map Decl.name).foldl ins d):=by
   exact zwcr
  exact fun k=>this _ [] zaw.nil (fun x hx=>hnm x (qaR hx))
 refine TR.zal L.length (fun _=>True) (fun k=>[(0,.ref 0 0),(1,.i node),(2,.t (.sl 6 (l.map exT))),(8,.ref 4 0),(15,.t (dls L)),(16,.i (L.map zaa).length),(17,.i k)]) (fun k=>full p n q seen (.one (seeL (L.take k)))++[.dead]) trivial (fun k hlt _=>?_) (fun _=>?_)
 ·have hx:=zcY hlt
  have hno:=hnm _ (qad hlt)
  have hdn:=hins k
  have g2:seeL (L.take (k+1))=⟨ins ((L.take k).map Decl.name |>.foldl ins []) L[k].name,[],[]⟩:=by
   unfold seeL;rw[qaA hlt,qal,qa5];rfl
  have g1:seeL (L.take k)=⟨((L.take k).map Decl.name).foldl ins [],[],[]⟩:=rfl
  rw[g1]
  generalize ((L.take k).map Decl.name).foldl ins []=dn at*
  generalize L[k]=x at*
  exact zwx
 have hk:(Ch.one (seeL L)).ok:=by
  have:=hins L.length
  rw[qae]at this
  exact⟨this,zaw.nil⟩
 rw[qae]
 have hvis:Ch.vis (.one (seeL L))=(seeL L).own:=rfl
 generalize seeL L=A at*
 refine wk ?_
 repeat' (first|refine wu ?_|exact wkc|intro hc|refine wk2 ?_ ?_|fail)
 refine TR.zal l.length (fun k=>zaf (zeh p seen node A.own 1) (l.take k)=0) (fun k=>[(0,.ref 0 0),(1,.i node),(8,.ref 4 0),(28,.t (.sl 6 (l.map exT))),(29,.i (l.map exT).length),(30,.i k)]) (fun k=>full p n q seen (.one A)++[.dead]) rfl (fun k hlt ha=>?_) (fun ha=>?_)
 ·have hx:=zfn hlt
  have g1:=zaI (f:=zeh p seen node A.own 1) hlt ha
  have g2:=zas (f:=zeh p seen node A.own 1) hlt ha
  have hwx:wEx l[k]≤1000000000:=by have:=zcT l[k];have:=zau (f:=exT) (sz:=6) (qad hlt);omega
  have hs:=zgh p hp n q seen hse hsn node 1 (.one A) hk l[k] hwx (hex _ (qad hlt))
  rw[hvis]at hs
  generalize l[k]=x at*
  generalize zeh p seen node A.own 1 x=z at*
  unfold exC at hx hs
  repeat' (first|refine wkt ?_|refine wka ?_|refine wkD ?_|refine wk ?_|exact wkc|intro hc|refine wk2 ?_ ?_|refine wsx ?_|refine wms ?_|refine wsy ?_ ?_|refine wss hs ?_ ?_|fail)
  ·exact zab.zaz hlt (g2 hc)
  ·((repeat' (first|refine zab.panic ?_|refine wk ?_|fail));apply retS;(first|assumption|decide);(clear hx hs;first|grind|grind [orE]);(first|exact leB|exact Nat.le_refl _|(simp[Ch.len];done)|(simp[Ch.len];omega)))
 ·have e1:=zaK ha
  refine wk ?_
  repeat' (first|refine wu ?_|exact wkc|intro hc|refine wk2 ?_ ?_|fail)
  exact zlT e1 rfl rfl rfl rfl
theorem zhA(p:Prog)(n q:Int)(seen:List (Int×Str×Int))(hse:zaX seen)(k v:Int)(hkk:0≤k/\k≤2)(nm:Str)(hno:nm.length≤1000000000):
  Sound Tryz.prog 106 [.ref 0 0,.t (.ag [.i k,.s nm]),.i v] [lkB p n q,zb0 seen] (Err (if(zaN seen k nm).isSome=true then 7 else 0) (.tup []) (zcv n q (if(zaN seen k nm).isSome=true then 7 else 0)) [lkB p n q,zb0 (seen++[(k,nm,v)])]):=by
 cases hg:zaN seen k nm with
 | none=>
   refine Sound.err rfl (fun _=>rfl) ?_
   refine so Tryz.func106 ?_
   refine TR.dead ?_
   repeat' (first|refine wkt ?_|refine wka ?_|refine wkD ?_|refine wk ?_|exact wkc|intro hc|refine wk2 ?_ ?_|refine wsx ?_|refine wms ?_|refine wsy ?_ ?_|(apply TO.ztR;(iterate 4 exact rfl);assumption;assumption;assumption;assumption)|(apply TO.zu0;(iterate 4 exact rfl);assumption;assumption;assumption;assumption;exact rfl)|fail)
   exact zlT rfl rfl rfl rfl rfl
 | some w=>
   refine Sound.err rfl (fun _=>rfl) ?_
   refine so Tryz.func106 ?_
   refine TR.dead ?_
   repeat' (first|refine wkt ?_|refine wka ?_|refine wkD ?_|refine wk ?_|exact wkc|intro hc|refine wk2 ?_ ?_|refine wsx ?_|refine wms ?_|refine wsy ?_ ?_|(apply TO.zu1;(iterate 4 exact rfl);assumption;assumption;assumption;assumption)|fail)
   (apply retB;decide;rfl;exact rfl)
def zqQ{α β:Type}(f:β->α->β×Int):β->List α->Int
 | _,[]=>0
 | a,x::l=>if(f a x).2=0 then zqQ f (f a x).1 l+1 else 0
theorem zol{α β:Type}{f:β->α->β×Int}:∀ {l:List α} {a:β} {k:Nat} (hk:k<l.length),(zaq f a (l.take k)).2=0->(f (zaq f a (l.take k)).1 l[k]).2≠0->zqQ f a l=k
 | x::l,a,0,hk,h,hn=>by
   simp only[qbv,zaq,qb0]at hn
   rw[zqQ,if_neg hn];rfl
 | x::l,a,k+1,hk,h,hn=>by
   rw[qaM,zaq]at h
   by_cases h0:(f a x).2=0
   ·rw[if_pos h0]at h
    have hn':(f (zaq f (f a x).1 (l.take k)).1 (l[k]'(by simpa using hk))).2≠0:=by
     rw[qaM,zaq,if_pos h0]at hn
     simpa using hn
    rw[zqQ,if_pos h0,zol (by simpa using hk) h hn']
    omega
   ·rw[if_neg h0]at h;exact absurd h h0
def zuM(p:Prog)(seen:List (Int×Str×Int))(i:Int)(n:Nod):Int×Int:=
 let inp:=(n.ins.map Decl.name).foldl ins []
 let r1:=zmD seen [] lv0 (zav n)
 let r2:=zaq (equS p seen i [] inp) r1.1 n.eqs
 let r3:=zaq (zcf p seen i 3 [] inp) r2.1 n.autos
 if r1.2≠0 then(-1,r1.2) else if zlU r1.1.own n.locals≠0 then(-1,zlU r1.1.own n.locals) else if r2.2≠0 then(zqQ (equS p seen i [] inp) r1.1 n.eqs,r2.2) else
 (-1,orE r3.2 (orE (zji p seen i n.ins n.assume) (orE (zji p seen i (n.ins++n.outs) n.ensure) (zaf (fun d:Decl=>if d.name∈r3.1.done then 0 else 8) (n.outs++n.locals)))))
def zdn(p:Prog)(seen:List (Int×Str×Int))(i:Int)(n:Nod):Int×Int:=
 if(zaN seen 1 n.name).isSome=true then(-1,7) else zuM p (seen++[(1,n.name,i)]) i n
structure zvd (n:Nod):Prop where
 w:(nodT n).w≤100000000
 nest:∀a∈n.autos,ze5 3 a
 exA:∀a∈n.autos,exA 3 a
 eqs:∀u∈n.eqs,∀x∈flat u.right,ExOk x
 assume:∀e∈n.assume,∀x∈flat e,ExOk x
 ensure:∀e∈n.ensure,∀x∈flat e,ExOk x
theorem znv{rs:List ResultVar}{env:Env}{H H1:Heap}{n q q' c c':Int}{N:Nat}{v:SV}(h0:c'≠0)(hc:c'=c)(hq:q'=q)(hN:N≤H.length):
  ziN (RetK tab rs N (Err0 c v (zcv n q c) H1 N)) (.panic (zcv n q' c')) env H:=by subst hq;exact retS h0 hc hN
theorem zbp(a b:List Decl):(zad (a++b)).w≤(zad a).w+(zad b).w:=by
 have e:∀l:List Decl,(zad l).w=1+((l.map zaa).map T.w).sum:=fun l=>w_sl 3 _
 rw[e,e,e,qal,qal,qbH];omega
theorem zix(l:List (Int×Str×Int))(k:Int)(s:Str)(v:Int)(j:Int)(x:Str):zaN (l++[(k,s,v)]) j x=if(zaN l j x).isSome=true then zaN l j x else if k=j/\s=x then some v else none:=by
 unfold zaN
 rw[List.find?_append]
 cases h:l.find? (fun e=>decide (e.1=j/\e.2.1=x)) with
 | some e=>simp
 | none=>
   by_cases hk:k=j/\s=x
   ·simp[List.find?,hk]
   ·simp only[List.find?,Option.none_or,Option.map_none]
    rw[decide_eq_false hk]
    simp[hk]
theorem zcu.add{p:Prog}{seen:List (Int×Str×Int)}(h:zcu p seen){s:Str}{k:Nat}(hk:k<p.nodes.length):zcu p (seen++[(1,s,(k:Int))]):=by
 intro x i hx
 rw[zix]at hx
 split at hx
 ·exact h x i hx
 ·split at hx
  ·cases hx;omega
  ·cases hx
theorem zcu.add'{p:Prog}{seen:List (Int×Str×Int)}(h:zcu p seen){s:Str}{j v:Int}(hj:j≠1):zcu p (seen++[(j,s,v)]):=by
 intro x i hx
 rw[zix]at hx
 split at hx
 ·exact h x i hx
 ·split at hx
  ·rename_i hh;exact absurd hh.1 hj
  ·cases hx
set_option maxHeartbeats 2000000 in
theorem zps (p:Prog) (hp:zgF p) (a b:Int) (seen:List (Int×Str×Int)) (hse0:zaX seen) (hsn0:zcu p seen) (k:Nat) (hk:k<p.nodes.length) (n:Nod) (hnk:p.nodes[k]?=some n) (hn:zvd n):
  Sound Tryz.prog 107 [.ref 0 0,.i k] [lkB p a b,zb0 seen] (Err (zdn p seen k n).2 (.tup []) (zcv k (zdn p seen k n).1 (zdn p seen k n).2) [lkB p k (-1),zb0 (seen++[(1,n.name,(k:Int))])]):=by
 have hml:(p.nodes.map nodT).length=p.nodes.length:=qaa _
 have hat:(p.nodes.map nodT)[k]?=some (.ag (nodC n)):=by rw[qav,hnk];rfl
 have hpl:=hp.nodes
 have hwn:=zda n
 have hw:=hn.w
 have hno:n.name.length≤1000000000:=by
  have:n.name.length≤(nodT n).w:=by
   rw[show nodT n= .ag (nodC n) from rfl,w_ag]
   exact zwfi
  omega
 have hadd:=zhA p k (-1) seen hse0 1 k (by decide) n.name hno
 have hz:zdn p seen k n=zdn p seen k n:=rfl
 conv at hz=>rhs;unfold zdn
 generalize zdn p seen k n=z at hz⊢
 by_cases hg:(zaN seen 1 n.name).isSome=true
 ·rw[if_pos hg]at hz hadd
  subst hz
  unfold nodC at hat
  refine Sound.err rfl (fun _=>rfl) ?_
  refine so Tryz.func107 ?_
  refine TR.dead ?_
  repeat' (first|refine wu ?_|exact wkc|intro hc|refine wk2 ?_ ?_|refine we hadd ?_ ?_|fail)
  exact znv (by decide) rfl rfl (leB)
 rw[if_neg hg]at hz hadd
 have hgn:zaN seen 1 n.name=none:=by
  cases h:zaN seen 1 n.name with
  | none=>rfl
  | some w=>rw[h]at hg;exact absurd rfl hg
 have hse:=hse0.add (v:=(k:Int)) (by decide) hno hgn
 have hsn:=hsn0.add (s:=n.name) hk
 clear hse0 hsn0 hg hgn
 generalize hsq:seen++[(1,n.name,(k:Int))]=sq at*
 have l1:=zai zaa 3 n.ins
 have l2:=zai zaa 3 n.outs
 have l3:=zai zaa 3 n.locals
 have l4:=zai equT 7 n.eqs
 have l5:=zai zae 1 n.autos
 have d1:(zad n.ins).w=(T.sl 3 (n.ins.map zaa)).w:=rfl
 have d2:(zad n.outs).w=(T.sl 3 (n.outs.map zaa)).w:=rfl
 have d3:(zad n.locals).w=(T.sl 3 (n.locals.map zaa)).w:=rfl
 have m1:(n.ins.map zaa).length=n.ins.length:=qaa _
 have m4:(n.eqs.map equT).length=n.eqs.length:=qaa _
 have m5:(n.autos.map zae).length=n.autos.length:=qaa _
 have e4:(zad ([]:List Decl)).w=1:=by rw[w_sl];rfl
 have hvw:(zad (zav n)).w≤100000002:=by
  have e1:=zbp n.ins (n.outs++(n.locals++[]))
  have e2:=zbp n.outs (n.locals++[])
  have e3:=zbp n.locals []
  unfold zav;omega
 have hv:=zcz n ⟨by omega,by omega,by omega⟩ (fun d hd=>by
  have h1:=(zbd hd).2
  have h2:=zai onT 3 d.clock
  omega)
 have hde:=zfB p k (-1) sq hse (.c1 [] lv0) ⟨zaw.nil,zaw.nil,zaw.nil⟩ (zav n) (by omega)
 simp only[Ch.vis0,Ch.top,Ch.set,Ch.id]at hde
 unfold zuM at hz
 simp only at hz
 generalize hV:zav n=V at*
 generalize hr1:zmD sq [] lv0 V=R1 at*
 unfold nodC at hat hv
 refine Sound.err rfl (fun _=>rfl) ?_
 refine so Tryz.func107 ?_
 refine TR.dead ?_
 repeat' (first|refine wkt ?_|refine we hadd ?_ ?_|(apply TO.zug (zlu p k (-1) sq);(iterate 3 exact rfl);exact Les.refl _;apply TO.zkp 9 4 4;(iterate 3 exact rfl))|refine wk ?_|intro hc|refine wv hv ?_|refine wss hde ?_ ?_|fail)
 all_goals first
  | exact absurd rfl hc
  | exact znv hc (by rw[hz,if_pos hc]) (by rw[hz,if_pos hc]) (leB)
  | skip
 rw[if_neg (by simp[hc])]at hz
 have hR1z:=hc
 have G1:R1.1.ok/\R1.1.defs=[]:=by
  have:=zbR (f:=zb4 sq []) (G:=fun(B:Nat) (a:Lv)=>a.ok/\a.defs=[]) (w:=fun _=>0) V (fun B a x hx h _=>⟨h.1.zgG (by have:=(zbd hx).1;omega),h.2⟩) 0 lv0 ⟨⟨zaw.nil,zaw.nil⟩,rfl⟩ (by rw[<-hr1]at hR1z;exact hR1z)
  rw[<-hr1];exact this
 clear hde hr1
 obtain⟨L1,R1e⟩:=R1
 simp only at hz G1 hR1z
 have hsm:=ziw p k (-1) sq (.c1 [] L1) ⟨zaw.nil,G1.1⟩ n.locals (by omega)
 simp only[Ch.vis,Ch.vis0,Ch.top,Ch.id,qa7]at hsm
 repeat' (first|refine wkt ?_|refine wka ?_|refine wkD ?_|refine wk ?_|exact wkc|intro hc|refine wk2 ?_ ?_|refine wsx ?_|refine wms ?_|refine wsy ?_ ?_|refine wss hsm ?_ ?_|fail)
 all_goals first
  | exact znv hc (by rw[hz,if_pos hc]) (by rw[hz,if_pos hc]) (leB)
  | skip
 rw[if_neg (by simp[hc])]at hz
 clear hsm
 have hins:∀j,zaw (((n.ins.take j).map Decl.name).foldl ins []):=by
  have:∀(l:List Decl) (d:List Str),zaw d->(∀x∈l,x.name.length≤1000000000)->zaw ((l.map Decl.name).foldl ins d):=by
   exact zwcr
  exact fun j=>this _ [] zaw.nil (fun x hx=>by have:=(zbd (qaR hx)).1;omega)
 refine TR.zal n.ins.length (fun _=>True) (fun j=>[(0,.ref 0 0),(1,.i k),(4,.cp (nC n) 0),(5,.ref 4 0),(49,.t (zad n.ins)),(50,.i (n.ins.map zaa).length),(51,.i j)]) (fun j=>full p k (-1) sq (.c1 (((n.ins.take j).map Decl.name).foldl ins []) L1)) trivial (fun j hlt _=>?_) (fun _=>?_)
 ·have hx:=zcY hlt
  have hnx:n.ins[j].name.length≤1000000000:=by have:=(zbd (qad hlt)).1;omega
  have hdn:=hins j
  have g2:((n.ins.take (j+1)).map Decl.name).foldl ins []=ins (((n.ins.take j).map Decl.name).foldl ins []) n.ins[j].name:=by
   rw[qaA hlt,qal,qa5];rfl
  generalize ((n.ins.take j).map Decl.name).foldl ins []=dn at*
  generalize n.ins[j]=x at*
  exact zwx
 have hinp:=hins n.ins.length
 rw[qae]at hinp
 rw[qae]
 generalize (n.ins.map Decl.name).foldl ins []=inp at*
 clear hins
 refine wk ?_
 repeat' (first|refine wu ?_|exact wkc|intro hc|refine wk2 ?_ ?_|fail)
 have G2:Good L1.own 0 L1:=⟨G1.1,rfl,by rw[G1.2];exact qag _,by rw[G1.2];simp⟩
 have ek1:=fun j=>zbO (fun u=>(equT u).w) n.eqs j
 have ek2:=fun j=>zbO (fun u=>(zae u).w) n.autos j
 have es1:=zth equT 7 n.eqs
 have es2:=zth zae 1 n.autos
 have ge:=fun j hz=>zeN (f:=equS p sq k [] inp) (G:=Good L1.own) (w:=fun u=>(equT u).w) n.eqs (fun B a x hx h hz=>zj3 (by have:=zau (f:=equT) (sz:=7) hx;omega) h hz) 0 L1 G2 (k:=j) hz
 refine TR.zal n.eqs.length (fun j=>(zaq (equS p sq k [] inp) L1 (n.eqs.take j)).2=0) (fun j=>[(0,.ref 0 0),(1,.i k),(4,.cp (nC n) 0),(5,.ref 4 0),(63,.t (.sl 7 (n.eqs.map equT))),(64,.i (n.eqs.map equT).length),(65,.i j)]) (fun j=>full p k ((j:Int)-1) sq (.c1 inp (zaq (equS p sq k [] inp) L1 (n.eqs.take j)).1)) rfl (fun j hlt ha=>?_) (fun ha=>?_)
 ·have hx:=zjc hlt
  have g1:=zcB (f:=equS p sq k [] inp) hlt ha
  have g2:=zbE (f:=equS p sq k [] inp) hlt ha
  have g3:=zol (f:=equS p sq k [] inp) hlt ha
  have hwu:(equT n.eqs[j]).w≤1000000000:=by have:=zau (f:=equT) (sz:=7) (qad hlt);omega
  have gk:=ge j ha
  have gk2:=ek1 j
  have hxk:=hn.eqs _ (qad hlt)
  have hlw:=zdk (q:=n.eqs[j])
  generalize (zaq (equS p sq k [] inp) L1 (n.eqs.take j)).1=st at*
  generalize n.eqs[j]=x at*
  have hs:=zlg p hp k j sq hse hsn k (.c1 inp st) (by simp[Ch.N]) ⟨hinp,gk.ok⟩ x hwu (by have:=gk.len;simp only[Ch.top];omega) hxk
  simp only[Ch.vis0,Ch.low,Ch.top,Ch.set,Ch.id]at hs
  generalize equS p sq k [] inp st x=fx at*
  unfold equC at hx hs
  clear ge
  repeat' (first|refine wkt ?_|refine wka ?_|refine wk ?_|exact wkc|intro hc|refine wk2 ?_ ?_|refine wss hs ?_ ?_|fail)
  ·refine zab.zaz hlt (by rw[g2];exact hc) ?_ (by rw[g2,show((j+1:Nat):Int)-1=j from by omega])
   repeat' (first|exact trivial|refine qah rfl ?_|fail)
  ·rw[if_pos (by rw[g1 hc];exact hc),g1 hc,g3 hc]at hz
   (repeat' (first|refine zab.panic ?_|refine wk ?_|fail))
   exact znv hc (by rw[hz]) (by rw[hz]) (leB)
 have ge1:=ge n.eqs.length ha
 rw[qae]at ha ge1
 rw[qae]
 rw[if_neg (by simp[ha])]at hz
 generalize (zaq (equS p sq k [] inp) L1 n.eqs).1=L2 at*
 clear ge
 refine wk ?_
 repeat' (first|refine wu ?_|exact wkc|intro hc|refine wk2 ?_ ?_|fail)
 have hau:=fun b (hb:b∈n.autos) (t:Lv) (ht:t.ok) (hd:t.defs.length≤1000000000)=>auc p hp k (-1) sq hse hsn k 3 (.c1 inp t) rfl ⟨hinp,ht⟩ hd b (by have:=zau (f:=zae) (sz:=1) hb;omega) (hn.nest b hb) (hn.exA b hb)
 have ga:=fun j hz=>zeN (f:=zcf p sq k 3 [] inp) (G:=Good L1.own) (w:=fun b=>(zae b).w) n.autos (fun B a x hx h hz=>zhF 3 (by have:=zau (f:=zae) (sz:=1) hx;omega) h hz) _ L2 ge1 (k:=j) hz
 refine TR.zal n.autos.length (fun j=>(zaq (zcf p sq k 3 [] inp) L2 (n.autos.take j)).2=0) (fun j=>[(0,.ref 0 0),(1,.i k),(4,.cp (nC n) 0),(5,.ref 4 0),(86,.t (.sl 1 (n.autos.map zae))),(87,.i (n.autos.map zae).length),(88,.i j)]) (fun j=>full p k (-1) sq (.c1 inp (zaq (zcf p sq k 3 [] inp) L2 (n.autos.take j)).1)) rfl (fun j hlt ha=>?_) (fun ha=>?_)
 ·have hx:=zhD hlt
  have g1:=zcB (f:=zcf p sq k 3 [] inp) hlt ha
  have g2:=zbE (f:=zcf p sq k 3 [] inp) hlt ha
  have gk:=ga j ha
  have gk2:=ek2 j
  have gk3:=ek1 n.eqs.length
  generalize (zaq (zcf p sq k 3 [] inp) L2 (n.autos.take j)).1=st at*
  have hs:=hau _ (qad hlt) st gk.ok (by have:=gk.len;omega)
  simp only[Ch.vis0,Ch.low,Ch.top,Ch.set,Ch.id]at hs
  generalize n.autos[j]=x at*
  generalize zcf p sq k 3 [] inp st x=fx at*
  unfold zdv at hx hs
  clear hau ga
  repeat' (first|refine wkt ?_|refine wka ?_|refine wkD ?_|refine wk ?_|exact wkc|intro hc|refine wk2 ?_ ?_|refine wsx ?_|refine wms ?_|refine wsy ?_ ?_|refine wss hs ?_ ?_|fail)
  ·refine zab.zaz hlt (by rw[g2];exact hc) ?_ (by rw[g2])
   repeat' (first|exact trivial|refine qah rfl ?_|fail)
  ·rw[g1 hc]at hz
   (repeat' (first|refine zab.panic ?_|refine wk ?_|fail))
   exact znv hc (by rw[hz];try simp[orE,hc]) (by rw[hz]) (leB)
 have ga1:=ga n.autos.length ha
 rw[qae]at ha ga1
 rw[qae]
 rw[ha]at hz
 generalize (zaq (zcf p sq k 3 [] inp) L2 n.autos).1=L3 at*
 clear ga hau
 refine wk ?_
 repeat' (first|refine wu ?_|exact wkc|intro hc|refine wk2 ?_ ?_|fail)
 have hca:=zgM p hp k (-1) sq hse hsn k n.assume [n.ins] (by simp) (by simp only[qbh,qb7,qaQ];show(zad n.ins).w≤_;omega) (by omega) hn.assume
 have hce:=zgM p hp k (-1) sq hse hsn k n.ensure [n.ins,n.outs] (by simp) (by
  have:=zbp n.ins n.outs
  simp only[qbh,qb7,qaQ];show(zad (n.ins++n.outs)).w≤_;omega) (by omega) hn.ensure
 simp only[qbh,qb7,qaQ,qaj,qaw]at hca hce
 have hmV:(V.map zaa).length=V.length:=qaa _
 have hVl:n.ins.length≤V.length:=by rw[<-hV];simp[zav]
 have hdr:(V.map zaa).drop (n.ins.map zaa).length=(n.outs++n.locals).map zaa:=by
  rw[<-hV,m1,<-List.map_drop];simp[zav]
 repeat' (first|refine wkt ?_|refine TR.znt (envF:=_) (g:=True) [(.t (.ag (nC n)),false),(.t (zad V),true),(.cp (nC n) 1,false),(.t (zad n.ins),false),(.i (n.ins.map zaa).length,false),(.t (.sl 3 ((V.map zaa).drop (n.ins.map zaa).length)),false),(.i ((V.map zaa).drop (n.ins.map zaa).length).length,false),(.i 0,false)] hmix (by dsimp only[List.map];decide +kernel) ?_ rfl (by decide) ?_|refine wk ?_|exact wkc|intro hc|refine wk2 ?_ ?_|refine we hca ?_ ?_|refine we hce ?_ ?_|refine wv hv ?_|refine zqv ?_|exact qah (qah rfl rfl) trivial|exact trivial|refine qah (fun env=>?_) ?_|fail)
 all_goals first
  | exact znv hc (by rw[hz];simp only[orE];clear hca hce hv;grind) (by rw[hz]) (leB)
  | skip
 clear hca hce hv
 rw[hdr]
 have hml2:((n.outs++n.locals).map zaa).length=(n.outs++n.locals).length:=qaa _
 have hol:(n.outs++n.locals).length≤1000000000:=by simp;omega
 have hon:∀x∈n.outs++n.locals,x.name.length≤1000000000:=fun x hx=>by
  rcases qaF.1 hx with hx|hx
  ·have:=(zbd hx).1;omega
  ·have:=(zbd hx).1;omega
 generalize n.outs++n.locals=OL at*
 refine TR.zal OL.length (fun j=>zaf (fun d:Decl=>if d.name∈L3.done then 0 else 8) (OL.take j)=0) (fun j=>[(0,.ref 0 0),(1,.i k),(4,.cp (nC n) 0),(5,.ref 4 0),(121,.t (zad OL)),(122,.i (OL.map zaa).length),(123,.i j)]) (fun _=>full p k (-1) sq (.c1 inp L3)) rfl (fun j hlt ha=>?_) (fun ha=>?_)
 ·have hx:=zcY hlt
  have hnx:=hon _ (qad hlt)
  have g1:=zaI (f:=fun d:Decl=>if d.name∈L3.done then 0 else 8) hlt ha
  have g2:=zas (f:=fun d:Decl=>if d.name∈L3.done then 0 else 8) hlt ha
  have hdn:=ga1.ok.done
  generalize OL[j]=x at*
  unfold zeZ at hx
  repeat' (first|refine wkt ?_|refine wka ?_|refine wkD ?_|refine wk ?_|exact wkc|intro hc|refine wk2 ?_ ?_|refine wsx ?_|refine wms ?_|refine wsy ?_ ?_|fail)
  ·exact zab.zaz hlt (g2 (by rw[if_pos hc]))
  ·(repeat' (first|refine zab.panic ?_|refine wk ?_|fail))
   exact znv (by decide) (by rw[hz];simp only[orE];grind) (by rw[hz]) (leB)
 have el:=zaK ha
 repeat' (first|refine wu ?_|exact wkc|intro hc|refine wk2 ?_ ?_|fail)
 refine RetK.errN (vs:=[]) ?_ rfl (Le.refl _) rfl rfl rfl rfl rfl
 rw[hz];simp only[orE];grind
theorem zlh:∀(m:Nat) (e:Ex),wEx e≤m->∀x∈flat e,x.name.length≤(exT e).w
 | 0,e,h=>by have:=zcQ e;omega
 | m+1,e,h=>by
   intro x hx
   have he:(exT e).w=(T.ag (exC e)).w:=by rw[zay]
   have h1:e.name.length+(T.sl 6 (e.args.map exT)).w≤(exT e).w:=by
    exact zwel
   rw[zcM]at hx
   rcases qbd.1 hx with rfl|hx
   ·omega
   ·unfold flats at hx
    obtain⟨l,hl,hxl⟩:=qcy.1 hx
    obtain⟨y,hy,rfl⟩:=qa2.1 hl
    have:=zlh m y (by have:=zb9 hy;omega) x hxl
    have:=zau (f:=exT) (sz:=6) hy
    omega
theorem zgf{es:List En}{e:Ex}(h:zb5 es e=0)(hw:(exT e).w≤1000000000):∀x∈flat e,ExOk x:=fun x hx=>
 ⟨(zja h x hx).v,qaC (zlh _ e (qag _) x hx) hw⟩
theorem zaB{a b:Int}(h:orE a b=0):a=0/\b=0:=by
 exact zwfe
theorem zj2{es:List En}{u:Equ}(h:equE es u=0):zb5 es u.right=0:=by
 unfold equE at h
 exact(zaB (zaB (zaB (zaB h).2).2).2).1
theorem zhw{es:List En}{n:Int}{s:Bool}{t:Tran}(h:zfj es n s t=0):zb5 es t.cond=0:=by
 unfold zfj at h
 exact(zaB (zaB h).2).1
theorem zhk(u:Equ):(exT u.right).w≤(equT u).w:=by
 rw[zay,w_ag,show equT u= .ag (.sl 1 (u.left.map T.s)::exC u.right) from rfl,w_ag,qaj,qan];omega
theorem zf5(t:Tran):(exT t.cond).w≤(zah t).w:=by
 rw[zay,w_ag,show zah t= .ag (zhe t) from rfl,w_ag]
 simp only[exC,zhe,qaj,qaw,qan,qaG];omega
theorem zml{es:List En}:∀(k:Nat) (a:Auto),(zae a).w≤1000000000->zcs es k a=0->ze5 k a/\exA k a
 | 0,a,hw,h=>by simp[zcs]at h
 | k+1,a,hw,h=>by
   unfold zcs at h
   have hst:=zaj (zaB (zaB h).2).2
   have hwa:=zbH a
   have key:∀s∈a.states,(∀b∈s.autos,ze5 k b/\exA k b)/\(∀u∈s.eqs,∀x∈flat u.right,ExOk x)/\(∀t∈s.unl,∀x∈flat t.cond,ExOk x)/\(∀t∈s.unt,∀x∈flat t.cond,ExOk x):=by
    intro s hs
    have h1:=hst s hs
    have hws:=zau (f:=staT) (sz:=6) hs
    have hw2:=zdQ s
    unfold stE at h1
    have h3:=(zaB (zaB (zaB h1).2).2).2
    have he:=zaj (zaB h3).1
    have h4:=(zaB h3).2
    have ha:=zaj (zaB h4).1
    have h5:=(zaB h4).2
    have hu:=zaj (zaB h5).1
    have hv:=zaj (zaB h5).2
    refine⟨fun b hb=>zml k b (by have:=zau (f:=zae) (sz:=1) hb;omega) (ha b hb),fun u hu'=>zgf (zj2 (he u hu')) (by have:=zhk u;have:=zau (f:=equT) (sz:=7) hu';omega),fun t ht=>zgf (zhw (hu t ht)) (by have:=zf5 t;have:=zau (f:=zah) (sz:=8) ht;omega),fun t ht=>zgf (zhw (hv t ht)) (by have:=zf5 t;have:=zau (f:=zah) (sz:=8) ht;omega)⟩
   exact zwcz
theorem zuN{es:List En}{n:Nod}(h:(zce es n).2=0)(hw:(nodT n).w≤100000000):zvd n:=by
 have hwn:=zda n
 unfold zce at h
 have h1:zlr es n=0:=qaq fun hh=>by rw[if_pos hh]at h;exact hh h
 rw[if_neg (by simp[h1])]at h
 have h2:zaf (equE es) n.eqs=0:=qaq fun hh=>by rw[if_pos hh,zcc]at h;exact hh h
 rw[if_neg (by simp[h2])]at h
 simp only at h
 unfold znE at h
 have ha:=zaj (zaB h).1
 have hs:=zaj (zaB (zaB h).2).1
 have he:=zaj (zaB (zaB h).2).2
 have hq:=zaj h2
 refine⟨hw,fun a h=>(zml 3 a (by have:=zau (f:=zae) (sz:=1) h;omega) (ha a h)).1,fun a h=>(zml 3 a (by have:=zau (f:=zae) (sz:=1) h;omega) (ha a h)).2,fun u hu=>zgf (zj2 (hq u hu)) (by have:=zhk u;have:=zau (f:=equT) (sz:=7) hu;omega),fun e h=>zgf (hs e h) (by have:=zau (f:=exT) (sz:=6) h;omega),fun e h=>zgf (he e h) (by have:=zau (f:=exT) (sz:=6) h;omega)⟩
theorem ziy{p:Prog}(h:(zbf p).2=0):∀n∈p.nodes,(zce p.enums n).2=0:=by
 unfold zbf at h
 have h1:limE p=0:=qaq fun hh=>by rw[if_pos hh]at h;exact hh h
 rw[if_neg (by simp[h1])]at h
 have h2:zaf zfb p.enums=0:=qaq fun hh=>by rw[if_pos hh]at h;exact hh h
 rw[if_neg (by simp[h2])]at h
 have h3:zaf (fun n=>(zce p.enums n).2) p.nodes=0:=qaq fun hh=>by rw[if_neg hh]at h;exact hh h
 exact zaj h3
def addF(seen:List (Int×Str×Int))(e:Int×Str×Int):List (Int×Str×Int)×Int:=(seen++[e],if(zaN seen e.1 e.2.1).isSome=true then 7 else 0)
def zf4(u:En)(i:Int):List (Int×Str×Int):=u.tags.map fun s=>(0,s,i)
def enF(seen:List (Int×Str×Int))(x:En×Nat):List (Int×Str×Int)×Int:=zaq addF seen ((2,x.1.name,(x.2:Int))::zf4 x.1 x.2)
def nodF(p:Prog)(seen:List (Int×Str×Int))(x:Nod×Nat):List (Int×Str×Int)×Int:=(seen++[(1,x.1.name,(x.2:Int))],(zdn p seen x.2 x.1).2)
def zlP(p:Prog):List (Int×Str×Int)->List (Nod×Nat)->Int×Int
 | _,[]=>(0,0)
 | st,x::l=>if(nodF p st x).2=0 then zlP p (nodF p st x).1 l else((x.2:Int),(zdn p st x.2 x.1).1)
theorem zlQ(p:Prog):∀ {l:List (Nod×Nat)} {a:List (Int×Str×Int)} {k:Nat} (hk:k<l.length),(zaq (nodF p) a (l.take k)).2=0->(nodF p (zaq (nodF p) a (l.take k)).1 l[k]).2≠0->zlP p a l=((l[k].2:Int),(zdn p (zaq (nodF p) a (l.take k)).1 l[k].2 l[k].1).1)
 | x::l,a,0,hk,h,hn=>by
   simp only[qbv,zaq,qb0]at hn⊢
   rw[zlP,if_neg hn]
 | x::l,a,k+1,hk,h,hn=>by
   rw[qaM,zaq]at h
   by_cases h0:(nodF p a x).2=0
   ·rw[if_pos h0]at h
    have hn':(nodF p (zaq (nodF p) (nodF p a x).1 (l.take k)).1 (l[k]'(by simpa using hk))).2≠0:=by
     rw[qaM,zaq,if_pos h0]at hn
     simpa using hn
    rw[zlP,if_pos h0,zlQ p (by simpa using hk) h hn',qaM,zaq,if_pos h0]
    simp
   ·rw[if_neg h0]at h;exact absurd h h0
def zcH(p:Prog):(Int×Int)×Int:=
 if(zbf p).2≠0 then zbf p else
 if(zaq enF [] p.enums.zipIdx).2≠0 then((-1,-1),(zaq enF [] p.enums.zipIdx).2) else
 if(zaq (nodF p) (zaq enF [] p.enums.zipIdx).1 p.nodes.zipIdx).2=0 then((0,0),0) else(zlP p (zaq enF [] p.enums.zipIdx).1 p.nodes.zipIdx,(zaq (nodF p) (zaq enF [] p.enums.zipIdx).1 p.nodes.zipIdx).2)
end Go.Proofs.YtpnnpgbaiobbjaaGreatDoor
