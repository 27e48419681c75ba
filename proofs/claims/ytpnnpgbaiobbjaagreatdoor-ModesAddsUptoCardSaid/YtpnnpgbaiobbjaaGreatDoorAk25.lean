import Derived.Test.YtpnnpgbaiobbjaaGreatDoorAk24
set_option linter.all false
namespace Go.Proofs.YtpnnpgbaiobbjaaGreatDoor
open Go Go.TL
attribute [local irreducible] TR TO Then zao RetK Sound zab Kf GG zaZ
def exA:Nat->Auto->Prop
 | 0,_=>True
 | k+1,a=>∀s∈a.states,(∀u∈s.eqs,∀x∈flat u.right,ExOk x)/\(∀t∈s.unl,∀x∈flat t.cond,ExOk x)/\(∀t∈s.unt,∀x∈flat t.cond,ExOk x)/\∀b∈s.autos,exA k b
section
variable (p:Prog)(hp:zgr p)(n q:Int)(seen:List (Int×Str×Int))(hse:zaS seen)(hsn:zch p seen)(node:Int)
include hp hse hsn
theorem auc:∀(k:Nat) (h:Ch) (hin:h.N+4*k=19) (hk:h.ok) (hd:h.top.defs.length≤1000000000) (au:Auto) (hw:(zae au).w≤1000000000) (hn:zeY k au) (hx:exA k au),
  SS 162 [.i node,.ref h.id 0,.t (.ag (zdj au))] p n q seen h (h.set (zb4 p seen node k h.vis0 h.low h.top au).1) (zb4 p seen node k h.vis0 h.low h.top au).2
 | 0,h,hin,hk,hd,au,hw,hn,hx=>hn.elim
 | k+1,h,hin,hk,hd,au,hw,hn,hx=>by
   have hws:∀s∈au.states,(staT s).w≤1000000000:=fun s hs=>by have:=zav (f:=staT) (sz:=6) hs;have:=zbJ au;omega
   have hwa:∀s∈au.states,∀bb∈s.autos,(zae bb).w≤1000000000:=fun s hs bb hb=>by have:=zav (f:=zae) (sz:=1) hb;have:=zdK s;have:=hws s hs;omega
   have hgd:=fun s (hs:s∈au.states) own B tt bb (hb:bb∈s.autos)=>zhp (p:=p) (seen:=seen) (node:=node) k (vis0:=h.vis) (low:=h.low++h.top.done) (own:=own) (B:=B) (t:=tt) (a:=bb) (hwa s hs bb hb)
   refine zsm p n q seen node h (by omega) hk hd (zb4 p seen node k) au hw (fun s hs=>?_) (fun s hs hz=>?_)
   ·refine ztc p hp n q seen hse hsn node h (by omega) (by omega) hk (zb4 p seen node k) s (hws s hs) (hgd s hs) (fun bb hb x hxo hxd hxs=>?_) (hx s hs).1 (hx s hs).2.1 (hx s hs).2.2.1
    have ih:=fun h1 h2 h3=>auc k (h.push x) h1 h2 h3 bb (hwa s hs bb hb) (hn s hs bb hb) ((hx s hs).2.2.2 bb hb)
    cases h
    case one=>simp[Ch.N]at hin;omega
    case c1=>exact ih (by simp[Ch.N,Ch.push]at *;omega) ⟨hk.1,hk.2,hxo⟩ hxd
    case c2=>exact ih (by simp[Ch.N,Ch.push]at *;omega) ⟨hk.1,hk.2.1,hk.2.2,hxo⟩ hxd
    case c3=>exact ih (by simp[Ch.N,Ch.push]at *;omega) ⟨hk.1,hk.2.1,hk.2.2.1,hk.2.2.2,hxo⟩ hxd
    case c4=>simp[Ch.N]at hin
   ·have:=zrI (F:=zb4 p seen node k) (hws s hs) (hgd s hs) hz
    have h2:=hws s hs
    exact⟨by omega,this.2⟩
end
section
variable {n:Nat}{env:Env}{K:TK}{all:Array Oper}{rest:List Oper}{d:Nat}{ty:TypeId}{pos:String}{aft:Array Edge}{H:Heap}{args:Array Operand}{ts:Array TypeId}
theorem TO.zuq{ls:List (List Decl)}(hl:ls.length≤1000000)(hn:ls.flatten.length≤3000000000)(hd:Nat.ble (d+1) n=true)(ha:env.vals args.toList=some [.t (.sl 1 (ls.map dls))])
  (k:TO false Tryz.prog n all rest ((d,.t (dls ls.flatten))::env) (H++[.dead]) K):
  TO false Tryz.prog n all (⟨some d,.call { callee:=.value (.func 108),args:=args,argTypes:=ts },ty,pos,aft,none⟩::rest) env H K:=by
 by_cases h0:ls.flatten=[]
 ·refine TO.zeQ (zfl ls hl h0) hd rfl ha (Les.refl _) rfl rfl ?_
  refine TO.less d (v':=.t (dls [])) (by rw[Env.zan]) (Le.nil 3) ?_
  refine TO.shadow (TO.zt6 ?_)
  rw[h0]at k;exact k
 ·have h1:1≤ls.flatten.length:=by
   cases hv:ls.flatten with
   | nil=>exact absurd hv h0
   | cons a l=>simp
  have hc:=zgB ls hl hn h1
  generalize ls.flatten=L at*
  have hcl:(zaL L).length=L.length*3:=zbd L
  refine TO.zpP (tl:=zaL L) hc hd rfl ha (Les.refl _) rfl ?_
  refine TO.zjU d 3 H.length L.length (cs:=(zaL L).map .t) (es:=L.map zaa) (by rw[Env.zan]) (by simp) (by simp[hcl]) (fun j c hj=>hj) (by simp) (fun e he=>by obtain⟨x,_,rfl⟩:=qa4.1 he;rfl) rfl rfl ?_
  refine TO.shadow ?_
  rw[show(H++[Blk.cells ((zaL L).map SV.t)]).set H.length .dead=H++[.dead] from by rw[qcH _ _ (qag _),qbH];rfl]
  exact k
end
def seeL(L:List Decl):Lv:=⟨(L.map Decl.name).foldl ins [],[],[]⟩
def zi5(p:Prog)(seen:List (Int×Str×Int))(node:Int)(L:List Decl)(l:List Ex):Int:=zaf (zd9 p seen node (seeL L).own 1) l
theorem zgy(p:Prog)(hp:zgr p)(n q:Int)(seen:List (Int×Str×Int))(hse:zaS seen)(hsn:zch p seen)(node:Int)(l:List Ex)(ls:List (List Decl))(hl:ls.length≤1000000)(hwl:(dls ls.flatten).w≤1000000000)(hw:(T.sl 6 (l.map exT)).w≤1000000000)(hex:∀e∈l,∀x∈flat e,ExOk x):
  Sound Tryz.prog 163 [.ref 0 0,.i node,.t (.sl 6 (l.map exT)),.t (.sl 1 (ls.map dls))] [lkB p n q,zbS seen] (Err (zi5 p seen node ls.flatten l) (.tup []) (zci n q (zi5 p seen node ls.flatten l)) [lkB p n q,zbS seen]):=by
 have hfl:ls.flatten.length≤1000000000:=by have:=zai zaa 3 ls.flatten;have:(dls ls.flatten).w=(T.sl 3 (ls.flatten.map zaa)).w:=rfl;omega
 have hex2:l.length≤1000000000:=by have:=zai exT 6 l;omega
 have hm1:(ls.flatten.map zaa).length=ls.flatten.length:=qaa _
 have hm2:(l.map exT).length=l.length:=qaa _
 unfold zi5
 refine Sound.err rfl (fun _=>rfl) ?_
 refine so Tryz.func163 ?_
 refine TR.dead ?_
 repeat' (first|refine wu ?_|(apply TO.zum (zld p n q seen);(iterate 3 exact rfl);exact Les.refl _)|(apply TO.zuq hl (by omega);exact rfl;exact rfl)|fail)
 generalize ls.flatten=L at*
 have hnm:∀x∈L,x.name.length≤1000000000:=fun x hx=>by have:=(za2 hx).1;have:(dls L).w=(zac L).w:=rfl;omega
 have hins:∀k,zaD (((L.take k).map Decl.name).foldl ins []):=by
  have:∀(l:List Decl) (d:List Str),zaD d->(∀x∈l,x.name.length≤1000000000)->zaD ((l.map Decl.name).foldl ins d):=by
   exact zwcg
  exact fun k=>this _ [] zaD.nil (fun x hx=>hnm x (qaR hx))
 refine TR.zal L.length (fun _=>True) (fun k=>[(0,.ref 0 0),(1,.i node),(2,.t (.sl 6 (l.map exT))),(8,.ref 4 0),(15,.t (dls L)),(16,.i (L.map zaa).length),(17,.i k)]) (fun k=>full p n q seen (.one (seeL (L.take k)))++[.dead]) trivial (fun k hlt _=>?_) (fun _=>?_)
 ·have hx:=zcQ hlt
  have hno:=hnm _ (qad hlt)
  have hdn:=hins k
  have g2:seeL (L.take (k+1))=⟨ins ((L.take k).map Decl.name |>.foldl ins []) L[k].name,[],[]⟩:=by
   unfold seeL;rw[qaA hlt,qal,qbm];rfl
  have g1:seeL (L.take k)=⟨((L.take k).map Decl.name).foldl ins [],[],[]⟩:=rfl
  rw[g1]
  generalize ((L.take k).map Decl.name).foldl ins []=dn at*
  generalize L[k]=x at*
  exact zwu
 have hk:(Ch.one (seeL L)).ok:=by
  have:=hins L.length
  rw[qah]at this
  exact⟨this,zaD.nil⟩
 rw[qah]
 have hvis:Ch.vis (.one (seeL L))=(seeL L).own:=rfl
 generalize seeL L=A at*
 refine wk ?_
 repeat' (first|refine wu ?_|exact wkc|intro hc|refine wk2 ?_ ?_|fail)
 refine TR.zal l.length (fun k=>zaf (zd9 p seen node A.own 1) (l.take k)=0) (fun k=>[(0,.ref 0 0),(1,.i node),(8,.ref 4 0),(28,.t (.sl 6 (l.map exT))),(29,.i (l.map exT).length),(30,.i k)]) (fun k=>full p n q seen (.one A)++[.dead]) rfl (fun k hlt ha=>?_) (fun ha=>?_)
 ·have hx:=zed hlt
  have g1:=zaF (f:=zd9 p seen node A.own 1) hlt ha
  have g2:=zaq (f:=zd9 p seen node A.own 1) hlt ha
  have hwx:wEx l[k]≤1000000000:=by have:=zdI l[k];have:=zav (f:=exT) (sz:=6) (qad hlt);omega
  have hs:=zf7 p hp n q seen hse hsn node 1 (.one A) hk l[k] hwx (hex _ (qad hlt))
  rw[hvis]at hs
  generalize l[k]=x at*
  generalize zd9 p seen node A.own 1 x=z at*
  unfold exC at hx hs
  repeat' (first|refine wkt ?_|refine wka ?_|refine wkD ?_|refine wk ?_|exact wkc|intro hc|refine wk2 ?_ ?_|refine wsx ?_|refine wms ?_|refine wsy ?_ ?_|refine wss hs ?_ ?_|fail)
  ·exact zab.zat hlt (g2 hc)
  ·((repeat' (first|refine zab.panic ?_|refine wk ?_|fail));apply retS;(first|assumption|decide);(clear hx hs;first|grind|grind [orE]);(first|exact leB|exact Nat.le_refl _|(simp[Ch.len];done)|(simp[Ch.len];omega)))
 ·have e1:=zaH ha
  refine wk ?_
  repeat' (first|refine wu ?_|exact wkc|intro hc|refine wk2 ?_ ?_|fail)
  exact zlD e1 rfl rfl rfl rfl
theorem zhl(p:Prog)(n q:Int)(seen:List (Int×Str×Int))(hse:zaS seen)(k v:Int)(hkk:0≤k/\k≤2)(nm:Str)(hno:nm.length≤1000000000):
  Sound Tryz.prog 106 [.ref 0 0,.t (.ag [.i k,.s nm]),.i v] [lkB p n q,zbS seen] (Err (if(zaK seen k nm).isSome=true then 7 else 0) (.tup []) (zci n q (if(zaK seen k nm).isSome=true then 7 else 0)) [lkB p n q,zbS (seen++[(k,nm,v)])]):=by
 cases hg:zaK seen k nm with
 | none=>
   refine Sound.err rfl (fun _=>rfl) ?_
   refine so Tryz.func106 ?_
   refine TR.dead ?_
   repeat' (first|refine wkt ?_|refine wka ?_|refine wkD ?_|refine wk ?_|exact wkc|intro hc|refine wk2 ?_ ?_|refine wsx ?_|refine wms ?_|refine wsy ?_ ?_|(apply TO.ztU;(iterate 4 exact rfl);assumption;assumption;assumption;assumption)|(apply TO.zu2;(iterate 4 exact rfl);assumption;assumption;assumption;assumption;exact rfl)|fail)
   exact zlD rfl rfl rfl rfl rfl
 | some w=>
   refine Sound.err rfl (fun _=>rfl) ?_
   refine so Tryz.func106 ?_
   refine TR.dead ?_
   repeat' (first|refine wkt ?_|refine wka ?_|refine wkD ?_|refine wk ?_|exact wkc|intro hc|refine wk2 ?_ ?_|refine wsx ?_|refine wms ?_|refine wsy ?_ ?_|(apply TO.zu3;(iterate 4 exact rfl);assumption;assumption;assumption;assumption)|fail)
   (apply retB;decide;rfl;exact rfl)
def zqI{α β:Type}(f:β->α->β×Int):β->List α->Int
 | _,[]=>0
 | a,x::l=>if(f a x).2=0 then zqI f (f a x).1 l+1 else 0
theorem znZ{α β:Type}{f:β->α->β×Int}:∀ {l:List α} {a:β} {k:Nat} (hk:k<l.length),(zam f a (l.take k)).2=0->(f (zam f a (l.take k)).1 l[k]).2≠0->zqI f a l=k
 | x::l,a,0,hk,h,hn=>by
   simp only[qbu,zam,qb5]at hn
   rw[zqI,if_neg hn];rfl
 | x::l,a,k+1,hk,h,hn=>by
   rw[qaM,zam]at h
   by_cases h0:(f a x).2=0
   ·rw[if_pos h0]at h
    have hn':(f (zam f (f a x).1 (l.take k)).1 (l[k]'(by simpa using hk))).2≠0:=by
     rw[qaM,zam,if_pos h0]at hn
     simpa using hn
    rw[zqI,if_pos h0,znZ (by simpa using hk) h hn']
    omega
   ·rw[if_neg h0]at h;exact absurd h h0
def zuR(p:Prog)(seen:List (Int×Str×Int))(i:Int)(n:Nod):Int×Int:=
 let inp:=(n.ins.map Decl.name).foldl ins []
 let r1:=zml seen [] lv0 (zaB n)
 let r2:=zam (equS p seen i [] inp) r1.1 n.eqs
 let r3:=zam (zb4 p seen i 3 [] inp) r2.1 n.autos
 if r1.2≠0 then(-1,r1.2) else if zlF r1.1.own n.locals≠0 then(-1,zlF r1.1.own n.locals) else if r2.2≠0 then(zqI (equS p seen i [] inp) r1.1 n.eqs,r2.2) else
 (-1,orE r3.2 (orE (zi5 p seen i n.ins n.assume) (orE (zi5 p seen i (n.ins++n.outs) n.ensure) (zaf (fun d:Decl=>if d.name∈r3.1.done then 0 else 8) (n.outs++n.locals)))))
def zcI(p:Prog)(seen:List (Int×Str×Int))(i:Int)(n:Nod):Int×Int:=
 if(zaK seen 1 n.name).isSome=true then(-1,7) else zuR p (seen++[(1,n.name,i)]) i n
structure zvf (n:Nod):Prop where
 w:(nodT n).w≤100000000
 nest:∀a∈n.autos,zeY 3 a
 exA:∀a∈n.autos,exA 3 a
 eqs:∀u∈n.eqs,∀x∈flat u.right,ExOk x
 assume:∀e∈n.assume,∀x∈flat e,ExOk x
 ensure:∀e∈n.ensure,∀x∈flat e,ExOk x
theorem zm5{rs:List ResultVar}{env:Env}{H H1:Heap}{n q q' c c':Int}{N:Nat}{v:SV}(h0:c'≠0)(hc:c'=c)(hq:q'=q)(hN:N≤H.length):
  ziw (RetK tab rs N (Err0 c v (zci n q c) H1 N)) (.panic (zci n q' c')) env H:=by subst hq;exact retS h0 hc hN
theorem zbk(a b:List Decl):(zac (a++b)).w≤(zac a).w+(zac b).w:=by
 have e:∀l:List Decl,(zac l).w=1+((l.map zaa).map T.w).sum:=fun l=>w_sl 3 _
 rw[e,e,e,qal,qal,qbB];omega
theorem zig(l:List (Int×Str×Int))(k:Int)(s:Str)(v:Int)(j:Int)(x:Str):zaK (l++[(k,s,v)]) j x=if(zaK l j x).isSome=true then zaK l j x else if k=j/\s=x then some v else none:=by
 unfold zaK
 rw[List.find?_append]
 cases h:l.find? (fun e=>decide (e.1=j/\e.2.1=x)) with
 | some e=>simp
 | none=>
   by_cases hk:k=j/\s=x
   ·simp[List.find?,hk]
   ·simp only[List.find?,Option.none_or,Option.map_none]
    rw[decide_eq_false hk]
    simp[hk]
theorem zch.add{p:Prog}{seen:List (Int×Str×Int)}(h:zch p seen){s:Str}{k:Nat}(hk:k<p.nodes.length):zch p (seen++[(1,s,(k:Int))]):=by
 intro x i hx
 rw[zig]at hx
 split at hx
 ·exact h x i hx
 ·split at hx
  ·cases hx;omega
  ·cases hx
theorem zch.add'{p:Prog}{seen:List (Int×Str×Int)}(h:zch p seen){s:Str}{j v:Int}(hj:j≠1):zch p (seen++[(j,s,v)]):=by
 intro x i hx
 rw[zig]at hx
 split at hx
 ·exact h x i hx
 ·split at hx
  ·rename_i hh;exact absurd hh.1 hj
  ·cases hx
set_option maxHeartbeats 2000000 in
theorem zpc (p:Prog) (hp:zgr p) (a b:Int) (seen:List (Int×Str×Int)) (hse0:zaS seen) (hsn0:zch p seen) (k:Nat) (hk:k<p.nodes.length) (n:Nod) (hnk:p.nodes[k]?=some n) (hn:zvf n):
  Sound Tryz.prog 107 [.ref 0 0,.i k] [lkB p a b,zbS seen] (Err (zcI p seen k n).2 (.tup []) (zci k (zcI p seen k n).1 (zcI p seen k n).2) [lkB p k (-1),zbS (seen++[(1,n.name,(k:Int))])]):=by
 have hml:(p.nodes.map nodT).length=p.nodes.length:=qaa _
 have hat:(p.nodes.map nodT)[k]?=some (.ag (nodC n)):=by rw[qau,hnk];rfl
 have hpl:=hp.nodes
 have hwn:=zdJ n
 have hw:=hn.w
 have hno:n.name.length≤1000000000:=by
  have:n.name.length≤(nodT n).w:=by
   rw[show nodT n= .ag (nodC n) from rfl,w_ag]
   exact zwer
  omega
 have hadd:=zhl p k (-1) seen hse0 1 k (by decide) n.name hno
 have hz:zcI p seen k n=zcI p seen k n:=rfl
 conv at hz=>rhs;unfold zcI
 generalize zcI p seen k n=z at hz⊢
 by_cases hg:(zaK seen 1 n.name).isSome=true
 ·rw[if_pos hg]at hz hadd
  subst hz
  unfold nodC at hat
  refine Sound.err rfl (fun _=>rfl) ?_
  refine so Tryz.func107 ?_
  refine TR.dead ?_
  repeat' (first|refine wu ?_|exact wkc|intro hc|refine wk2 ?_ ?_|refine we hadd ?_ ?_|fail)
  exact zm5 (by decide) rfl rfl (leB)
 rw[if_neg hg]at hz hadd
 have hgn:zaK seen 1 n.name=none:=by
  cases h:zaK seen 1 n.name with
  | none=>rfl
  | some w=>rw[h]at hg;exact absurd rfl hg
 have hse:=hse0.add (v:=(k:Int)) (by decide) hno hgn
 have hsn:=hsn0.add (s:=n.name) hk
 clear hse0 hsn0 hg hgn
 generalize hsq:seen++[(1,n.name,(k:Int))]=sq at*
 have l1:=zai zaa 3 n.ins
 have l2:=zai zaa 3 n.outs
 have l3:=zai zaa 3 n.locals
 have l4:=zai equT 7 n.eqs
 have l5:=zai zae 1 n.autos
 have d1:(zac n.ins).w=(T.sl 3 (n.ins.map zaa)).w:=rfl
 have d2:(zac n.outs).w=(T.sl 3 (n.outs.map zaa)).w:=rfl
 have d3:(zac n.locals).w=(T.sl 3 (n.locals.map zaa)).w:=rfl
 have m1:(n.ins.map zaa).length=n.ins.length:=qaa _
 have m4:(n.eqs.map equT).length=n.eqs.length:=qaa _
 have m5:(n.autos.map zae).length=n.autos.length:=qaa _
 have e4:(zac ([]:List Decl)).w=1:=by rw[w_sl];rfl
 have hvw:(zac (zaB n)).w≤100000002:=by
  have e1:=zbk n.ins (n.outs++(n.locals++[]))
  have e2:=zbk n.outs (n.locals++[])
  have e3:=zbk n.locals []
  unfold zaB;omega
 have hv:=zcP n ⟨by omega,by omega,by omega⟩ (fun d hd=>by
  have h1:=(za2 hd).2
  have h2:=zai onT 3 d.clock
  omega)
 have hde:=zfr p k (-1) sq hse (.c1 [] lv0) ⟨zaD.nil,zaD.nil,zaD.nil⟩ (zaB n) (by omega)
 simp only[Ch.vis0,Ch.top,Ch.set,Ch.id]at hde
 unfold zuR at hz
 simp only at hz
 generalize hV:zaB n=V at*
 generalize hr1:zml sq [] lv0 V=R1 at*
 unfold nodC at hat hv
 refine Sound.err rfl (fun _=>rfl) ?_
 refine so Tryz.func107 ?_
 refine TR.dead ?_
 repeat' (first|refine wkt ?_|refine we hadd ?_ ?_|(apply TO.zum (zld p k (-1) sq);(iterate 3 exact rfl);exact Les.refl _;apply TO.zkb 9 4 4;(iterate 3 exact rfl))|refine wk ?_|intro hc|refine wv hv ?_|refine wss hde ?_ ?_|fail)
 all_goals first
  | exact absurd rfl hc
  | exact zm5 hc (by rw[hz,if_pos hc]) (by rw[hz,if_pos hc]) (leB)
  | skip
 rw[if_neg (by simp[hc])]at hz
 have hR1z:=hc
 have G1:R1.1.ok/\R1.1.defs=[]:=by
  have:=zbK (f:=zbX sq []) (G:=fun(B:Nat) (a:Lv)=>a.ok/\a.defs=[]) (w:=fun _=>0) V (fun B a x hx h _=>⟨h.1.zgs (by have:=(za2 hx).1;omega),h.2⟩) 0 lv0 ⟨⟨zaD.nil,zaD.nil⟩,rfl⟩ (by rw[<-hr1]at hR1z;exact hR1z)
  rw[<-hr1];exact this
 clear hde hr1
 obtain⟨L1,R1e⟩:=R1
 simp only at hz G1 hR1z
 have hsm:=zif p k (-1) sq (.c1 [] L1) ⟨zaD.nil,G1.1⟩ n.locals (by omega)
 simp only[Ch.vis,Ch.vis0,Ch.top,Ch.id,qa1]at hsm
 repeat' (first|refine wkt ?_|refine wka ?_|refine wkD ?_|refine wk ?_|exact wkc|intro hc|refine wk2 ?_ ?_|refine wsx ?_|refine wms ?_|refine wsy ?_ ?_|refine wss hsm ?_ ?_|fail)
 all_goals first
  | exact zm5 hc (by rw[hz,if_pos hc]) (by rw[hz,if_pos hc]) (leB)
  | skip
 rw[if_neg (by simp[hc])]at hz
 clear hsm
 have hins:∀j,zaD (((n.ins.take j).map Decl.name).foldl ins []):=by
  have:∀(l:List Decl) (d:List Str),zaD d->(∀x∈l,x.name.length≤1000000000)->zaD ((l.map Decl.name).foldl ins d):=by
   exact zwcg
  exact fun j=>this _ [] zaD.nil (fun x hx=>by have:=(za2 (qaR hx)).1;omega)
 refine TR.zal n.ins.length (fun _=>True) (fun j=>[(0,.ref 0 0),(1,.i k),(4,.cp (nC n) 0),(5,.ref 4 0),(49,.t (zac n.ins)),(50,.i (n.ins.map zaa).length),(51,.i j)]) (fun j=>full p k (-1) sq (.c1 (((n.ins.take j).map Decl.name).foldl ins []) L1)) trivial (fun j hlt _=>?_) (fun _=>?_)
 ·have hx:=zcQ hlt
  have hnx:n.ins[j].name.length≤1000000000:=by have:=(za2 (qad hlt)).1;omega
  have hdn:=hins j
  have g2:((n.ins.take (j+1)).map Decl.name).foldl ins []=ins (((n.ins.take j).map Decl.name).foldl ins []) n.ins[j].name:=by
   rw[qaA hlt,qal,qbm];rfl
  generalize ((n.ins.take j).map Decl.name).foldl ins []=dn at*
  generalize n.ins[j]=x at*
  exact zwu
 have hinp:=hins n.ins.length
 rw[qah]at hinp
 rw[qah]
 generalize (n.ins.map Decl.name).foldl ins []=inp at*
 clear hins
 refine wk ?_
 repeat' (first|refine wu ?_|exact wkc|intro hc|refine wk2 ?_ ?_|fail)
 have G2:Good L1.own 0 L1:=⟨G1.1,rfl,by rw[G1.2];exact qag _,by rw[G1.2];simp⟩
 have ek1:=fun j=>zbH (fun u=>(equT u).w) n.eqs j
 have ek2:=fun j=>zbH (fun u=>(zae u).w) n.autos j
 have es1:=ztg equT 7 n.eqs
 have es2:=ztg zae 1 n.autos
 have ge:=fun j hz=>zeF (f:=equS p sq k [] inp) (G:=Good L1.own) (w:=fun u=>(equT u).w) n.eqs (fun B a x hx h hz=>zjN (by have:=zav (f:=equT) (sz:=7) hx;omega) h hz) 0 L1 G2 (k:=j) hz
 refine TR.zal n.eqs.length (fun j=>(zam (equS p sq k [] inp) L1 (n.eqs.take j)).2=0) (fun j=>[(0,.ref 0 0),(1,.i k),(4,.cp (nC n) 0),(5,.ref 4 0),(63,.t (.sl 7 (n.eqs.map equT))),(64,.i (n.eqs.map equT).length),(65,.i j)]) (fun j=>full p k ((j:Int)-1) sq (.c1 inp (zam (equS p sq k [] inp) L1 (n.eqs.take j)).1)) rfl (fun j hlt ha=>?_) (fun ha=>?_)
 ·have hx:=ziZ hlt
  have g1:=zcp (f:=equS p sq k [] inp) hlt ha
  have g2:=zbe (f:=equS p sq k [] inp) hlt ha
  have g3:=znZ (f:=equS p sq k [] inp) hlt ha
  have hwu:(equT n.eqs[j]).w≤1000000000:=by have:=zav (f:=equT) (sz:=7) (qad hlt);omega
  have gk:=ge j ha
  have gk2:=ek1 j
  have hxk:=hn.eqs _ (qad hlt)
  have hlw:=zda (q:=n.eqs[j])
  generalize (zam (equS p sq k [] inp) L1 (n.eqs.take j)).1=st at*
  generalize n.eqs[j]=x at*
  have hs:=zk0 p hp k j sq hse hsn k (.c1 inp st) (by simp[Ch.N]) ⟨hinp,gk.ok⟩ x hwu (by have:=gk.len;simp only[Ch.top];omega) hxk
  simp only[Ch.vis0,Ch.low,Ch.top,Ch.set,Ch.id]at hs
  generalize equS p sq k [] inp st x=fx at*
  unfold equC at hx hs
  clear ge
  repeat' (first|refine wkt ?_|refine wka ?_|refine wk ?_|exact wkc|intro hc|refine wk2 ?_ ?_|refine wss hs ?_ ?_|fail)
  ·refine zab.zat hlt (by rw[g2];exact hc) ?_ (by rw[g2,show((j+1:Nat):Int)-1=j from by omega])
   repeat' (first|exact trivial|refine qaf rfl ?_|fail)
  ·rw[if_pos (by rw[g1 hc];exact hc),g1 hc,g3 hc]at hz
   (repeat' (first|refine zab.panic ?_|refine wk ?_|fail))
   exact zm5 hc (by rw[hz]) (by rw[hz]) (leB)
 have ge1:=ge n.eqs.length ha
 rw[qah]at ha ge1
 rw[qah]
 rw[if_neg (by simp[ha])]at hz
 generalize (zam (equS p sq k [] inp) L1 n.eqs).1=L2 at*
 clear ge
 refine wk ?_
 repeat' (first|refine wu ?_|exact wkc|intro hc|refine wk2 ?_ ?_|fail)
 have hau:=fun b (hb:b∈n.autos) (t:Lv) (ht:t.ok) (hd:t.defs.length≤1000000000)=>auc p hp k (-1) sq hse hsn k 3 (.c1 inp t) rfl ⟨hinp,ht⟩ hd b (by have:=zav (f:=zae) (sz:=1) hb;omega) (hn.nest b hb) (hn.exA b hb)
 have ga:=fun j hz=>zeF (f:=zb4 p sq k 3 [] inp) (G:=Good L1.own) (w:=fun b=>(zae b).w) n.autos (fun B a x hx h hz=>zhp 3 (by have:=zav (f:=zae) (sz:=1) hx;omega) h hz) _ L2 ge1 (k:=j) hz
 refine TR.zal n.autos.length (fun j=>(zam (zb4 p sq k 3 [] inp) L2 (n.autos.take j)).2=0) (fun j=>[(0,.ref 0 0),(1,.i k),(4,.cp (nC n) 0),(5,.ref 4 0),(86,.t (.sl 1 (n.autos.map zae))),(87,.i (n.autos.map zae).length),(88,.i j)]) (fun j=>full p k (-1) sq (.c1 inp (zam (zb4 p sq k 3 [] inp) L2 (n.autos.take j)).1)) rfl (fun j hlt ha=>?_) (fun ha=>?_)
 ·have hx:=zhn hlt
  have g1:=zcp (f:=zb4 p sq k 3 [] inp) hlt ha
  have g2:=zbe (f:=zb4 p sq k 3 [] inp) hlt ha
  have gk:=ga j ha
  have gk2:=ek2 j
  have gk3:=ek1 n.eqs.length
  generalize (zam (zb4 p sq k 3 [] inp) L2 (n.autos.take j)).1=st at*
  have hs:=hau _ (qad hlt) st gk.ok (by have:=gk.len;omega)
  simp only[Ch.vis0,Ch.low,Ch.top,Ch.set,Ch.id]at hs
  generalize n.autos[j]=x at*
  generalize zb4 p sq k 3 [] inp st x=fx at*
  unfold zdj at hx hs
  clear hau ga
  repeat' (first|refine wkt ?_|refine wka ?_|refine wkD ?_|refine wk ?_|exact wkc|intro hc|refine wk2 ?_ ?_|refine wsx ?_|refine wms ?_|refine wsy ?_ ?_|refine wss hs ?_ ?_|fail)
  ·refine zab.zat hlt (by rw[g2];exact hc) ?_ (by rw[g2])
   repeat' (first|exact trivial|refine qaf rfl ?_|fail)
  ·rw[g1 hc]at hz
   (repeat' (first|refine zab.panic ?_|refine wk ?_|fail))
   exact zm5 hc (by rw[hz];try simp[orE,hc]) (by rw[hz]) (leB)
 have ga1:=ga n.autos.length ha
 rw[qah]at ha ga1
 rw[qah]
 rw[ha]at hz
 generalize (zam (zb4 p sq k 3 [] inp) L2 n.autos).1=L3 at*
 clear ga hau
 refine wk ?_
 repeat' (first|refine wu ?_|exact wkc|intro hc|refine wk2 ?_ ?_|fail)
 have hca:=zgy p hp k (-1) sq hse hsn k n.assume [n.ins] (by simp) (by simp only[qa9,qcc,qaQ];show(zac n.ins).w≤_;omega) (by omega) hn.assume
 have hce:=zgy p hp k (-1) sq hse hsn k n.ensure [n.ins,n.outs] (by simp) (by
  have:=zbk n.ins n.outs
  simp only[qa9,qcc,qaQ];show(zac (n.ins++n.outs)).w≤_;omega) (by omega) hn.ensure
 simp only[qa9,qcc,qaQ,qaj,qay]at hca hce
 have hmV:(V.map zaa).length=V.length:=qaa _
 have hVl:n.ins.length≤V.length:=by rw[<-hV];simp[zaB]
 have hdr:(V.map zaa).drop (n.ins.map zaa).length=(n.outs++n.locals).map zaa:=by
  rw[<-hV,m1,<-List.map_drop];simp[zaB]
 repeat' (first|refine wkt ?_|refine TR.zm3 (envF:=_) (g:=True) [(.t (.ag (nC n)),false),(.t (zac V),true),(.cp (nC n) 1,false),(.t (zac n.ins),false),(.i (n.ins.map zaa).length,false),(.t (.sl 3 ((V.map zaa).drop (n.ins.map zaa).length)),false),(.i ((V.map zaa).drop (n.ins.map zaa).length).length,false),(.i 0,false)] hmix (by dsimp only[List.map];decide +kernel) ?_ rfl (by decide) ?_|refine wk ?_|exact wkc|intro hc|refine wk2 ?_ ?_|refine we hca ?_ ?_|refine we hce ?_ ?_|refine wv hv ?_|refine zqu ?_|exact qaf (qaf rfl rfl) trivial|exact trivial|refine qaf (fun env=>?_) ?_|fail)
 all_goals first
  | exact zm5 hc (by rw[hz];simp only[orE];clear hca hce hv;grind) (by rw[hz]) (leB)
  | skip
 clear hca hce hv
 rw[hdr]
 have hml2:((n.outs++n.locals).map zaa).length=(n.outs++n.locals).length:=qaa _
 have hol:(n.outs++n.locals).length≤1000000000:=by simp;omega
 have hon:∀x∈n.outs++n.locals,x.name.length≤1000000000:=fun x hx=>by
  rcases qaF.1 hx with hx|hx
  ·have:=(za2 hx).1;omega
  ·have:=(za2 hx).1;omega
 generalize n.outs++n.locals=OL at*
 refine TR.zal OL.length (fun j=>zaf (fun d:Decl=>if d.name∈L3.done then 0 else 8) (OL.take j)=0) (fun j=>[(0,.ref 0 0),(1,.i k),(4,.cp (nC n) 0),(5,.ref 4 0),(121,.t (zac OL)),(122,.i (OL.map zaa).length),(123,.i j)]) (fun _=>full p k (-1) sq (.c1 inp L3)) rfl (fun j hlt ha=>?_) (fun ha=>?_)
 ·have hx:=zcQ hlt
  have hnx:=hon _ (qad hlt)
  have g1:=zaF (f:=fun d:Decl=>if d.name∈L3.done then 0 else 8) hlt ha
  have g2:=zaq (f:=fun d:Decl=>if d.name∈L3.done then 0 else 8) hlt ha
  have hdn:=ga1.ok.done
  generalize OL[j]=x at*
  unfold zeR at hx
  repeat' (first|refine wkt ?_|refine wka ?_|refine wkD ?_|refine wk ?_|exact wkc|intro hc|refine wk2 ?_ ?_|refine wsx ?_|refine wms ?_|refine wsy ?_ ?_|fail)
  ·exact zab.zat hlt (g2 (by rw[if_pos hc]))
  ·(repeat' (first|refine zab.panic ?_|refine wk ?_|fail))
   exact zm5 (by decide) (by rw[hz];simp only[orE];grind) (by rw[hz]) (leB)
 have el:=zaH ha
 repeat' (first|refine wu ?_|exact wkc|intro hc|refine wk2 ?_ ?_|fail)
 refine RetK.errN (vs:=[]) ?_ rfl (Le.refl _) rfl rfl rfl rfl rfl
 rw[hz];simp only[orE];grind
theorem zk2:∀(m:Nat) (e:Ex),wEx e≤m->∀x∈flat e,x.name.length≤(exT e).w
 | 0,e,h=>by have:=zcn e;omega
 | m+1,e,h=>by
   intro x hx
   have he:(exT e).w=(T.ag (exC e)).w:=by rw[zay]
   have h1:e.name.length+(T.sl 6 (e.args.map exT)).w≤(exT e).w:=by
    exact zwdw
   rw[zcD]at hx
   rcases qbe.1 hx with rfl|hx
   ·omega
   ·unfold flats at hx
    obtain⟨l,hl,hxl⟩:=qcd.1 hx
    obtain⟨y,hy,rfl⟩:=qa4.1 hl
    have:=zk2 m y (by have:=zbP hy;omega) x hxl
    have:=zav (f:=exT) (sz:=6) hy
    omega
theorem zf5{es:List En}{e:Ex}(h:zbY es e=0)(hw:(exT e).w≤1000000000):∀x∈flat e,ExOk x:=fun x hx=>
 ⟨(ziX h x hx).v,qaE (zk2 _ e (qag _) x hx) hw⟩
theorem zaz{a b:Int}(h:orE a b=0):a=0/\b=0:=by
 exact zwen
theorem zjM{es:List En}{u:Equ}(h:equE es u=0):zbY es u.right=0:=by
 unfold equE at h
 exact(zaz (zaz (zaz (zaz h).2).2).2).1
theorem zhg{es:List En}{n:Int}{s:Bool}{t:Tran}(h:zfd es n s t=0):zbY es t.cond=0:=by
 unfold zfd at h
 exact(zaz (zaz h).2).1
theorem zg5(u:Equ):(exT u.right).w≤(equT u).w:=by
 rw[zay,w_ag,show equT u= .ag (.sl 1 (u.left.map T.s)::exC u.right) from rfl,w_ag,qaj,qao];omega
theorem zfW(t:Tran):(exT t.cond).w≤(zah t).w:=by
 rw[zay,w_ag,show zah t= .ag (zgY t) from rfl,w_ag]
 simp only[exC,zgY,qaj,qay,qao,qaI];omega
theorem zl5{es:List En}:∀(k:Nat) (a:Auto),(zae a).w≤1000000000->zcu es k a=0->zeY k a/\exA k a
 | 0,a,hw,h=>by simp[zcu]at h
 | k+1,a,hw,h=>by
   unfold zcu at h
   have hst:=zaj (zaz (zaz h).2).2
   have hwa:=zbJ a
   have key:∀s∈a.states,(∀b∈s.autos,zeY k b/\exA k b)/\(∀u∈s.eqs,∀x∈flat u.right,ExOk x)/\(∀t∈s.unl,∀x∈flat t.cond,ExOk x)/\(∀t∈s.unt,∀x∈flat t.cond,ExOk x):=by
    intro s hs
    have h1:=hst s hs
    have hws:=zav (f:=staT) (sz:=6) hs
    have hw2:=zdK s
    unfold stE at h1
    have h3:=(zaz (zaz (zaz h1).2).2).2
    have he:=zaj (zaz h3).1
    have h4:=(zaz h3).2
    have ha:=zaj (zaz h4).1
    have h5:=(zaz h4).2
    have hu:=zaj (zaz h5).1
    have hv:=zaj (zaz h5).2
    refine⟨fun b hb=>zl5 k b (by have:=zav (f:=zae) (sz:=1) hb;omega) (ha b hb),fun u hu'=>zf5 (zjM (he u hu')) (by have:=zg5 u;have:=zav (f:=equT) (sz:=7) hu';omega),fun t ht=>zf5 (zhg (hu t ht)) (by have:=zfW t;have:=zav (f:=zah) (sz:=8) ht;omega),fun t ht=>zf5 (zhg (hv t ht)) (by have:=zfW t;have:=zav (f:=zah) (sz:=8) ht;omega)⟩
   exact zwco
theorem zuS{es:List En}{n:Nod}(h:(zcf es n).2=0)(hw:(nodT n).w≤100000000):zvf n:=by
 have hwn:=zdJ n
 unfold zcf at h
 have h1:zmF es n=0:=qav fun hh=>by rw[if_pos hh]at h;exact hh h
 rw[if_neg (by simp[h1])]at h
 have h2:zaf (equE es) n.eqs=0:=qav fun hh=>by rw[if_pos hh,zcj]at h;exact hh h
 rw[if_neg (by simp[h2])]at h
 simp only at h
 unfold zpq at h
 have ha:=zaj (zaz h).1
 have hs:=zaj (zaz (zaz h).2).1
 have he:=zaj (zaz (zaz h).2).2
 have hq:=zaj h2
 refine⟨hw,fun a h=>(zl5 3 a (by have:=zav (f:=zae) (sz:=1) h;omega) (ha a h)).1,fun a h=>(zl5 3 a (by have:=zav (f:=zae) (sz:=1) h;omega) (ha a h)).2,fun u hu=>zf5 (zjM (hq u hu)) (by have:=zg5 u;have:=zav (f:=equT) (sz:=7) hu;omega),fun e h=>zf5 (hs e h) (by have:=zav (f:=exT) (sz:=6) h;omega),fun e h=>zf5 (he e h) (by have:=zav (f:=exT) (sz:=6) h;omega)⟩
theorem zih{p:Prog}(h:(zba p).2=0):∀n∈p.nodes,(zcf p.enums n).2=0:=by
 unfold zba at h
 have h1:limE p=0:=qav fun hh=>by rw[if_pos hh]at h;exact hh h
 rw[if_neg (by simp[h1])]at h
 have h2:zaf zft p.enums=0:=qav fun hh=>by rw[if_pos hh]at h;exact hh h
 rw[if_neg (by simp[h2])]at h
 have h3:zaf (fun n=>(zcf p.enums n).2) p.nodes=0:=qav fun hh=>by rw[if_neg hh]at h;exact hh h
 exact zaj h3
def addF(seen:List (Int×Str×Int))(e:Int×Str×Int):List (Int×Str×Int)×Int:=(seen++[e],if(zaK seen e.1 e.2.1).isSome=true then 7 else 0)
def zfV(u:En)(i:Int):List (Int×Str×Int):=u.tags.map fun s=>(0,s,i)
def enF(seen:List (Int×Str×Int))(x:En×Nat):List (Int×Str×Int)×Int:=zam addF seen ((2,x.1.name,(x.2:Int))::zfV x.1 x.2)
def nodF(p:Prog)(seen:List (Int×Str×Int))(x:Nod×Nat):List (Int×Str×Int)×Int:=(seen++[(1,x.1.name,(x.2:Int))],(zcI p seen x.2 x.1).2)
def zlz(p:Prog):List (Int×Str×Int)->List (Nod×Nat)->Int×Int
 | _,[]=>(0,0)
 | st,x::l=>if(nodF p st x).2=0 then zlz p (nodF p st x).1 l else((x.2:Int),(zcI p st x.2 x.1).1)
theorem zlA(p:Prog):∀ {l:List (Nod×Nat)} {a:List (Int×Str×Int)} {k:Nat} (hk:k<l.length),(zam (nodF p) a (l.take k)).2=0->(nodF p (zam (nodF p) a (l.take k)).1 l[k]).2≠0->zlz p a l=((l[k].2:Int),(zcI p (zam (nodF p) a (l.take k)).1 l[k].2 l[k].1).1)
 | x::l,a,0,hk,h,hn=>by
   simp only[qbu,zam,qb5]at hn⊢
   rw[zlz,if_neg hn]
 | x::l,a,k+1,hk,h,hn=>by
   rw[qaM,zam]at h
   by_cases h0:(nodF p a x).2=0
   ·rw[if_pos h0]at h
    have hn':(nodF p (zam (nodF p) (nodF p a x).1 (l.take k)).1 (l[k]'(by simpa using hk))).2≠0:=by
     rw[qaM,zam,if_pos h0]at hn
     simpa using hn
    rw[zlz,if_pos h0,zlA p (by simpa using hk) h hn',qaM,zam,if_pos h0]
    simp
   ·rw[if_neg h0]at h;exact absurd h h0
def zb3(p:Prog):(Int×Int)×Int:=
 if(zba p).2≠0 then zba p else
 if(zam enF [] p.enums.zipIdx).2≠0 then((-1,-1),(zam enF [] p.enums.zipIdx).2) else
 if(zam (nodF p) (zam enF [] p.enums.zipIdx).1 p.nodes.zipIdx).2=0 then((0,0),0) else(zlz p (zam enF [] p.enums.zipIdx).1 p.nodes.zipIdx,(zam (nodF p) (zam enF [] p.enums.zipIdx).1 p.nodes.zipIdx).2)
end Go.Proofs.YtpnnpgbaiobbjaaGreatDoor
