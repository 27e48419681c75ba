import Derived.Test.YthmbhfgflijapaaGreatDoorPk18
set_option linter.all false
namespace Go.Proofs.YthmbhfgflijapaaGreatDoor
open Go Go.TL
attribute [local irreducible] TR TO Then zag RetK Sound zab Kf GG zaK
section
variable {n:Nat}{env:Env}{K:TK}{all:Array Oper}{rest:List Oper}{d:Nat}{ty:TypeId}{pos:String}{aft:Array Edge}{H:Heap}{args:Array Operand}{ts:Array TypeId}
theorem TO.ztL{ls:List (List Decl)}(hl:ls.length≤1000000)(hn:ls.flatten.length≤3000000000)(hd:Nat.ble (d+1) n=true)(ha:env.vals args.toList=some [.t (.sl 1 (ls.map dls))])
  (k:TO false Tryz.prog n all rest ((d,.t (dls ls.flatten))::env) (H++[.dead]) K):
  TO false Tryz.prog n all (⟨some d,.call { callee:=.value (.func 100),args:=args,argTypes:=ts },ty,pos,aft,none⟩::rest) env H K:=by
 by_cases h0:ls.flatten=[]
 ·refine TO.zhh (zfk ls hl h0) hd rfl ha (Les.refl _) rfl rfl ?_
  refine TO.less d (v':=.t (dls [])) (by rw[Env.zat]) (Le.nil 3) ?_
  refine TO.shadow (TO.ztw ?_)
  rw[h0]at k;exact k
 ·have h1:1≤ls.flatten.length:=by
   cases hv:ls.flatten with
   | nil=>exact absurd hv h0
   | cons a l=>simp
  have hc:=zgn ls hl hn h1
  generalize ls.flatten=L at*
  have hcl:(za9 L).length=L.length*3:=zdA L
  refine TO.zph (tl:=za9 L) hc hd rfl ha (Les.refl _) rfl ?_
  refine TO.zpC d 3 H.length L.length (cs:=(za9 L).map .t) (es:=L.map zav) (by rw[Env.zat]) (by simp) (by simp[hcl]) (fun j c hj=>hj) (by simp) (fun e he=>by obtain⟨x,_,rfl⟩:=qaP.1 he;rfl) rfl rfl ?_
  refine TO.shadow ?_
  rw[show(H++[Blk.cells ((za9 L).map SV.t)]).set H.length .dead=H++[.dead] from by rw[qca _ _ (qae _),qcd];rfl]
  exact k
end
def seeL(L:List Decl):Lv:=⟨(L.map Decl.name).foldl ins [],[],[]⟩
def zkk(p:Prog)(seen:List (Int×Str×Int))(node:Int)(L:List Decl)(l:List Ex):Int:=zac (zd8 p seen node (seeL L).own 1) l
theorem zgl(p:Prog)(hp:zgg p)(n q:Int)(seen:List (Int×Str×Int))(hse:zaW seen)(hsn:zcl p seen)(node:Int)(l:List Ex)(ls:List (List Decl))(hl:ls.length≤1000000)(hwl:(dls ls.flatten).w≤1000000000)(hw:(T.sl 6 (l.map exT)).w≤1000000000)(hex:∀e∈l,∀x∈flat e,ExOk x):
  Sound Tryz.prog 72 [.ref 0 0,.i node,.t (.sl 6 (l.map exT)),.t (.sl 1 (ls.map dls))] [lkB p n q,zb2 seen] (Err (zkk p seen node ls.flatten l) (.tup []) (zcp n q (zkk p seen node ls.flatten l)) [lkB p n q,zb2 seen]):=by
 have hfl:ls.flatten.length≤1000000000:=by have:=zaB zav 3 ls.flatten;have:(dls ls.flatten).w=(T.sl 3 (ls.flatten.map zav)).w:=rfl;omega
 have hex2:l.length≤1000000000:=by have:=zaB exT 6 l;omega
 have hm1:(ls.flatten.map zav).length=ls.flatten.length:=qab _
 have hm2:(l.map exT).length=l.length:=qab _
 unfold zkk
 refine Sound.err rfl (fun _=>rfl) ?_
 refine so Tryz.func72 ?_
 refine TR.dead ?_
 repeat' (first|refine wu ?_|(apply TO.ztH (zkF p n q seen);(iterate 3 exact rfl);exact Les.refl _)|(apply TO.ztL hl (by omega);exact rfl;exact rfl)|fail)
 generalize ls.flatten=L at*
 have hnm:∀x∈L,x.name.length≤1000000000:=fun x hx=>by have:=(zbn hx).1;have:(dls L).w=(zap L).w:=rfl;omega
 have hins:∀k,zbd (((L.take k).map Decl.name).foldl ins []):=by
  have:∀(l:List Decl) (d:List Str),zbd d->(∀x∈l,x.name.length≤1000000000)->zbd ((l.map Decl.name).foldl ins d):=by
   exact zwcl
  exact fun k=>this _ [] zbd.nil (fun x hx=>hnm x (qaN hx))
 refine TR.zaA L.length (fun _=>True) (fun k=>[(0,.ref 0 0),(1,.i node),(2,.t (.sl 6 (l.map exT))),(8,.ref 4 0),(15,.t (dls L)),(16,.i (L.map zav).length),(17,.i k)]) (fun k=>full p n q seen (.one (seeL (L.take k)))++[.dead]) trivial (fun k hlt _=>?_) (fun _=>?_)
 ·have hx:=zdK hlt
  have hno:=hnm _ (qaf hlt)
  have hdn:=hins k
  have g2:seeL (L.take (k+1))=⟨ins ((L.take k).map Decl.name |>.foldl ins []) L[k].name,[],[]⟩:=by
   unfold seeL;rw[qax hlt,qaH,qbA];rfl
  have g1:seeL (L.take k)=⟨((L.take k).map Decl.name).foldl ins [],[],[]⟩:=rfl
  rw[g1]
  generalize ((L.take k).map Decl.name).foldl ins []=dn at*
  generalize L[k]=x at*
  exact zwv
 have hk:(Ch.one (seeL L)).ok:=by
  have:=hins L.length
  rw[qap]at this
  exact⟨this,zbd.nil⟩
 rw[qap]
 have hvis:Ch.vis (.one (seeL L))=(seeL L).own:=rfl
 generalize seeL L=A at*
 refine wk ?_
 repeat' (first|refine wu ?_|exact wkc|intro hc|refine wk2 ?_ ?_|fail)
 refine TR.zaA l.length (fun k=>zac (zd8 p seen node A.own 1) (l.take k)=0) (fun k=>[(0,.ref 0 0),(1,.i node),(8,.ref 4 0),(28,.t (.sl 6 (l.map exT))),(29,.i (l.map exT).length),(30,.i k)]) (fun k=>full p n q seen (.one A)++[.dead]) rfl (fun k hlt ha=>?_) (fun ha=>?_)
 ·have hx:=zd3 hlt
  have g1:=zaJ (f:=zd8 p seen node A.own 1) hlt ha
  have g2:=zaz (f:=zd8 p seen node A.own 1) hlt ha
  have hwx:wEx l[k]≤1000000000:=by have:=zh8 l[k];have:=zaN (f:=exT) (sz:=6) (qaf hlt);omega
  have hs:=zei p hp n q seen hse hsn node 1 (.one A) hk l[k] hwx (hex _ (qaf hlt))
  rw[hvis]at hs
  generalize l[k]=x at*
  generalize zd8 p seen node A.own 1 x=z at*
  unfold exC at hx hs
  repeat' (first|refine wkt ?_|refine wka ?_|refine wkD ?_|refine wk ?_|exact wkc|intro hc|refine wk2 ?_ ?_|refine wsx ?_|refine wms ?_|refine wsy ?_ ?_|refine wss hs ?_ ?_|fail)
  ·exact zab.zaI hlt (g2 hc)
  ·((repeat' (first|refine zab.panic ?_|refine wk ?_|fail));apply retS;(first|assumption|decide);(clear hx hs;first|grind|grind [orE]);(first|exact leB|exact Nat.le_refl _|(simp[Ch.len];done)|(simp[Ch.len];omega)))
 ·have e1:=zaF ha
  refine wk ?_
  repeat' (first|refine wu ?_|exact wkc|intro hc|refine wk2 ?_ ?_|fail)
  exact zk7 e1 rfl rfl rfl rfl
theorem zg5(p:Prog)(n q:Int)(seen:List (Int×Str×Int))(hse:zaW seen)(k v:Int)(hkk:0≤k/\k≤2)(nm:Str)(hno:nm.length≤1000000000):
  Sound Tryz.prog 36 [.ref 0 0,.t (.ag [.i k,.s nm]),.i v] [lkB p n q,zb2 seen] (Err (if(zaD seen k nm).isSome=true then 7 else 0) (.tup []) (zcp n q (if(zaD seen k nm).isSome=true then 7 else 0)) [lkB p n q,zb2 (seen++[(k,nm,v)])]):=by
 cases hg:zaD seen k nm with
 | none=>
   refine Sound.err rfl (fun _=>rfl) ?_
   refine so Tryz.func36 ?_
   refine TR.dead ?_
   repeat' (first|refine wkt ?_|refine wka ?_|refine wkD ?_|refine wk ?_|exact wkc|intro hc|refine wk2 ?_ ?_|refine wsx ?_|refine wms ?_|refine wsy ?_ ?_|(apply TO.zta;(iterate 4 exact rfl);assumption;assumption;assumption;assumption)|(apply TO.zuv;(iterate 4 exact rfl);assumption;assumption;assumption;assumption;exact rfl)|fail)
   exact zk7 rfl rfl rfl rfl rfl
 | some w=>
   refine Sound.err rfl (fun _=>rfl) ?_
   refine so Tryz.func36 ?_
   refine TR.dead ?_
   repeat' (first|refine wkt ?_|refine wka ?_|refine wkD ?_|refine wk ?_|exact wkc|intro hc|refine wk2 ?_ ?_|refine wsx ?_|refine wms ?_|refine wsy ?_ ?_|(apply TO.zuw;(iterate 4 exact rfl);assumption;assumption;assumption;assumption)|fail)
   (apply retB;decide;rfl;exact rfl)
def zpA{α β:Type}(f:β->α->β×Int):β->List α->Int
 | _,[]=>0
 | a,x::l=>if(f a x).2=0 then zpA f (f a x).1 l+1 else 0
theorem zm9{α β:Type}{f:β->α->β×Int}:∀ {l:List α} {a:β} {k:Nat} (hk:k<l.length),(zai f a (l.take k)).2=0->(f (zai f a (l.take k)).1 l[k]).2≠0->zpA f a l=k
 | x::l,a,0,hk,h,hn=>by
   simp only[qbl,zai,qcC]at hn
   rw[zpA,if_neg hn];rfl
 | x::l,a,k+1,hk,h,hn=>by
   rw[qaL,zai]at h
   by_cases h0:(f a x).2=0
   ·rw[if_pos h0]at h
    have hn':(f (zai f (f a x).1 (l.take k)).1 (l[k]'(by simpa using hk))).2≠0:=by
     rw[qaL,zai,if_pos h0]at hn
     simpa using hn
    rw[zpA,if_pos h0,zm9 (by simpa using hk) h hn']
    omega
   ·rw[if_neg h0]at h;exact absurd h h0
def zuf(p:Prog)(seen:List (Int×Str×Int))(i:Int)(n:Nod):Int×Int:=
 let inp:=(n.ins.map Decl.name).foldl ins []
 let r1:=zfS seen [] lv0 (zc5 n)
 let r2:=zai (equS p seen i [] inp) r1.1 n.eqs
 let r3:=zai (zcU p seen i 3 [] inp) r2.1 n.autos
 if r1.2≠0 then(-1,r1.2) else if ziW r1.1.own n.locals≠0 then(-1,ziW r1.1.own n.locals) else if r2.2≠0 then(zpA (equS p seen i [] inp) r1.1 n.eqs,r2.2) else
 (-1,orE r3.2 (orE (zkk p seen i n.ins n.assume) (orE (zkk p seen i (n.ins++n.outs) n.ensure) (zac (fun d:Decl=>if d.name∈r3.1.done then 0 else 8) (n.outs++n.locals)))))
def zcZ(p:Prog)(seen:List (Int×Str×Int))(i:Int)(n:Nod):Int×Int:=
 if(zaD seen 1 n.name).isSome=true then(-1,7) else zuf p (seen++[(1,n.name,i)]) i n
structure zuO (n:Nod):Prop where
 w:(nodT n).w≤100000000
 nest:∀a∈n.autos,zkQ 3 a
 exA:∀a∈n.autos,exA 3 a
 eqs:∀u∈n.eqs,∀x∈flat u.right,ExOk x
 assume:∀e∈n.assume,∀x∈flat e,ExOk x
 ensure:∀e∈n.ensure,∀x∈flat e,ExOk x
theorem zmp{rs:List ResultVar}{env:Env}{H H1:Heap}{n q q' c c':Int}{N:Nat}{v:SV}(h0:c'≠0)(hc:c'=c)(hq:q'=q)(hN:N≤H.length):
  zic (RetK tab rs N (Err0 c v (zcp n q c) H1 N)) (.panic (zcp n q' c')) env H:=by subst hq;exact retS h0 hc hN
theorem zcD(a b:List Decl):(zap (a++b)).w≤(zap a).w+(zap b).w:=by
 have e:∀l:List Decl,(zap l).w=1+((l.map zav).map T.w).sum:=fun l=>w_sl 3 _
 rw[e,e,e,qaH,qaH,qck];omega
theorem zhR(l:List (Int×Str×Int))(k:Int)(s:Str)(v:Int)(j:Int)(x:Str):zaD (l++[(k,s,v)]) j x=if(zaD l j x).isSome=true then zaD l j x else if k=j/\s=x then some v else none:=by
 unfold zaD
 rw[List.find?_append]
 cases h:l.find? (fun e=>decide (e.1=j/\e.2.1=x)) with
 | some e=>simp
 | none=>
   by_cases hk:k=j/\s=x
   ·simp[List.find?,hk]
   ·simp only[List.find?,Option.none_or,Option.map_none]
    rw[decide_eq_false hk]
    simp[hk]
theorem zcl.add{p:Prog}{seen:List (Int×Str×Int)}(h:zcl p seen){s:Str}{k:Nat}(hk:k<p.nodes.length):zcl p (seen++[(1,s,(k:Int))]):=by
 intro x i hx
 rw[zhR]at hx
 split at hx
 ·exact h x i hx
 ·split at hx
  ·cases hx;omega
  ·cases hx
theorem zcl.add'{p:Prog}{seen:List (Int×Str×Int)}(h:zcl p seen){s:Str}{j v:Int}(hj:j≠1):zcl p (seen++[(j,s,v)]):=by
 intro x i hx
 rw[zhR]at hx
 split at hx
 ·exact h x i hx
 ·split at hx
  ·rename_i hh;exact absurd hh.1 hj
  ·cases hx
set_option maxHeartbeats 2000000 in
theorem zop (p:Prog) (hp:zgg p) (a b:Int) (seen:List (Int×Str×Int)) (hse0:zaW seen) (hsn0:zcl p seen) (k:Nat) (hk:k<p.nodes.length) (n:Nod) (hnk:p.nodes[k]?=some n) (hn:zuO n):
  Sound Tryz.prog 37 [.ref 0 0,.i k] [lkB p a b,zb2 seen] (Err (zcZ p seen k n).2 (.tup []) (zcp k (zcZ p seen k n).1 (zcZ p seen k n).2) [lkB p k (-1),zb2 (seen++[(1,n.name,(k:Int))])]):=by
 have hml:(p.nodes.map nodT).length=p.nodes.length:=qab _
 have hat:(p.nodes.map nodT)[k]?=some (.ag (nodC n)):=by rw[qar,hnk];rfl
 have hpl:=hp.nodes
 have hwn:=zlu n
 have hw:=hn.w
 have hno:n.name.length≤1000000000:=by
  have:n.name.length≤(nodT n).w:=by
   rw[show nodT n= .ag (nodC n) from rfl,w_ag]
   exact zwen
  omega
 have hadd:=zg5 p k (-1) seen hse0 1 k (by decide) n.name hno
 have hz:zcZ p seen k n=zcZ p seen k n:=rfl
 conv at hz=>rhs;unfold zcZ
 generalize zcZ p seen k n=z at hz⊢
 by_cases hg:(zaD seen 1 n.name).isSome=true
 ·rw[if_pos hg]at hz hadd
  subst hz
  unfold nodC at hat
  refine Sound.err rfl (fun _=>rfl) ?_
  refine so Tryz.func37 ?_
  refine TR.dead ?_
  repeat' (first|refine wu ?_|exact wkc|intro hc|refine wk2 ?_ ?_|refine we hadd ?_ ?_|fail)
  exact zmp (by decide) rfl rfl (leB)
 rw[if_neg hg]at hz hadd
 have hgn:zaD seen 1 n.name=none:=by
  cases h:zaD seen 1 n.name with
  | none=>rfl
  | some w=>rw[h]at hg;exact absurd rfl hg
 have hse:=hse0.add (v:=(k:Int)) (by decide) hno hgn
 have hsn:=hsn0.add (s:=n.name) hk
 clear hse0 hsn0 hg hgn
 generalize hsq:seen++[(1,n.name,(k:Int))]=sq at*
 have l1:=zaB zav 3 n.ins
 have l2:=zaB zav 3 n.outs
 have l3:=zaB zav 3 n.locals
 have l4:=zaB equT 7 n.eqs
 have l5:=zaB zar 1 n.autos
 have d1:(zap n.ins).w=(T.sl 3 (n.ins.map zav)).w:=rfl
 have d2:(zap n.outs).w=(T.sl 3 (n.outs.map zav)).w:=rfl
 have d3:(zap n.locals).w=(T.sl 3 (n.locals.map zav)).w:=rfl
 have m1:(n.ins.map zav).length=n.ins.length:=qab _
 have m4:(n.eqs.map equT).length=n.eqs.length:=qab _
 have m5:(n.autos.map zar).length=n.autos.length:=qab _
 have e4:(zap ([]:List Decl)).w=1:=by rw[w_sl];rfl
 have hvw:(zap (zc5 n)).w≤100000002:=by
  have e1:=zcD n.ins (n.outs++(n.locals++[]))
  have e2:=zcD n.outs (n.locals++[])
  have e3:=zcD n.locals []
  unfold zc5;omega
 have hv:=zoP n ⟨by omega,by omega,by omega⟩ (fun d hd=>by
  have h1:=(zbn hd).2
  have h2:=zaB onT 3 d.clock
  omega)
 have hde:=zfo p k (-1) sq hse (.c1 [] lv0) ⟨zbd.nil,zbd.nil,zbd.nil⟩ (zc5 n) (by omega)
 simp only[Ch.vis0,Ch.top,Ch.set,Ch.id]at hde
 unfold zuf at hz
 simp only at hz
 generalize hV:zc5 n=V at*
 generalize hr1:zfS sq [] lv0 V=R1 at*
 unfold nodC at hat hv
 refine Sound.err rfl (fun _=>rfl) ?_
 refine so Tryz.func37 ?_
 refine TR.dead ?_
 repeat' (first|refine wkt ?_|refine we hadd ?_ ?_|(apply TO.ztH (zkF p k (-1) sq);(iterate 3 exact rfl);exact Les.refl _;apply TO.zgV 9 4 4;(iterate 3 exact rfl))|refine wk ?_|intro hc|refine wv hv ?_|refine wss hde ?_ ?_|fail)
 all_goals first
  | exact absurd rfl hc
  | exact zmp hc (by rw[hz,if_pos hc]) (by rw[hz,if_pos hc]) (leB)
  | skip
 rw[if_neg (by simp[hc])]at hz
 have hR1z:=hc
 have G1:R1.1.ok/\R1.1.defs=[]:=by
  have:=zbS (f:=zbY sq []) (G:=fun(B:Nat) (a:Lv)=>a.ok/\a.defs=[]) (w:=fun _=>0) V (fun B a x hx h _=>⟨h.1.zgh (by have:=(zbn hx).1;omega),h.2⟩) 0 lv0 ⟨⟨zbd.nil,zbd.nil⟩,rfl⟩ (by rw[<-hr1]at hR1z;exact hR1z)
  rw[<-hr1];exact this
 clear hde hr1
 obtain⟨L1,R1e⟩:=R1
 simp only at hz G1 hR1z
 have hsm:=zhN p k (-1) sq (.c1 [] L1) ⟨zbd.nil,G1.1⟩ n.locals (by omega)
 simp only[Ch.vis,Ch.vis0,Ch.top,Ch.id,qa9]at hsm
 repeat' (first|refine wkt ?_|refine wka ?_|refine wkD ?_|refine wk ?_|exact wkc|intro hc|refine wk2 ?_ ?_|refine wsx ?_|refine wms ?_|refine wsy ?_ ?_|refine wss hsm ?_ ?_|fail)
 all_goals first
  | exact zmp hc (by rw[hz,if_pos hc]) (by rw[hz,if_pos hc]) (leB)
  | skip
 rw[if_neg (by simp[hc])]at hz
 clear hsm
 have hins:∀j,zbd (((n.ins.take j).map Decl.name).foldl ins []):=by
  have:∀(l:List Decl) (d:List Str),zbd d->(∀x∈l,x.name.length≤1000000000)->zbd ((l.map Decl.name).foldl ins d):=by
   exact zwcl
  exact fun j=>this _ [] zbd.nil (fun x hx=>by have:=(zbn (qaN hx)).1;omega)
 refine TR.zaA n.ins.length (fun _=>True) (fun j=>[(0,.ref 0 0),(1,.i k),(4,.cp (nC n) 0),(5,.ref 4 0),(49,.t (zap n.ins)),(50,.i (n.ins.map zav).length),(51,.i j)]) (fun j=>full p k (-1) sq (.c1 (((n.ins.take j).map Decl.name).foldl ins []) L1)) trivial (fun j hlt _=>?_) (fun _=>?_)
 ·have hx:=zdK hlt
  have hnx:n.ins[j].name.length≤1000000000:=by have:=(zbn (qaf hlt)).1;omega
  have hdn:=hins j
  have g2:((n.ins.take (j+1)).map Decl.name).foldl ins []=ins (((n.ins.take j).map Decl.name).foldl ins []) n.ins[j].name:=by
   rw[qax hlt,qaH,qbA];rfl
  generalize ((n.ins.take j).map Decl.name).foldl ins []=dn at*
  generalize n.ins[j]=x at*
  exact zwv
 have hinp:=hins n.ins.length
 rw[qap]at hinp
 rw[qap]
 generalize (n.ins.map Decl.name).foldl ins []=inp at*
 clear hins
 refine wk ?_
 repeat' (first|refine wu ?_|exact wkc|intro hc|refine wk2 ?_ ?_|fail)
 have G2:Good L1.own 0 L1:=⟨G1.1,rfl,by rw[G1.2];exact qae _,by rw[G1.2];simp⟩
 have ek1:=fun j=>zbR (fun u=>(equT u).w) n.eqs j
 have ek2:=fun j=>zbR (fun u=>(zar u).w) n.autos j
 have es1:=zsq equT 7 n.eqs
 have es2:=zsq zar 1 n.autos
 have ge:=fun j hz=>zez (f:=equS p sq k [] inp) (G:=Good L1.own) (w:=fun u=>(equT u).w) n.eqs (fun B a x hx h hz=>zjj (by have:=zaN (f:=equT) (sz:=7) hx;omega) h hz) 0 L1 G2 (k:=j) hz
 refine TR.zaA n.eqs.length (fun j=>(zai (equS p sq k [] inp) L1 (n.eqs.take j)).2=0) (fun j=>[(0,.ref 0 0),(1,.i k),(4,.cp (nC n) 0),(5,.ref 4 0),(63,.t (.sl 7 (n.eqs.map equT))),(64,.i (n.eqs.map equT).length),(65,.i j)]) (fun j=>full p k ((j:Int)-1) sq (.c1 inp (zai (equS p sq k [] inp) L1 (n.eqs.take j)).1)) rfl (fun j hlt ha=>?_) (fun ha=>?_)
 ·have hx:=ziz hlt
  have g1:=zcA (f:=equS p sq k [] inp) hlt ha
  have g2:=zbD (f:=equS p sq k [] inp) hlt ha
  have g3:=zm9 (f:=equS p sq k [] inp) hlt ha
  have hwu:(equT n.eqs[j]).w≤1000000000:=by have:=zaN (f:=equT) (sz:=7) (qaf hlt);omega
  have gk:=ge j ha
  have gk2:=ek1 j
  have hxk:=hn.eqs _ (qaf hlt)
  have hlw:=zeD (q:=n.eqs[j])
  generalize (zai (equS p sq k [] inp) L1 (n.eqs.take j)).1=st at*
  generalize n.eqs[j]=x at*
  have hs:=zkp p hp k j sq hse hsn k (.c1 inp st) (by simp[Ch.N]) ⟨hinp,gk.ok⟩ x hwu (by have:=gk.len;simp only[Ch.top];omega) hxk
  simp only[Ch.vis0,Ch.low,Ch.top,Ch.set,Ch.id]at hs
  generalize equS p sq k [] inp st x=fx at*
  unfold equC at hx hs
  clear ge
  repeat' (first|refine wkt ?_|refine wka ?_|refine wk ?_|exact wkc|intro hc|refine wk2 ?_ ?_|refine wss hs ?_ ?_|fail)
  ·refine zab.zaI hlt (by rw[g2];exact hc) ?_ (by rw[g2,show((j+1:Nat):Int)-1=j from by omega])
   repeat' (first|exact trivial|refine qai rfl ?_|fail)
  ·rw[if_pos (by rw[g1 hc];exact hc),g1 hc,g3 hc]at hz
   (repeat' (first|refine zab.panic ?_|refine wk ?_|fail))
   exact zmp hc (by rw[hz]) (by rw[hz]) (leB)
 have ge1:=ge n.eqs.length ha
 rw[qap]at ha ge1
 rw[qap]
 rw[if_neg (by simp[ha])]at hz
 generalize (zai (equS p sq k [] inp) L1 n.eqs).1=L2 at*
 clear ge
 refine wk ?_
 repeat' (first|refine wu ?_|exact wkc|intro hc|refine wk2 ?_ ?_|fail)
 have hau:=fun b (hb:b∈n.autos) (t:Lv) (ht:t.ok) (hd:t.defs.length≤1000000000)=>auc p hp k (-1) sq hse hsn k 3 (.c1 inp t) rfl ⟨hinp,ht⟩ hd b (by have:=zaN (f:=zar) (sz:=1) hb;omega) (hn.nest b hb) (hn.exA b hb)
 have ga:=fun j hz=>zez (f:=zcU p sq k 3 [] inp) (G:=Good L1.own) (w:=fun b=>(zar b).w) n.autos (fun B a x hx h hz=>zg9 3 (by have:=zaN (f:=zar) (sz:=1) hx;omega) h hz) _ L2 ge1 (k:=j) hz
 refine TR.zaA n.autos.length (fun j=>(zai (zcU p sq k 3 [] inp) L2 (n.autos.take j)).2=0) (fun j=>[(0,.ref 0 0),(1,.i k),(4,.cp (nC n) 0),(5,.ref 4 0),(86,.t (.sl 1 (n.autos.map zar))),(87,.i (n.autos.map zar).length),(88,.i j)]) (fun j=>full p k (-1) sq (.c1 inp (zai (zcU p sq k 3 [] inp) L2 (n.autos.take j)).1)) rfl (fun j hlt ha=>?_) (fun ha=>?_)
 ·have hx:=zg8 hlt
  have g1:=zcA (f:=zcU p sq k 3 [] inp) hlt ha
  have g2:=zbD (f:=zcU p sq k 3 [] inp) hlt ha
  have gk:=ga j ha
  have gk2:=ek2 j
  have gk3:=ek1 n.eqs.length
  generalize (zai (zcU p sq k 3 [] inp) L2 (n.autos.take j)).1=st at*
  have hs:=hau _ (qaf hlt) st gk.ok (by have:=gk.len;omega)
  simp only[Ch.vis0,Ch.low,Ch.top,Ch.set,Ch.id]at hs
  generalize n.autos[j]=x at*
  generalize zcU p sq k 3 [] inp st x=fx at*
  unfold zdL at hx hs
  clear hau ga
  repeat' (first|refine wkt ?_|refine wka ?_|refine wkD ?_|refine wk ?_|exact wkc|intro hc|refine wk2 ?_ ?_|refine wsx ?_|refine wms ?_|refine wsy ?_ ?_|refine wss hs ?_ ?_|fail)
  ·refine zab.zaI hlt (by rw[g2];exact hc) ?_ (by rw[g2])
   repeat' (first|exact trivial|refine qai rfl ?_|fail)
  ·rw[g1 hc]at hz
   (repeat' (first|refine zab.panic ?_|refine wk ?_|fail))
   exact zmp hc (by rw[hz];try simp[orE,hc]) (by rw[hz]) (leB)
 have ga1:=ga n.autos.length ha
 rw[qap]at ha ga1
 rw[qap]
 rw[ha]at hz
 generalize (zai (zcU p sq k 3 [] inp) L2 n.autos).1=L3 at*
 clear ga hau
 refine wk ?_
 repeat' (first|refine wu ?_|exact wkc|intro hc|refine wk2 ?_ ?_|fail)
 have hca:=zgl p hp k (-1) sq hse hsn k n.assume [n.ins] (by simp) (by simp only[qa3,qb3,qaG];show(zap n.ins).w≤_;omega) (by omega) hn.assume
 have hce:=zgl p hp k (-1) sq hse hsn k n.ensure [n.ins,n.outs] (by simp) (by
  have:=zcD n.ins n.outs
  simp only[qa3,qb3,qaG];show(zap (n.ins++n.outs)).w≤_;omega) (by omega) hn.ensure
 simp only[qa3,qb3,qaG,qah,qaC]at hca hce
 have hmV:(V.map zav).length=V.length:=qab _
 have hVl:n.ins.length≤V.length:=by rw[<-hV];simp[zc5]
 have hdr:(V.map zav).drop (n.ins.map zav).length=(n.outs++n.locals).map zav:=by
  rw[<-hV,m1,<-List.map_drop];simp[zc5]
 repeat' (first|refine wkt ?_|refine TR.zjD (envF:=_) (g:=True) [(.t (.ag (nC n)),false),(.t (zap V),true),(.cp (nC n) 1,false),(.t (zap n.ins),false),(.i (n.ins.map zav).length,false),(.t (.sl 3 ((V.map zav).drop (n.ins.map zav).length)),false),(.i ((V.map zav).drop (n.ins.map zav).length).length,false),(.i 0,false)] hmix (by dsimp only[List.map];decide +kernel) ?_ rfl (by decide) ?_|refine wk ?_|exact wkc|intro hc|refine wk2 ?_ ?_|refine we hca ?_ ?_|refine we hce ?_ ?_|refine wv hv ?_|(apply TO.zqJ zaf;(iterate 8 exact rfl);omega)|exact qai (qai rfl rfl) trivial|exact trivial|refine qai (fun env=>?_) ?_|fail)
 all_goals first
  | exact zmp hc (by rw[hz];simp only[orE];clear hca hce hv;grind) (by rw[hz]) (leB)
  | skip
 clear hca hce hv
 rw[hdr]
 have hml2:((n.outs++n.locals).map zav).length=(n.outs++n.locals).length:=qab _
 have hol:(n.outs++n.locals).length≤1000000000:=by simp;omega
 have hon:∀x∈n.outs++n.locals,x.name.length≤1000000000:=fun x hx=>by
  rcases qbw.1 hx with hx|hx
  ·have:=(zbn hx).1;omega
  ·have:=(zbn hx).1;omega
 generalize n.outs++n.locals=OL at*
 refine TR.zaA OL.length (fun j=>zac (fun d:Decl=>if d.name∈L3.done then 0 else 8) (OL.take j)=0) (fun j=>[(0,.ref 0 0),(1,.i k),(4,.cp (nC n) 0),(5,.ref 4 0),(121,.t (zap OL)),(122,.i (OL.map zav).length),(123,.i j)]) (fun _=>full p k (-1) sq (.c1 inp L3)) rfl (fun j hlt ha=>?_) (fun ha=>?_)
 ·have hx:=zdK hlt
  have hnx:=hon _ (qaf hlt)
  have g1:=zaJ (f:=fun d:Decl=>if d.name∈L3.done then 0 else 8) hlt ha
  have g2:=zaz (f:=fun d:Decl=>if d.name∈L3.done then 0 else 8) hlt ha
  have hdn:=ga1.ok.done
  generalize OL[j]=x at*
  unfold zfm at hx
  repeat' (first|refine wkt ?_|refine wka ?_|refine wkD ?_|refine wk ?_|exact wkc|intro hc|refine wk2 ?_ ?_|refine wsx ?_|refine wms ?_|refine wsy ?_ ?_|fail)
  ·exact zab.zaI hlt (g2 (by rw[if_pos hc]))
  ·(repeat' (first|refine zab.panic ?_|refine wk ?_|fail))
   exact zmp (by decide) (by rw[hz];simp only[orE];grind) (by rw[hz]) (leB)
 have el:=zaF ha
 repeat' (first|refine wu ?_|exact wkc|intro hc|refine wk2 ?_ ?_|fail)
 refine RetK.errN (vs:=[]) ?_ rfl (Le.refl _) rfl rfl rfl rfl rfl
 rw[hz];simp only[orE];grind
theorem zku:∀(m:Nat) (e:Ex),wEx e≤m->∀x∈flat e,x.name.length≤(exT e).w
 | 0,e,h=>by have:=zb7 e;omega
 | m+1,e,h=>by
   intro x hx
   have he:(exT e).w=(T.ag (exC e)).w:=by rw[zae]
   have h1:e.name.length+(T.sl 6 (e.args.map exT)).w≤(exT e).w:=by
    exact zwdw
   rw[zbJ]at hx
   rcases qa2.1 hx with rfl|hx
   ·omega
   ·unfold flats at hx
    obtain⟨l,hl,hxl⟩:=qbx.1 hx
    obtain⟨y,hy,rfl⟩:=qaP.1 hl
    have:=zku m y (by have:=zcg hy;omega) x hxl
    have:=zaN (f:=exT) (sz:=6) hy
    omega
theorem zfW{es:List En}{e:Ex}(h:za4 es e=0)(hw:(exT e).w≤1000000000):∀x∈flat e,ExOk x:=fun x hx=>
 ⟨(znU h x hx).v,qaq (zku _ e (qae _) x hx) hw⟩
theorem zaH{a b:Int}(h:orE a b=0):a=0/\b=0:=by
 exact zwej
theorem zlZ{es:List En}{u:Equ}(h:equE es u=0):za4 es u.right=0:=by
 unfold equE at h
 exact(zaH (zaH (zaH (zaH h).2).2).2).1
theorem znI{es:List En}{n:Int}{s:Bool}{t:Tran}(h:zfL es n s t=0):za4 es t.cond=0:=by
 unfold zfL at h
 exact(zaH (zaH h).2).1
theorem zji(u:Equ):(exT u.right).w≤(equT u).w:=by
 rw[zae,w_ag,show equT u= .ag (.sl 1 (u.left.map T.s)::exC u.right) from rfl,w_ag,qah,qay];omega
theorem zlp(t:Tran):(exT t.cond).w≤(zay t).w:=by
 rw[zae,w_ag,show zay t= .ag (zlo t) from rfl,w_ag]
 simp only[exC,zlo,qah,qaC,qay,qaQ];omega
theorem zlI{es:List En}:∀(k:Nat) (a:Auto),(zar a).w≤1000000000->zdy es k a=0->zkQ k a/\exA k a
 | 0,a,hw,h=>by simp[zdy]at h
 | k+1,a,hw,h=>by
   unfold zdy at h
   have hst:=zah (zaH (zaH h).2).2
   have hwa:=zgy a
   have key:∀s∈a.states,(∀b∈s.autos,zkQ k b/\exA k b)/\(∀u∈s.eqs,∀x∈flat u.right,ExOk x)/\(∀t∈s.unl,∀x∈flat t.cond,ExOk x)/\(∀t∈s.unt,∀x∈flat t.cond,ExOk x):=by
    intro s hs
    have h1:=hst s hs
    have hws:=zaN (f:=staT) (sz:=6) hs
    have hw2:=zlw s
    unfold stE at h1
    have h3:=(zaH (zaH (zaH h1).2).2).2
    have he:=zah (zaH h3).1
    have h4:=(zaH h3).2
    have ha:=zah (zaH h4).1
    have h5:=(zaH h4).2
    have hu:=zah (zaH h5).1
    have hv:=zah (zaH h5).2
    refine⟨fun b hb=>zlI k b (by have:=zaN (f:=zar) (sz:=1) hb;omega) (ha b hb),fun u hu'=>zfW (zlZ (he u hu')) (by have:=zji u;have:=zaN (f:=equT) (sz:=7) hu';omega),fun t ht=>zfW (znI (hu t ht)) (by have:=zlp t;have:=zaN (f:=zay) (sz:=8) ht;omega),fun t ht=>zfW (znI (hv t ht)) (by have:=zlp t;have:=zaN (f:=zay) (sz:=8) ht;omega)⟩
   exact⟨fun s hs b hb=>((key s hs).1 b hb).1,fun s hs=>⟨(key s hs).2.1,(key s hs).2.2.1,(key s hs).2.2.2,fun b hb=>((key s hs).1 b hb).2⟩⟩
theorem zuh{es:List En}{n:Nod}(h:(zcu es n).2=0)(hw:(nodT n).w≤100000000):zuO n:=by
 have hwn:=zlu n
 unfold zcu at h
 have h1:zl8 es n=0:=qaB fun hh=>by rw[if_pos hh]at h;exact hh h
 rw[if_neg (by simp[h1])]at h
 have h2:zac (equE es) n.eqs=0:=qaB fun hh=>by rw[if_pos hh,zcq]at h;exact hh h
 rw[if_neg (by simp[h2])]at h
 simp only at h
 unfold zqR at h
 have ha:=zah (zaH h).1
 have hs:=zah (zaH (zaH h).2).1
 have he:=zah (zaH (zaH h).2).2
 have hq:=zah h2
 refine⟨hw,fun a h=>(zlI 3 a (by have:=zaN (f:=zar) (sz:=1) h;omega) (ha a h)).1,fun a h=>(zlI 3 a (by have:=zaN (f:=zar) (sz:=1) h;omega) (ha a h)).2,fun u hu=>zfW (zlZ (hq u hu)) (by have:=zji u;have:=zaN (f:=equT) (sz:=7) hu;omega),fun e h=>zfW (hs e h) (by have:=zaN (f:=exT) (sz:=6) h;omega),fun e h=>zfW (he e h) (by have:=zaN (f:=exT) (sz:=6) h;omega)⟩
theorem zhT{p:Prog}(h:(za7 p).2=0):∀n∈p.nodes,(zcu p.enums n).2=0:=by
 unfold za7 at h
 have h1:limE p=0:=qaB fun hh=>by rw[if_pos hh]at h;exact hh h
 rw[if_neg (by simp[h1])]at h
 have h2:zac zeK p.enums=0:=qaB fun hh=>by rw[if_pos hh]at h;exact hh h
 rw[if_neg (by simp[h2])]at h
 have h3:zac (fun n=>(zcu p.enums n).2) p.nodes=0:=qaB fun hh=>by rw[if_neg hh]at h;exact hh h
 exact zah h3
def addF(seen:List (Int×Str×Int))(e:Int×Str×Int):List (Int×Str×Int)×Int:=(seen++[e],if(zaD seen e.1 e.2.1).isSome=true then 7 else 0)
def zes(u:En)(i:Int):List (Int×Str×Int):=u.tags.map fun s=>(0,s,i)
def enF(seen:List (Int×Str×Int))(x:En×Nat):List (Int×Str×Int)×Int:=zai addF seen ((2,x.1.name,(x.2:Int))::zes x.1 x.2)
def nodF(p:Prog)(seen:List (Int×Str×Int))(x:Nod×Nat):List (Int×Str×Int)×Int:=(seen++[(1,x.1.name,(x.2:Int))],(zcZ p seen x.2 x.1).2)
def zk2(p:Prog):List (Int×Str×Int)->List (Nod×Nat)->Int×Int
 | _,[]=>(0,0)
 | st,x::l=>if(nodF p st x).2=0 then zk2 p (nodF p st x).1 l else((x.2:Int),(zcZ p st x.2 x.1).1)
theorem zk3(p:Prog):∀ {l:List (Nod×Nat)} {a:List (Int×Str×Int)} {k:Nat} (hk:k<l.length),(zai (nodF p) a (l.take k)).2=0->(nodF p (zai (nodF p) a (l.take k)).1 l[k]).2≠0->zk2 p a l=((l[k].2:Int),(zcZ p (zai (nodF p) a (l.take k)).1 l[k].2 l[k].1).1)
 | x::l,a,0,hk,h,hn=>by
   simp only[qbl,zai,qcC]at hn⊢
   rw[zk2,if_neg hn]
 | x::l,a,k+1,hk,h,hn=>by
   rw[qaL,zai]at h
   by_cases h0:(nodF p a x).2=0
   ·rw[if_pos h0]at h
    have hn':(nodF p (zai (nodF p) (nodF p a x).1 (l.take k)).1 (l[k]'(by simpa using hk))).2≠0:=by
     rw[qaL,zai,if_pos h0]at hn
     simpa using hn
    rw[zk2,if_pos h0,zk3 p (by simpa using hk) h hn',qaL,zai,if_pos h0]
    simp
   ·rw[if_neg h0]at h;exact absurd h h0
def zdE(p:Prog):(Int×Int)×Int:=
 if(za7 p).2≠0 then za7 p else
 if(zai enF [] p.enums.zipIdx).2≠0 then((-1,-1),(zai enF [] p.enums.zipIdx).2) else
 if(zai (nodF p) (zai enF [] p.enums.zipIdx).1 p.nodes.zipIdx).2=0 then((0,0),0) else(zk2 p (zai enF [] p.enums.zipIdx).1 p.nodes.zipIdx,(zai (nodF p) (zai enF [] p.enums.zipIdx).1 p.nodes.zipIdx).2)
end Go.Proofs.YthmbhfgflijapaaGreatDoor
