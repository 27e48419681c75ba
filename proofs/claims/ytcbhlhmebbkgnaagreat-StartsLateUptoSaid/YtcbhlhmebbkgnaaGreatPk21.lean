import Derived.Test.YtcbhlhmebbkgnaaGreatPk20
set_option linter.unusedSimpArgs false
set_option linter.unusedVariables false
namespace Go.Proofs.YtcbhlhmebbkgnaaGreat
open Go Go.TL
attribute [local irreducible] TR TO Then zaw RetK Sound zab Kf GG zaZ
def exA:Nat->Auto->Prop
 | 0,_=>True
 | k+1,a=>∀s∈a.states,(∀u∈s.eqs,∀x∈flat u.right,ExOk x)/\(∀t∈s.unl,∀x∈flat t.cond,ExOk x)/\(∀t∈s.unt,∀x∈flat t.cond,ExOk x)/\∀b∈s.autos,exA k b
section
variable (p:Prog)(hp:zhg p)(n q:Int)(seen:List (Int×Str×Int))(hse:za4 seen)(hsn:zcC p seen)(node:Int)
include hp hse hsn
theorem auc:∀(k:Nat) (h:Ch) (hin:h.N+4*k=19) (hk:h.ok) (hd:h.top.defs.length≤1000000000) (au:Auto) (hw:(zaj au).w≤1000000000) (hn:zeo k au) (hx:exA k au),
  SS 148 [.i node,.ref h.id 0,.t (.ag (zcg au))] p n q seen h (h.set (zcx p seen node k h.vis0 h.low h.top au).1) (zcx p seen node k h.vis0 h.low h.top au).2
 | 0,h,hin,hk,hd,au,hw,hn,hx=>hn.elim
 | k+1,h,hin,hk,hd,au,hw,hn,hx=>by
   have hws:∀s∈au.states,(staT s).w≤1000000000:=fun s hs=>by have:=zaC (f:=staT) (sz:=6) hs;have:=zdn au;omega
   have hwa:∀s∈au.states,∀bb∈s.autos,(zaj bb).w≤1000000000:=fun s hs bb hb=>by have:=zaC (f:=zaj) (sz:=1) hb;have:=zfd s;have:=hws s hs;omega
   have hgd:=fun s (hs:s∈au.states) own B tt bb (hb:bb∈s.autos)=>zh7 (p:=p) (seen:=seen) (node:=node) k (vis0:=h.vis) (low:=h.low++h.top.done) (own:=own) (B:=B) (t:=tt) (a:=bb) (hwa s hs bb hb)
   refine zr4 p n q seen node h (by omega) hk hd (zcx p seen node k) au hw (fun s hs=>?_) (fun s hs hz=>?_)
   ·refine zsw p hp n q seen hse hsn node h (by omega) (by omega) hk (zcx p seen node k) s (hws s hs) (hgd s hs) (fun bb hb x hxo hxd hxs=>?_) (hx s hs).1 (hx s hs).2.1 (hx s hs).2.2.1
    have ih:=fun h1 h2 h3=>auc k (h.push x) h1 h2 h3 bb (hwa s hs bb hb) (hn s hs bb hb) ((hx s hs).2.2.2 bb hb)
    cases h
    case one=>simp[Ch.N]at hin;omega
    case c1=>exact ih (by simp[Ch.N,Ch.push]at *;omega) ⟨hk.1,hk.2,hxo⟩ hxd
    case c2=>exact ih (by simp[Ch.N,Ch.push]at *;omega) ⟨hk.1,hk.2.1,hk.2.2,hxo⟩ hxd
    case c3=>exact ih (by simp[Ch.N,Ch.push]at *;omega) ⟨hk.1,hk.2.1,hk.2.2.1,hk.2.2.2,hxo⟩ hxd
    case c4=>simp[Ch.N]at hin
   ·have:=zpI (F:=zcx p seen node k) (hws s hs) (hgd s hs) hz
    have h2:=hws s hs
    exact⟨by omega,this.2⟩
end
section
variable {n:Nat}{env:Env}{K:TK}{all:Array Oper}{rest:List Oper}{d:Nat}{ty:TypeId}{pos:String}{aft:Array Edge}{H:Heap}{args:Array Operand}{ts:Array TypeId}
theorem TO.ztA{ls:List (List Decl)}(hl:ls.length≤1000000)(hn:ls.flatten.length≤3000000000)(hd:Nat.ble (d+1) n=true)(ha:env.vals args.toList=some [.t (.sl 1 (ls.map dls))])
  (k:TO false Tryz.prog n all rest ((d,.t (dls ls.flatten))::env) (H++[.dead]) K):
  TO false Tryz.prog n all (⟨some d,.call { callee:=.value (.func 52),args:=args,argTypes:=ts },ty,pos,aft,none⟩::rest) env H K:=by
 by_cases h0:ls.flatten=[]
 ·refine TO.zev (zfL ls hl h0) hd rfl ha (Les.refl _) rfl rfl ?_
  refine TO.less d (v':=.t (dls [])) (by rw[Env.zax]) (Le.nil 3) ?_
  refine TO.shadow (TO.zto ?_)
  rw[h0]at k;exact k
 ·have h1:1≤ls.flatten.length:=by
   cases hv:ls.flatten with
   | nil=>exact absurd hv h0
   | cons a l=>simp
  have hc:=zg3 ls hl hn h1
  generalize ls.flatten=L at*
  have hcl:(zaO L).length=L.length*3:=zbo L
  refine TO.zro (tl:=zaO L) hc hd rfl ha (Les.refl _) rfl ?_
  refine TO.zh1 d 3 H.length L.length (cs:=(zaO L).map .t) (es:=L.map zah) (by rw[Env.zax]) (by simp) (by simp[hcl]) (fun j c hj=>hj) (by simp) (fun e he=>by obtain⟨x,_,rfl⟩:=List.mem_map.1 he;rfl) rfl rfl ?_
  refine TO.shadow ?_
  rw[show(H++[Blk.cells ((zaO L).map SV.t)]).set H.length .dead=H++[.dead] from by rw[List.set_append_right _ _ (Nat.le_refl _),Nat.sub_self];rfl]
  exact k
end
def seeL(L:List Decl):Lv:=⟨(L.map Decl.name).foldl ins [],[],[]⟩
def zfg(p:Prog)(seen:List (Int×Str×Int))(node:Int)(L:List Decl)(l:List Ex):Int:=zaa (zc1 p seen node (seeL L).own 1) l
theorem zhd(p:Prog)(hp:zhg p)(n q:Int)(seen:List (Int×Str×Int))(hse:za4 seen)(hsn:zcC p seen)(node:Int)(l:List Ex)(ls:List (List Decl))(hl:ls.length≤1000000)(hwl:(dls ls.flatten).w≤1000000000)(hw:(T.sl 6 (l.map exT)).w≤1000000000)(hex:∀e∈l,∀x∈flat e,ExOk x):
  Sound Tryz.prog 149 [.ref 0 0,.i node,.t (.sl 6 (l.map exT)),.t (.sl 1 (ls.map dls))] [lkB p n q,zch seen] (Err (zfg p seen node ls.flatten l) (.tup []) (zcA n q (zfg p seen node ls.flatten l)) [lkB p n q,zch seen]):=by
 have hfl:ls.flatten.length≤1000000000:=by have:=zaq zah 3 ls.flatten;have:(dls ls.flatten).w=(T.sl 3 (ls.flatten.map zah)).w:=rfl;omega
 have hex2:l.length≤1000000000:=by have:=zaq exT 6 l;omega
 have hm1:(ls.flatten.map zah).length=ls.flatten.length:=List.length_map _
 have hm2:(l.map exT).length=l.length:=List.length_map _
 unfold zfg
 refine Sound.err rfl (fun _=>rfl) ?_
 refine so Tryz.func149 ?_
 refine TR.dead ?_
 repeat' (first|refine wu ?_|(apply TO.ztH (zlu p n q seen);(iterate 3 exact rfl);exact Les.refl _)|(apply TO.ztA hl (by omega);exact rfl;exact rfl)|fail)
 generalize ls.flatten=L at*
 have hnm:∀x∈L,x.name.length≤1000000000:=fun x hx=>by have:=(za6 hx).1;have:(dls L).w=(zac L).w:=rfl;omega
 have hins:∀k,za0 (((L.take k).map Decl.name).foldl ins []):=by
  have:∀(l:List Decl) (d:List Str),za0 d->(∀x∈l,x.name.length≤1000000000)->za0 ((l.map Decl.name).foldl ins d):=by
   intro l
   induction l with
   | nil=>intro d hd _;exact hd
   | cons y l ih=>intro d hd hl;exact ih _ (hd.ins (hl y (by simp))) (fun x hx=>hl x (by simp[hx]))
  exact fun k=>this _ [] za0.nil (fun x hx=>hnm x (List.mem_of_mem_take hx))
 refine TR.zal L.length (fun _=>True) (fun k=>[(0,.ref 0 0),(1,.i node),(2,.t (.sl 6 (l.map exT))),(8,.ref 4 0),(15,.t (dls L)),(16,.i (L.map zah).length),(17,.i k)]) (fun k=>full p n q seen (.one (seeL (L.take k)))++[.dead]) trivial (fun k hlt _=>?_) (fun _=>?_)
 ·have hx:=zbh hlt
  have hno:=hnm _ (List.getElem_mem hlt)
  have hdn:=hins k
  have g2:seeL (L.take (k+1))=⟨ins ((L.take k).map Decl.name |>.foldl ins []) L[k].name,[],[]⟩:=by
   unfold seeL;rw[List.take_succ_eq_append_getElem hlt,List.map_append,List.foldl_append];rfl
  have g1:seeL (L.take k)=⟨((L.take k).map Decl.name).foldl ins [],[],[]⟩:=rfl
  rw[g1]
  generalize ((L.take k).map Decl.name).foldl ins []=dn at*
  generalize L[k]=x at*
  unfold zb4 at hx
  repeat' (first|refine wkt ?_|refine wka ?_|refine wkD ?_|refine wk ?_|exact wkc|intro hc|refine wk2 ?_ ?_|refine wsx ?_|refine wms ?_|refine wsy ?_ ?_|fail)
  refine zab.zak hlt trivial ?_ (by rw[g2];rfl)
  repeat' (first|exact trivial|refine And.intro rfl ?_|fail)
 have hk:(Ch.one (seeL L)).ok:=by
  have:=hins L.length
  rw[List.take_length]at this
  exact⟨this,za0.nil⟩
 rw[List.take_length]
 have hvis:Ch.vis (.one (seeL L))=(seeL L).own:=rfl
 generalize seeL L=A at*
 refine wk ?_
 repeat' (first|refine wu ?_|exact wkc|intro hc|refine wk2 ?_ ?_|fail)
 refine TR.zal l.length (fun k=>zaa (zc1 p seen node A.own 1) (l.take k)=0) (fun k=>[(0,.ref 0 0),(1,.i node),(8,.ref 4 0),(28,.t (.sl 6 (l.map exT))),(29,.i (l.map exT).length),(30,.i k)]) (fun k=>full p n q seen (.one A)++[.dead]) rfl (fun k hlt ha=>?_) (fun ha=>?_)
 ·have hx:=zbd hlt
  have g1:=zan (f:=zc1 p seen node A.own 1) hlt ha
  have g2:=zai (f:=zc1 p seen node A.own 1) hlt ha
  have hwx:wEx l[k]≤1000000000:=by have:=zep l[k];have:=zaC (f:=exT) (sz:=6) (List.getElem_mem hlt);omega
  have hs:=zgJ p hp n q seen hse hsn node 1 (.one A) hk l[k] hwx (hex _ (List.getElem_mem hlt))
  rw[hvis]at hs
  generalize l[k]=x at*
  generalize zc1 p seen node A.own 1 x=z at*
  unfold exC at hx hs
  repeat' (first|refine wkt ?_|refine wka ?_|refine wkD ?_|refine wk ?_|exact wkc|intro hc|refine wk2 ?_ ?_|refine wsx ?_|refine wms ?_|refine wsy ?_ ?_|refine wss hs ?_ ?_|fail)
  ·exact zab.zak hlt (g2 hc)
  ·((repeat' (first|refine zab.panic ?_|refine wk ?_|fail));apply retS;(first|assumption|decide);(clear hx hs;first|grind|grind [orE]);(first|exact lb|exact Nat.le_refl _|(simp[Ch.len];done)|(simp[Ch.len];omega)))
 ·have e1:=zar ha
  refine wk ?_
  repeat' (first|refine wu ?_|exact wkc|intro hc|refine wk2 ?_ ?_|fail)
  exact zkK e1 rfl rfl rfl rfl
theorem ziV(p:Prog)(n q:Int)(seen:List (Int×Str×Int))(hse:za4 seen)(k v:Int)(hkk:0≤k/\k≤2)(nm:Str)(hno:nm.length≤1000000000):
  Sound Tryz.prog 98 [.ref 0 0,.t (.ag [.i k,.s nm]),.i v] [lkB p n q,zch seen] (Err (if(zay seen k nm).isSome=true then 7 else 0) (.tup []) (zcA n q (if(zay seen k nm).isSome=true then 7 else 0)) [lkB p n q,zch (seen++[(k,nm,v)])]):=by
 cases hg:zay seen k nm with
 | none=>
   refine Sound.err rfl (fun _=>rfl) ?_
   refine so Tryz.func98 ?_
   refine TR.dead ?_
   repeat' (first|refine wkt ?_|refine wka ?_|refine wkD ?_|refine wk ?_|exact wkc|intro hc|refine wk2 ?_ ?_|refine wsx ?_|refine wms ?_|refine wsy ?_ ?_|(apply TO.zsM;(iterate 4 exact rfl);assumption;assumption;assumption;assumption)|(apply TO.zty;(iterate 4 exact rfl);assumption;assumption;assumption;assumption;exact rfl)|fail)
   exact zkK rfl rfl rfl rfl rfl
 | some w=>
   refine Sound.err rfl (fun _=>rfl) ?_
   refine so Tryz.func98 ?_
   refine TR.dead ?_
   repeat' (first|refine wkt ?_|refine wka ?_|refine wkD ?_|refine wk ?_|exact wkc|intro hc|refine wk2 ?_ ?_|refine wsx ?_|refine wms ?_|refine wsy ?_ ?_|(apply TO.ztw;(iterate 4 exact rfl);assumption;assumption;assumption;assumption)|fail)
   (apply retB;decide;rfl;exact rfl)
def zgb{α β:Type}(f:β->α->β×Int):β->List α->Int
 | _,[]=>0
 | a,x::l=>if(f a x).2=0 then zgb f (f a x).1 l+1 else 0
theorem zkm{α β:Type}{f:β->α->β×Int}:∀ {l:List α} {a:β} {k:Nat} (hk:k<l.length),(zad f a (l.take k)).2=0->(f (zad f a (l.take k)).1 l[k]).2≠0->zgb f a l=k
 | x::l,a,0,hk,h,hn=>by
   simp only[List.take_zero,zad,List.getElem_cons_zero]at hn
   rw[zgb,if_neg hn];rfl
 | x::l,a,k+1,hk,h,hn=>by
   rw[List.take_succ_cons,zad]at h
   by_cases h0:(f a x).2=0
   ·rw[if_pos h0]at h
    have hn':(f (zad f (f a x).1 (l.take k)).1 (l[k]'(by simpa using hk))).2≠0:=by
     rw[List.take_succ_cons,zad,if_pos h0]at hn
     simpa using hn
    rw[zgb,if_pos h0,zkm (by simpa using hk) h hn']
    omega
   ·rw[if_neg h0]at h;exact absurd h h0
def zpz(p:Prog)(seen:List (Int×Str×Int))(i:Int)(n:Nod):Int×Int:=
 let inp:=(n.ins.map Decl.name).foldl ins []
 let r1:=zif seen [] lv0 (zao n)
 let r2:=zad (equS p seen i [] inp) r1.1 n.eqs
 let r3:=zad (zcx p seen i 3 [] inp) r2.1 n.autos
 if r1.2≠0 then(-1,r1.2) else if zbn r1.1.own n.locals≠0 then(-1,zbn r1.1.own n.locals) else if r2.2≠0 then(zgb (equS p seen i [] inp) r1.1 n.eqs,r2.2) else
 (-1,orE r3.2 (orE (zfg p seen i n.ins n.assume) (orE (zfg p seen i (n.ins++n.outs) n.ensure) (zaa (fun d:Decl=>if d.name∈r3.1.done then 0 else 8) (n.outs++n.locals)))))
def zce(p:Prog)(seen:List (Int×Str×Int))(i:Int)(n:Nod):Int×Int:=
 if(zay seen 1 n.name).isSome=true then(-1,7) else zpz p (seen++[(1,n.name,i)]) i n
structure ztV (n:Nod):Prop where
 w:(nodT n).w≤100000000
 nest:∀a∈n.autos,zeo 3 a
 exA:∀a∈n.autos,exA 3 a
 eqs:∀u∈n.eqs,∀x∈flat u.right,ExOk x
 assume:∀e∈n.assume,∀x∈flat e,ExOk x
 ensure:∀e∈n.ensure,∀x∈flat e,ExOk x
theorem znd{rs:List ResultVar}{env:Env}{H H1:Heap}{n q q' c c':Int}{N:Nat}{v:SV}(h0:c'≠0)(hc:c'=c)(hq:q'=q)(hN:N≤H.length):
  zf3 (RetK tab rs N (Err0 c v (zcA n q c) H1 N)) (.panic (zcA n q' c')) env H:=by subst hq;exact retS h0 hc hN
theorem zaS(a b:List Decl):(zac (a++b)).w≤(zac a).w+(zac b).w:=by
 have e:∀l:List Decl,(zac l).w=1+((l.map zah).map T.w).sum:=fun l=>w_sl 3 _
 rw[e,e,e,List.map_append,List.map_append,List.sum_append];omega
theorem ziY(l:List (Int×Str×Int))(k:Int)(s:Str)(v:Int)(j:Int)(x:Str):zay (l++[(k,s,v)]) j x=if(zay l j x).isSome=true then zay l j x else if k=j/\s=x then some v else none:=by
 unfold zay
 rw[List.find?_append]
 cases h:l.find? (fun e=>decide (e.1=j/\e.2.1=x)) with
 | some e=>simp
 | none=>
   by_cases hk:k=j/\s=x
   ·simp[List.find?,hk]
   ·simp only[List.find?,Option.none_or,Option.map_none]
    rw[decide_eq_false hk]
    simp[hk]
theorem zcC.add{p:Prog}{seen:List (Int×Str×Int)}(h:zcC p seen){s:Str}{k:Nat}(hk:k<p.nodes.length):zcC p (seen++[(1,s,(k:Int))]):=by
 intro x i hx
 rw[ziY]at hx
 split at hx
 ·exact h x i hx
 ·split at hx
  ·cases hx;omega
  ·cases hx
theorem zcC.add'{p:Prog}{seen:List (Int×Str×Int)}(h:zcC p seen){s:Str}{j v:Int}(hj:j≠1):zcC p (seen++[(j,s,v)]):=by
 intro x i hx
 rw[ziY]at hx
 split at hx
 ·exact h x i hx
 ·split at hx
  ·rename_i hh;exact absurd hh.1 hj
  ·cases hx
set_option maxHeartbeats 2000000 in
theorem zo9 (p:Prog) (hp:zhg p) (a b:Int) (seen:List (Int×Str×Int)) (hse0:za4 seen) (hsn0:zcC p seen) (k:Nat) (hk:k<p.nodes.length) (n:Nod) (hnk:p.nodes[k]?=some n) (hn:ztV n):
  Sound Tryz.prog 99 [.ref 0 0,.i k] [lkB p a b,zch seen] (Err (zce p seen k n).2 (.tup []) (zcA k (zce p seen k n).1 (zce p seen k n).2) [lkB p k (-1),zch (seen++[(1,n.name,(k:Int))])]):=by
 have hml:(p.nodes.map nodT).length=p.nodes.length:=List.length_map _
 have hat:(p.nodes.map nodT)[k]?=some (.ag (nodC n)):=by rw[List.getElem?_map,hnk];rfl
 have hpl:=hp.nodes
 have hwn:=zdJ n
 have hw:=hn.w
 have hno:n.name.length≤1000000000:=by
  have:n.name.length≤(nodT n).w:=by
   rw[show nodT n= .ag (nodC n) from rfl,w_ag]
   simp only[nodC,List.map_cons,List.map_nil,List.sum_cons,List.sum_nil,w_s];omega
  omega
 have hadd:=ziV p k (-1) seen hse0 1 k (by decide) n.name hno
 have hz:zce p seen k n=zce p seen k n:=rfl
 conv at hz=>rhs;unfold zce
 generalize zce p seen k n=z at hz⊢
 by_cases hg:(zay seen 1 n.name).isSome=true
 ·rw[if_pos hg]at hz hadd
  subst hz
  unfold nodC at hat
  refine Sound.err rfl (fun _=>rfl) ?_
  refine so Tryz.func99 ?_
  refine TR.dead ?_
  repeat' (first|refine wu ?_|exact wkc|intro hc|refine wk2 ?_ ?_|refine we hadd ?_ ?_|fail)
  exact znd (by decide) rfl rfl (lb)
 rw[if_neg hg]at hz hadd
 have hgn:zay seen 1 n.name=none:=by
  cases h:zay seen 1 n.name with
  | none=>rfl
  | some w=>rw[h]at hg;exact absurd rfl hg
 have hse:=hse0.add (v:=(k:Int)) (by decide) hno hgn
 have hsn:=hsn0.add (s:=n.name) hk
 clear hse0 hsn0 hg hgn
 generalize hsq:seen++[(1,n.name,(k:Int))]=sq at*
 have l1:=zaq zah 3 n.ins
 have l2:=zaq zah 3 n.outs
 have l3:=zaq zah 3 n.locals
 have l4:=zaq equT 7 n.eqs
 have l5:=zaq zaj 1 n.autos
 have d1:(zac n.ins).w=(T.sl 3 (n.ins.map zah)).w:=rfl
 have d2:(zac n.outs).w=(T.sl 3 (n.outs.map zah)).w:=rfl
 have d3:(zac n.locals).w=(T.sl 3 (n.locals.map zah)).w:=rfl
 have m1:(n.ins.map zah).length=n.ins.length:=List.length_map _
 have m4:(n.eqs.map equT).length=n.eqs.length:=List.length_map _
 have m5:(n.autos.map zaj).length=n.autos.length:=List.length_map _
 have e4:(zac ([]:List Decl)).w=1:=by rw[w_sl];rfl
 have hvw:(zac (zao n)).w≤100000002:=by
  have e1:=zaS n.ins (n.outs++(n.locals++[]))
  have e2:=zaS n.outs (n.locals++[])
  have e3:=zaS n.locals []
  unfold zao;omega
 have hv:=zd5 n ⟨by omega,by omega,by omega⟩ (fun d hd=>by
  have h1:=(za6 hd).2
  have h2:=zaq onT 3 d.clock
  omega)
 have hde:=zfC p k (-1) sq hse (.c1 [] lv0) ⟨za0.nil,za0.nil,za0.nil⟩ (zao n) (by omega)
 simp only[Ch.vis0,Ch.top,Ch.set,Ch.id]at hde
 unfold zpz at hz
 simp only at hz
 generalize hV:zao n=V at*
 generalize hr1:zif sq [] lv0 V=R1 at*
 unfold nodC at hat hv
 refine Sound.err rfl (fun _=>rfl) ?_
 refine so Tryz.func99 ?_
 refine TR.dead ?_
 repeat' (first|refine wkt ?_|refine we hadd ?_ ?_|(apply TO.ztH (zlu p k (-1) sq);(iterate 3 exact rfl);exact Les.refl _;apply TO.zlb 9 4 4;(iterate 3 exact rfl))|refine wk ?_|intro hc|refine wv hv ?_|refine wss hde ?_ ?_|fail)
 all_goals first
  | exact absurd rfl hc
  | exact znd hc (by rw[hz,if_pos hc]) (by rw[hz,if_pos hc]) (lb)
  | skip
 rw[if_neg (by simp[hc])]at hz
 have hR1z:=hc
 have G1:R1.1.ok/\R1.1.defs=[]:=by
  have:=zb2 (f:=zbz sq []) (G:=fun(B:Nat) (a:Lv)=>a.ok/\a.defs=[]) (w:=fun _=>0) V (fun B a x hx h _=>⟨h.1.zg1 (by have:=(za6 hx).1;omega),h.2⟩) 0 lv0 ⟨⟨za0.nil,za0.nil⟩,rfl⟩ (by rw[<-hr1]at hR1z;exact hR1z)
  rw[<-hr1];exact this
 clear hde hr1
 obtain⟨L1,R1e⟩:=R1
 simp only at hz G1 hR1z
 have hsm:=zhU p k (-1) sq (.c1 [] L1) ⟨za0.nil,G1.1⟩ n.locals (by omega)
 simp only[Ch.vis,Ch.vis0,Ch.top,Ch.id,List.nil_append]at hsm
 repeat' (first|refine wkt ?_|refine wka ?_|refine wkD ?_|refine wk ?_|exact wkc|intro hc|refine wk2 ?_ ?_|refine wsx ?_|refine wms ?_|refine wsy ?_ ?_|refine wss hsm ?_ ?_|fail)
 all_goals first
  | exact znd hc (by rw[hz,if_pos hc]) (by rw[hz,if_pos hc]) (lb)
  | skip
 rw[if_neg (by simp[hc])]at hz
 clear hsm
 have hins:∀j,za0 (((n.ins.take j).map Decl.name).foldl ins []):=by
  have:∀(l:List Decl) (d:List Str),za0 d->(∀x∈l,x.name.length≤1000000000)->za0 ((l.map Decl.name).foldl ins d):=by
   intro l
   induction l with
   | nil=>intro d hd _;exact hd
   | cons y l ih=>intro d hd hl;exact ih _ (hd.ins (hl y (by simp))) (fun x hx=>hl x (by simp[hx]))
  exact fun j=>this _ [] za0.nil (fun x hx=>by have:=(za6 (List.mem_of_mem_take hx)).1;omega)
 refine TR.zal n.ins.length (fun _=>True) (fun j=>[(0,.ref 0 0),(1,.i k),(4,.cp (nC n) 0),(5,.ref 4 0),(49,.t (zac n.ins)),(50,.i (n.ins.map zah).length),(51,.i j)]) (fun j=>full p k (-1) sq (.c1 (((n.ins.take j).map Decl.name).foldl ins []) L1)) trivial (fun j hlt _=>?_) (fun _=>?_)
 ·have hx:=zbh hlt
  have hnx:n.ins[j].name.length≤1000000000:=by have:=(za6 (List.getElem_mem hlt)).1;omega
  have hdn:=hins j
  have g2:((n.ins.take (j+1)).map Decl.name).foldl ins []=ins (((n.ins.take j).map Decl.name).foldl ins []) n.ins[j].name:=by
   rw[List.take_succ_eq_append_getElem hlt,List.map_append,List.foldl_append];rfl
  generalize ((n.ins.take j).map Decl.name).foldl ins []=dn at*
  generalize n.ins[j]=x at*
  unfold zb4 at hx
  repeat' (first|refine wkt ?_|refine wka ?_|refine wkD ?_|refine wk ?_|exact wkc|intro hc|refine wk2 ?_ ?_|refine wsx ?_|refine wms ?_|refine wsy ?_ ?_|fail)
  refine zab.zak hlt trivial ?_ (by rw[g2];rfl)
  repeat' (first|exact trivial|refine And.intro rfl ?_|fail)
 have hinp:=hins n.ins.length
 rw[List.take_length]at hinp
 rw[List.take_length]
 generalize (n.ins.map Decl.name).foldl ins []=inp at*
 clear hins
 refine wk ?_
 repeat' (first|refine wu ?_|exact wkc|intro hc|refine wk2 ?_ ?_|fail)
 have G2:Good L1.own 0 L1:=⟨G1.1,rfl,by rw[G1.2];exact Nat.le_refl _,by rw[G1.2];simp⟩
 have ek1:=fun j=>zbZ (fun u=>(equT u).w) n.eqs j
 have ek2:=fun j=>zbZ (fun u=>(zaj u).w) n.autos j
 have es1:=zrW equT 7 n.eqs
 have es2:=zrW zaj 1 n.autos
 have ge:=fun j hz=>zeX (f:=equS p sq k [] inp) (G:=Good L1.own) (w:=fun u=>(equT u).w) n.eqs (fun B a x hx h hz=>zke (by have:=zaC (f:=equT) (sz:=7) hx;omega) h hz) 0 L1 G2 (k:=j) hz
 refine TR.zal n.eqs.length (fun j=>(zad (equS p sq k [] inp) L1 (n.eqs.take j)).2=0) (fun j=>[(0,.ref 0 0),(1,.i k),(4,.cp (nC n) 0),(5,.ref 4 0),(63,.t (.sl 7 (n.eqs.map equT))),(64,.i (n.eqs.map equT).length),(65,.i j)]) (fun j=>full p k ((j:Int)-1) sq (.c1 inp (zad (equS p sq k [] inp) L1 (n.eqs.take j)).1)) rfl (fun j hlt ha=>?_) (fun ha=>?_)
 ·have hx:=zcP hlt
  have g1:=zbl (f:=equS p sq k [] inp) hlt ha
  have g2:=zaN (f:=equS p sq k [] inp) hlt ha
  have g3:=zkm (f:=equS p sq k [] inp) hlt ha
  have hwu:(equT n.eqs[j]).w≤1000000000:=by have:=zaC (f:=equT) (sz:=7) (List.getElem_mem hlt);omega
  have gk:=ge j ha
  have gk2:=ek1 j
  have hxk:=hn.eqs _ (List.getElem_mem hlt)
  have hlw:=zbE (q:=n.eqs[j])
  generalize (zad (equS p sq k [] inp) L1 (n.eqs.take j)).1=st at*
  generalize n.eqs[j]=x at*
  have hs:=zlS p hp k j sq hse hsn k (.c1 inp st) (by simp[Ch.N]) ⟨hinp,gk.ok⟩ x hwu (by have:=gk.len;simp only[Ch.top];omega) hxk
  simp only[Ch.vis0,Ch.low,Ch.top,Ch.set,Ch.id]at hs
  generalize equS p sq k [] inp st x=fx at*
  unfold equC at hx hs
  clear ge
  repeat' (first|refine wkt ?_|refine wka ?_|refine wk ?_|exact wkc|intro hc|refine wk2 ?_ ?_|refine wss hs ?_ ?_|fail)
  ·refine zab.zak hlt (by rw[g2];exact hc) ?_ (by rw[g2,show((j+1:Nat):Int)-1=j from by omega])
   repeat' (first|exact trivial|refine And.intro rfl ?_|fail)
  ·rw[if_pos (by rw[g1 hc];exact hc),g1 hc,g3 hc]at hz
   (repeat' (first|refine zab.panic ?_|refine wk ?_|fail))
   exact znd hc (by rw[hz]) (by rw[hz]) (lb)
 have ge1:=ge n.eqs.length ha
 rw[List.take_length]at ha ge1
 rw[List.take_length]
 rw[if_neg (by simp[ha])]at hz
 generalize (zad (equS p sq k [] inp) L1 n.eqs).1=L2 at*
 clear ge
 refine wk ?_
 repeat' (first|refine wu ?_|exact wkc|intro hc|refine wk2 ?_ ?_|fail)
 have hau:=fun b (hb:b∈n.autos) (t:Lv) (ht:t.ok) (hd:t.defs.length≤1000000000)=>auc p hp k (-1) sq hse hsn k 3 (.c1 inp t) rfl ⟨hinp,ht⟩ hd b (by have:=zaC (f:=zaj) (sz:=1) hb;omega) (hn.nest b hb) (hn.exA b hb)
 have ga:=fun j hz=>zeX (f:=zcx p sq k 3 [] inp) (G:=Good L1.own) (w:=fun b=>(zaj b).w) n.autos (fun B a x hx h hz=>zh7 3 (by have:=zaC (f:=zaj) (sz:=1) hx;omega) h hz) _ L2 ge1 (k:=j) hz
 refine TR.zal n.autos.length (fun j=>(zad (zcx p sq k 3 [] inp) L2 (n.autos.take j)).2=0) (fun j=>[(0,.ref 0 0),(1,.i k),(4,.cp (nC n) 0),(5,.ref 4 0),(86,.t (.sl 1 (n.autos.map zaj))),(87,.i (n.autos.map zaj).length),(88,.i j)]) (fun j=>full p k (-1) sq (.c1 inp (zad (zcx p sq k 3 [] inp) L2 (n.autos.take j)).1)) rfl (fun j hlt ha=>?_) (fun ha=>?_)
 ·have hx:=zdL hlt
  have g1:=zbl (f:=zcx p sq k 3 [] inp) hlt ha
  have g2:=zaN (f:=zcx p sq k 3 [] inp) hlt ha
  have gk:=ga j ha
  have gk2:=ek2 j
  have gk3:=ek1 n.eqs.length
  generalize (zad (zcx p sq k 3 [] inp) L2 (n.autos.take j)).1=st at*
  have hs:=hau _ (List.getElem_mem hlt) st gk.ok (by have:=gk.len;omega)
  simp only[Ch.vis0,Ch.low,Ch.top,Ch.set,Ch.id]at hs
  generalize n.autos[j]=x at*
  generalize zcx p sq k 3 [] inp st x=fx at*
  unfold zcg at hx hs
  clear hau ga
  repeat' (first|refine wkt ?_|refine wka ?_|refine wkD ?_|refine wk ?_|exact wkc|intro hc|refine wk2 ?_ ?_|refine wsx ?_|refine wms ?_|refine wsy ?_ ?_|refine wss hs ?_ ?_|fail)
  ·refine zab.zak hlt (by rw[g2];exact hc) ?_ (by rw[g2])
   repeat' (first|exact trivial|refine And.intro rfl ?_|fail)
  ·rw[g1 hc]at hz
   (repeat' (first|refine zab.panic ?_|refine wk ?_|fail))
   exact znd hc (by rw[hz];try simp[orE,hc]) (by rw[hz]) (lb)
 have ga1:=ga n.autos.length ha
 rw[List.take_length]at ha ga1
 rw[List.take_length]
 rw[ha]at hz
 generalize (zad (zcx p sq k 3 [] inp) L2 n.autos).1=L3 at*
 clear ga hau
 refine wk ?_
 repeat' (first|refine wu ?_|exact wkc|intro hc|refine wk2 ?_ ?_|fail)
 have hca:=zhd p hp k (-1) sq hse hsn k n.assume [n.ins] (by simp) (by simp only[List.flatten_cons,List.flatten_nil,List.append_nil];show(zac n.ins).w≤_;omega) (by omega) hn.assume
 have hce:=zhd p hp k (-1) sq hse hsn k n.ensure [n.ins,n.outs] (by simp) (by
  have:=zaS n.ins n.outs
  simp only[List.flatten_cons,List.flatten_nil,List.append_nil];show(zac (n.ins++n.outs)).w≤_;omega) (by omega) hn.ensure
 simp only[List.flatten_cons,List.flatten_nil,List.append_nil,List.map_cons,List.map_nil]at hca hce
 have hmV:(V.map zah).length=V.length:=List.length_map _
 have hVl:n.ins.length≤V.length:=by rw[<-hV];simp[zao]
 have hdr:(V.map zah).drop (n.ins.map zah).length=(n.outs++n.locals).map zah:=by
  rw[<-hV,m1,<-List.map_drop];simp[zao]
 repeat' (first|refine wkt ?_|refine TR.zmN (envF:=_) (g:=True) [(.t (.ag (nC n)),false),(.t (zac V),true),(.cp (nC n) 1,false),(.t (zac n.ins),false),(.i (n.ins.map zah).length,false),(.t (.sl 3 ((V.map zah).drop (n.ins.map zah).length)),false),(.i ((V.map zah).drop (n.ins.map zah).length).length,false),(.i 0,false)] hmix (by dsimp only[List.map];decide +kernel) ?_ rfl (by decide) ?_|refine wk ?_|exact wkc|intro hc|refine wk2 ?_ ?_|refine we hca ?_ ?_|refine we hce ?_ ?_|refine wv hv ?_|(apply TO.zqP zam;(iterate 8 exact rfl);omega)|exact And.intro (And.intro rfl rfl) trivial|exact trivial|refine And.intro (fun env=>?_) ?_|fail)
 all_goals first
  | exact znd hc (by rw[hz];simp only[orE];clear hca hce hv;grind) (by rw[hz]) (lb)
  | skip
 clear hca hce hv
 rw[hdr]
 have hml2:((n.outs++n.locals).map zah).length=(n.outs++n.locals).length:=List.length_map _
 have hol:(n.outs++n.locals).length≤1000000000:=by simp;omega
 have hon:∀x∈n.outs++n.locals,x.name.length≤1000000000:=fun x hx=>by
  rcases List.mem_append.1 hx with hx|hx
  ·have:=(za6 hx).1;omega
  ·have:=(za6 hx).1;omega
 generalize n.outs++n.locals=OL at*
 refine TR.zal OL.length (fun j=>zaa (fun d:Decl=>if d.name∈L3.done then 0 else 8) (OL.take j)=0) (fun j=>[(0,.ref 0 0),(1,.i k),(4,.cp (nC n) 0),(5,.ref 4 0),(121,.t (zac OL)),(122,.i (OL.map zah).length),(123,.i j)]) (fun _=>full p k (-1) sq (.c1 inp L3)) rfl (fun j hlt ha=>?_) (fun ha=>?_)
 ·have hx:=zbh hlt
  have hnx:=hon _ (List.getElem_mem hlt)
  have g1:=zan (f:=fun d:Decl=>if d.name∈L3.done then 0 else 8) hlt ha
  have g2:=zai (f:=fun d:Decl=>if d.name∈L3.done then 0 else 8) hlt ha
  have hdn:=ga1.ok.done
  generalize OL[j]=x at*
  unfold zb4 at hx
  repeat' (first|refine wkt ?_|refine wka ?_|refine wkD ?_|refine wk ?_|exact wkc|intro hc|refine wk2 ?_ ?_|refine wsx ?_|refine wms ?_|refine wsy ?_ ?_|fail)
  ·exact zab.zak hlt (g2 (by rw[if_pos hc]))
  ·(repeat' (first|refine zab.panic ?_|refine wk ?_|fail))
   exact znd (by decide) (by rw[hz];simp only[orE];grind) (by rw[hz]) (lb)
 have el:=zar ha
 repeat' (first|refine wu ?_|exact wkc|intro hc|refine wk2 ?_ ?_|fail)
 refine RetK.errN (vs:=[]) ?_ rfl (Le.refl _) rfl rfl rfl rfl rfl
 rw[hz];simp only[orE];grind
theorem zeD:∀(m:Nat) (e:Ex),wEx e≤m->∀x∈flat e,x.name.length≤(exT e).w
 | 0,e,h=>by have:=zaI e;omega
 | m+1,e,h=>by
   intro x hx
   have he:(exT e).w=(T.ag (exC e)).w:=by rw[zaA]
   have h1:e.name.length+(T.sl 6 (e.args.map exT)).w≤(exT e).w:=by
    rw[he,w_ag];simp only[exC,List.map_cons,List.map_nil,List.sum_cons,List.sum_nil,w_s];omega
   rw[za2]at hx
   rcases List.mem_cons.1 hx with rfl|hx
   ·omega
   ·unfold flats at hx
    obtain⟨l,hl,hxl⟩:=List.mem_flatten.1 hx
    obtain⟨y,hy,rfl⟩:=List.mem_map.1 hl
    have:=zeD m y (by have:=zaE hy;omega) x hxl
    have:=zaC (f:=exT) (sz:=6) hy
    omega
theorem zgB{es:List En}{e:Ex}(h:zaP es e=0)(hw:(exT e).w≤1000000000):∀x∈flat e,ExOk x:=fun x hx=>
 ⟨(zc3 h x hx).v,Nat.le_trans (zeD _ e (Nat.le_refl _) x hx) hw⟩
theorem zap{a b:Int}(h:orE a b=0):a=0/\b=0:=by
 unfold orE at h;split at h
 ·exact⟨by assumption,h⟩
 ·rename_i ha;exact absurd h ha
theorem zgI{es:List En}{u:Equ}(h:equE es u=0):zaP es u.right=0:=by
 unfold equE at h
 exact(zap (zap (zap (zap h).2).2).2).1
theorem zhQ{es:List En}{n:Int}{s:Bool}{t:Tran}(h:zdY es n s t=0):zaP es t.cond=0:=by
 unfold zdY at h
 exact(zap (zap h).2).1
theorem ze9(u:Equ):(exT u.right).w≤(equT u).w:=by
 rw[zaA,w_ag,show equT u= .ag (.sl 1 (u.left.map T.s)::exC u.right) from rfl,w_ag,List.map_cons,List.sum_cons];omega
theorem zdW(t:Tran):(exT t.cond).w≤(zat t).w:=by
 rw[zaA,w_ag,show zat t= .ag (zgC t) from rfl,w_ag]
 simp only[exC,zgC,List.map_cons,List.map_nil,List.sum_cons,List.sum_nil];omega
theorem znc{es:List En}:∀(k:Nat) (a:Auto),(zaj a).w≤1000000000->zb5 es k a=0->zeo k a/\exA k a
 | 0,a,hw,h=>by simp[zb5]at h
 | k+1,a,hw,h=>by
   unfold zb5 at h
   have hst:=zau (zap (zap h).2).2
   have hwa:=zdn a
   have key:∀s∈a.states,(∀b∈s.autos,zeo k b/\exA k b)/\(∀u∈s.eqs,∀x∈flat u.right,ExOk x)/\(∀t∈s.unl,∀x∈flat t.cond,ExOk x)/\(∀t∈s.unt,∀x∈flat t.cond,ExOk x):=by
    intro s hs
    have h1:=hst s hs
    have hws:=zaC (f:=staT) (sz:=6) hs
    have hw2:=zfd s
    unfold stE at h1
    have h3:=(zap (zap (zap h1).2).2).2
    have he:=zau (zap h3).1
    have h4:=(zap h3).2
    have ha:=zau (zap h4).1
    have h5:=(zap h4).2
    have hu:=zau (zap h5).1
    have hv:=zau (zap h5).2
    refine⟨fun b hb=>znc k b (by have:=zaC (f:=zaj) (sz:=1) hb;omega) (ha b hb),fun u hu'=>zgB (zgI (he u hu')) (by have:=ze9 u;have:=zaC (f:=equT) (sz:=7) hu';omega),fun t ht=>zgB (zhQ (hu t ht)) (by have:=zdW t;have:=zaC (f:=zat) (sz:=8) ht;omega),fun t ht=>zgB (zhQ (hv t ht)) (by have:=zdW t;have:=zaC (f:=zat) (sz:=8) ht;omega)⟩
   exact⟨fun s hs b hb=>((key s hs).1 b hb).1,fun s hs=>⟨(key s hs).2.1,(key s hs).2.2.1,(key s hs).2.2.2,fun b hb=>((key s hs).1 b hb).2⟩⟩
theorem zp4{es:List En}{n:Nod}(h:(zbt es n).2=0)(hw:(nodT n).w≤100000000):ztV n:=by
 have hwn:=zdJ n
 unfold zbt at h
 have h1:zek es n=0:=Classical.byContradiction fun hh=>by rw[if_pos hh]at h;exact hh h
 rw[if_neg (by simp[h1])]at h
 have h2:zaa (equE es) n.eqs=0:=Classical.byContradiction fun hh=>by rw[if_pos hh,zbc]at h;exact hh h
 rw[if_neg (by simp[h2])]at h
 simp only at h
 unfold zgw at h
 have ha:=zau (zap h).1
 have hs:=zau (zap (zap h).2).1
 have he:=zau (zap (zap h).2).2
 have hq:=zau h2
 refine⟨hw,fun a h=>(znc 3 a (by have:=zaC (f:=zaj) (sz:=1) h;omega) (ha a h)).1,fun a h=>(znc 3 a (by have:=zaC (f:=zaj) (sz:=1) h;omega) (ha a h)).2,fun u hu=>zgB (zgI (hq u hu)) (by have:=ze9 u;have:=zaC (f:=equT) (sz:=7) hu;omega),fun e h=>zgB (hs e h) (by have:=zaC (f:=exT) (sz:=6) h;omega),fun e h=>zgB (he e h) (by have:=zaC (f:=exT) (sz:=6) h;omega)⟩
theorem zbL{p:Prog}(h:(zaR p).2=0):∀n∈p.nodes,(zbt p.enums n).2=0:=by
 unfold zaR at h
 have h1:limE p=0:=Classical.byContradiction fun hh=>by rw[if_pos hh]at h;exact hh h
 rw[if_neg (by simp[h1])]at h
 have h2:zaa zdm p.enums=0:=Classical.byContradiction fun hh=>by rw[if_pos hh]at h;exact hh h
 rw[if_neg (by simp[h2])]at h
 have h3:zaa (fun n=>(zbt p.enums n).2) p.nodes=0:=Classical.byContradiction fun hh=>by rw[if_neg hh]at h;exact hh h
 exact zau h3
def addF(seen:List (Int×Str×Int))(e:Int×Str×Int):List (Int×Str×Int)×Int:=(seen++[e],if(zay seen e.1 e.2.1).isSome=true then 7 else 0)
def zgt(u:En)(i:Int):List (Int×Str×Int):=u.tags.map fun s=>(0,s,i)
def enF(seen:List (Int×Str×Int))(x:En×Nat):List (Int×Str×Int)×Int:=zad addF seen ((2,x.1.name,(x.2:Int))::zgt x.1 x.2)
def nodF(p:Prog)(seen:List (Int×Str×Int))(x:Nod×Nat):List (Int×Str×Int)×Int:=(seen++[(1,x.1.name,(x.2:Int))],(zce p seen x.2 x.1).2)
def zeH(p:Prog):List (Int×Str×Int)->List (Nod×Nat)->Int×Int
 | _,[]=>(0,0)
 | st,x::l=>if(nodF p st x).2=0 then zeH p (nodF p st x).1 l else((x.2:Int),(zce p st x.2 x.1).1)
theorem zlT(p:Prog):∀ {l:List (Nod×Nat)} {a:List (Int×Str×Int)} {k:Nat} (hk:k<l.length),(zad (nodF p) a (l.take k)).2=0->(nodF p (zad (nodF p) a (l.take k)).1 l[k]).2≠0->zeH p a l=((l[k].2:Int),(zce p (zad (nodF p) a (l.take k)).1 l[k].2 l[k].1).1)
 | x::l,a,0,hk,h,hn=>by
   simp only[List.take_zero,zad,List.getElem_cons_zero]at hn⊢
   rw[zeH,if_neg hn]
 | x::l,a,k+1,hk,h,hn=>by
   rw[List.take_succ_cons,zad]at h
   by_cases h0:(nodF p a x).2=0
   ·rw[if_pos h0]at h
    have hn':(nodF p (zad (nodF p) (nodF p a x).1 (l.take k)).1 (l[k]'(by simpa using hk))).2≠0:=by
     rw[List.take_succ_cons,zad,if_pos h0]at hn
     simpa using hn
    rw[zeH,if_pos h0,zlT p (by simpa using hk) h hn',List.take_succ_cons,zad,if_pos h0]
    simp
   ·rw[if_neg h0]at h;exact absurd h h0
def zbx(p:Prog):(Int×Int)×Int:=
 if(zaR p).2≠0 then zaR p else
 if(zad enF [] p.enums.zipIdx).2≠0 then((-1,-1),(zad enF [] p.enums.zipIdx).2) else
 if(zad (nodF p) (zad enF [] p.enums.zipIdx).1 p.nodes.zipIdx).2=0 then((0,0),0) else(zeH p (zad enF [] p.enums.zipIdx).1 p.nodes.zipIdx,(zad (nodF p) (zad enF [] p.enums.zipIdx).1 p.nodes.zipIdx).2)
end Go.Proofs.YtcbhlhmebbkgnaaGreat
namespace Go.Proofs.YtcbhlhmebbkgnaaGreat
open Go Go.TL
attribute [local irreducible] TR TO Then zaw RetK Sound zab Kf GG zaZ
theorem zfj(n q c:Int)(a b d:SV)(Hr:Heap)(hb:zaf (Hr.length+2) Hr=true):
  zdr Tryz.prog 97 [.ref 0 0,.ref 1 0] (.cells [a,b]:: .cells [d]::Hr) (some (zcA n q c)) (fun H3=>H3= .cells [.i n,.i q]:: .cells [.i c]::Hr):=by
 refine zdr.of (tab:=tab) Tryz.func97 (by kernel_rfl) rfl rfl rfl rfl ?_
 repeat' (first|refine wu ?_|exact wkc|intro hc|refine wk2 ?_ ?_|(apply TO.zms zam;(iterate 4 exact rfl))|fail)
 refine Then.normal ?_
 repeat' (first|refine wkt ?_|fail)
 refine TR.zc5 (envF:=?envF) (HF:=.cells [.i n,.i q]:: .cells [.i c]::Hr) [(.cp [T.i n,T.i q,T.i c] 0,false),(.t (.ag [T.i n,T.i q]),false),(.cp [T.i n,T.i q,T.i c] 2,false),(.i c,false),(.any,true),(.any,true)] [.cells [a,b]:: .cells [d]::Hr,.cells [.i n,.i q]:: .cells [d]::Hr,.cells [.i n,.i q]:: .cells [.i c]::Hr] hmix ?hB ?h0 ?hp ?hF ?hE ?hK
 case hB=>(dsimp only[List.map];decide +kernel)
 case h0=>exact rfl
 case hF=>exact rfl
 case hE=>exact rfl
 case hp=>repeat' (first|refine wu ?_|exact trivial|exact And.intro rfl rfl|refine And.intro (fun H env=>?_) ?_|refine And.intro (fun env=>?_) ?_|fail)
 repeat' (first|refine wu ?_|exact wkc|intro hc|refine wk2 ?_ ?_|fail)
 have ht:(Blk.cells [.i n,.i q]::Blk.cells [.i c]::Hr).take (Blk.cells [a,b]::Blk.cells [d]::Hr).length=Blk.cells [.i n,.i q]::Blk.cells [.i c]::Hr:=by simp
 refine⟨Nat.le_refl _,?_,ht⟩
 show zaf _ (List.take _ (Blk.cells [.i n,.i q]::Blk.cells [.i c]::Hr))=true
 rw[ht]
 exact hb
theorem zne(H:Heap)(hb:zaf H.length H=true):
  zdr Tryz.prog 97 [.ref 0 0,.ref 1 0] H none (fun H3=>H3=H):=by
 refine zdr.of (tab:=tab) Tryz.func97 (by kernel_rfl) rfl rfl rfl rfl ?_
 repeat' (first|refine wu ?_|exact wkc|intro hc|refine wk2 ?_ ?_|(apply TO.zjT zam;(iterate 4 exact rfl))|fail)
 refine Then.normal ?_
 repeat' (first|refine wu ?_|exact wkc|intro hc|refine wk2 ?_ ?_|fail)
 exact⟨Nat.le_refl _,by rw[List.take_of_length_le (Nat.le_refl _)];exact hb,List.take_of_length_le (Nat.le_refl _)⟩
theorem Hands.two{G:Heap}{i j:Nat}{b c:Blk}(hij:Nat.beq i j=false)(h1:G[i]?=some (b.ren (names [i,j] G.length)))(h2:G[j]?=some (c.ren (names [i,j] G.length)))(hb:b.under 2=true)(hc:c.under 2=true):Hands G [i,j] [b,c] where
 nodup:=by
  have:i≠j:=fun e=>by rw[e]at hij;simp at hij
  simp[this]
 lt:=fun x hx=>by
  simp at hx
  rcases hx with rfl|rfl
  ·exact(List.getElem?_eq_some_iff.1 h1).1
  ·exact(List.getElem?_eq_some_iff.1 h2).1
 len:=rfl
 H:=fun a x y ha hy=>by
  match a with
  | 0=>simp at ha hy;subst ha hy;exact h1
  | 1=>simp at ha hy;subst ha hy;exact h2
  | a+2=>simp at ha
 under:=fun a y hy=>by
  match a with
  | 0=>simp at hy;subst hy;exact hb
  | 1=>simp at hy;subst hy;exact hc
  | a+2=>simp at hy
theorem we32{G Q1 Q2:Prop}{f:FuncId}{cargs:List SV}{v pv:SV}{c:Int}{Hc H1:Heap}(hs:Sound Tryz.prog f cargs Hc (Err c v pv H1))(k1:Q1)(k2:Q2)(h:Sound Tryz.prog f cargs Hc (Err c v pv H1)->Hold Q1->Hold Q2->G:=by
  intro hs k1 k2
  (apply TO.zkM [3,2] hs;(iterate 3 exact rfl);(repeat' (first|exact trivial|exact Le.refl _|refine And.intro ?_ ?_|exact Le.any _|exact Le.nil _|exact Le.own _ _ _|refine Le.tree rfl ?_|exact TLe.refl _|exact TLe.nil _|refine TLe.ags ?_|fail));exact rfl;exact Go.Proofs.YtcbhlhmebbkgnaaGreat.Hands.two rfl rfl rfl rfl rfl;(iterate 4 exact rfl);exact k1.p;exact k2.p)):G:=h hs ⟨k1⟩ ⟨k2⟩
theorem ztu{u:En}:u.name.length≤(enT u).w/\(∀s∈u.tags,s.length≤(enT u).w)/\u.tags.length≤(enT u).w:=by
 rw[enT,w_ag];simp only[List.map_cons,List.map_nil,List.sum_cons,List.sum_nil,w_s]
 refine⟨by omega,fun s hs=>?_,?_⟩
 ·have:=zaC (f:=T.s) (sz:=1) hs;rw[w_s]at this;omega
 ·have:=zaq T.s 1 u.tags;omega
theorem ztT{p:Prog}{st:List (Int×Str×Int)}(h:za4 st/\zcC p st){k v:Int}{s:Str}(hk:0≤k/\k≤2)(h1:k≠1)(hs:s.length≤1000000000)(hz:(addF st (k,s,v)).2=0):za4 (addF st (k,s,v)).1/\zcC p (addF st (k,s,v)).1:=by
 have hn:zay st k s=none:=by
  unfold addF at hz
  cases hg:zay st k s with
  | none=>rfl
  | some w=>simp[hg]at hz
 exact⟨h.1.add hk hs hn,h.2.add' h1⟩
theorem zta{p:Prog}{u:En}(ht:∀s∈u.tags,s.length≤1000000000){i:Int}{st:List (Int×Str×Int)}(h:za4 st/\zcC p st)(j:Nat)(hz:(zad addF st ((zgt u i).take j)).2=0):za4 (zad addF st ((zgt u i).take j)).1/\zcC p (zad addF st ((zgt u i).take j)).1:=by
 refine zb2 (f:=addF) (G:=fun _ st=>za4 st/\zcC p st) (w:=fun _=>0) _ (fun B a x hx h hz=>?_) 0 st h hz
 obtain⟨s,hs,rfl⟩:=List.mem_map.1 (List.mem_of_mem_take hx)
 exact ztT h (by decide) (by decide) (ht s hs) hz
theorem zsZ(st:List (Int×Str×Int))(u:En)(k:Nat):enF st (u,k)=if(addF st (2,u.name,(k:Int))).2=0 then zad addF (addF st (2,u.name,(k:Int))).1 (zgt u k) else addF st (2,u.name,(k:Int)):=rfl
theorem enOk{p:Prog}{u:En}(ht:∀s∈u.tags,s.length≤1000000000)(hn:u.name.length≤1000000000){k:Nat}{st:List (Int×Str×Int)}(h:za4 st/\zcC p st)(hz:(enF st (u,k)).2=0):za4 (enF st (u,k)).1/\zcC p (enF st (u,k)).1:=by
 rw[zsZ]at hz⊢
 split at hz
 ·rename_i h0
  rw[if_pos h0]
  have:=zta (p:=p) ht (i:=k) (ztT h (by decide) (by decide) hn h0) (zgt u k).length (by rw[List.take_length];exact hz)
  rw[List.take_length]at this
  exact this
 ·rename_i h0;exact absurd hz h0
theorem zuU{p:Prog}(ht:∀u∈p.enums,u.name.length≤1000000000/\∀s∈u.tags,s.length≤1000000000)(k:Nat)(hz:(zad enF [] (p.enums.zipIdx.take k)).2=0):za4 (zad enF [] (p.enums.zipIdx.take k)).1/\zcC p (zad enF [] (p.enums.zipIdx.take k)).1:=by
 refine zb2 (f:=enF) (G:=fun _ st=>za4 st/\zcC p st) (w:=fun _=>0) _ (fun B a x hx h hz=>?_) 0 [] ⟨za4.nil,fun s i h=>by simp[zay]at h⟩ hz
 have hm:=(List.mem_zipIdx (List.mem_of_mem_take hx)).2.2
 obtain⟨u,k⟩:=x
 have hu:u∈p.enums:=by simp only at hm;rw[hm];exact List.getElem_mem _
 exact enOk (ht u hu).2 (ht u hu).1 h hz
theorem zuu{p:Prog}(ht:∀u∈p.nodes,u.name.length≤1000000000){st:List (Int×Str×Int)}(h:za4 st/\zcC p st)(k:Nat)(hz:(zad (nodF p) st (p.nodes.zipIdx.take k)).2=0):za4 (zad (nodF p) st (p.nodes.zipIdx.take k)).1/\zcC p (zad (nodF p) st (p.nodes.zipIdx.take k)).1:=by
 refine zb2 (f:=nodF p) (G:=fun _ st=>za4 st/\zcC p st) (w:=fun _=>0) _ (fun B a x hx h hz=>?_) 0 st h hz
 have hm:=List.mem_zipIdx (List.mem_of_mem_take hx)
 obtain⟨u,k⟩:=x
 have hu:u∈p.nodes:=by have:=hm.2.2;simp only at this;rw[this];exact List.getElem_mem _
 have hk:k<p.nodes.length:=by have:=hm.2.1;simp only at this;omega
 have hn:zay a 1 u.name=none:=by
  unfold nodF zce at hz
  cases hg:zay a 1 u.name with
  | none=>rfl
  | some w=>rw[hg]at hz;simp at hz
 exact⟨h.1.add (by decide) (ht u hu) hn,h.2.add hk⟩
abbrev lk3 (p:Prog)(n q:Int):Blk:=.cells [.t (.sl 2 (p.enums.map enT)),.t (zag p.nodes),.i n,.i q,.mp 2]
theorem zkP.ret{P:Program}{n:Nat}{c:Code}{K KD:TK}{gf:FuncId}{cv:List SV}{env:_}{H:Heap}(h:K .ret env H):zkP P n c K gf cv KD .ret env H:=h
theorem zkP.normal{P:Program}{n:Nat}{c:Code}{K KD:TK}{gf:FuncId}{cv:List SV}{env:_}{H:Heap}(h:TD P n c env H K gf cv KD):zkP P n c K gf cv KD .normal env H:=h
attribute [local irreducible] TD zkP
set_option maxHeartbeats 2000000 in
theorem zmt (p:Prog) (hw:(T.ag (zav p)).w≤100000000):Pure Tryz.prog 61 [.t (.ag (zav p))] (.tup [.t (.ag [T.i (zbx p).1.1,T.i (zbx p).1.2]),.i (zbx p).2]):=by
 have l1:(T.sl 2 (p.enums.map enT)).w+(zag p.nodes).w≤(T.ag (zav p)).w:=by rw[w_ag];simp only[zav,List.map_cons,List.map_nil,List.sum_cons,List.sum_nil];omega
 have hnT:(zag p.nodes).w=(T.sl 8 (p.nodes.map nodT)).w:=rfl
 have b1:=zaq enT 2 p.enums
 have b2:=zaq nodT 8 p.nodes
 have m1:(p.enums.map enT).length=p.enums.length:=List.length_map _
 have m2:(p.nodes.map nodT).length=p.nodes.length:=List.length_map _
 have hsh:=zlO p (by omega)
 have hz:zbx p=zbx p:=rfl
 conv at hz=>rhs;unfold zbx
 generalize zbx p=z at hz⊢
 have hpc:zav p=[.sl 2 (p.enums.map enT),zag p.nodes]:=rfl
 rw[hpc]at hsh⊢
 have hsn:=zbL (p:=p)
 generalize zaR p=sx at*
 obtain⟨⟨s1,s2⟩,s3⟩:=sx
 simp only at hz hsh hsn
 refine Sound.zra zam Tryz.func61 (by kernel_rfl) rfl rfl (gf:=97) (cv:=[.ref 0 0,.ref 1 0]) ?_
 refine TD.seq ?_
 repeat' (first|refine wu ?_|fail)
 refine zkP.normal ?_
 refine TD.seq ?_
 refine wk ?_
 repeat' (first|refine wu ?_|exact wkc|intro hc|refine wk2 ?_ ?_|refine wv hsh ?_|fail)
 ·refine zkP.ret ?_
  rw[if_pos (by simpa using hc)]at hz
  subst hz
  exact wkr
 rw[if_neg (by simpa using hc)]at hz
 have hz0:s3=0:=by simpa using hc
 have hsn:=hsn hz0
 refine zkP.normal ?_
 refine TD.defer (tz:=0) rfl rfl ?_
 repeat' (first|refine wu ?_|exact wkc|intro hc|refine wk2 ?_ ?_|fail)
 have hze:p.enums.zipIdx.length=p.enums.length:=by simp
 have hzn:p.nodes.zipIdx.length=p.nodes.length:=by simp
 have hle:∀u∈p.enums,u.name.length≤1000000000/\∀s∈u.tags,s.length≤1000000000:=fun u hu=>by
  have h1:=ztu (u:=u)
  have h2:=zaC (f:=enT) (sz:=2) hu
  exact⟨by omega,fun s hs=>by have:=h1.2.1 s hs;omega⟩
 have hlt':∀u∈p.enums,u.tags.length≤1000000000:=fun u hu=>by
  have h1:=ztu (u:=u)
  have h2:=zaC (f:=enT) (sz:=2) hu
  omega
 have hln:∀u∈p.nodes,(nodT u).w≤100000000:=fun u hu=>by
  have h2:=zaC (f:=nodT) (sz:=8) hu
  omega
 refine TR.zal p.enums.length (fun k=>(zad enF [] (p.enums.zipIdx.take k)).2=0) (fun k=>[(1,.cp [.sl 2 (p.enums.map enT),zag p.nodes] 0),(2,.ref 0 0),(3,.ref 1 0),(6,.ref 3 0),(28,.t (.sl 2 (p.enums.map enT))),(29,.i (p.enums.map enT).length),(30,.i k)])
  (fun k=>[.cells [.i 0,.i 0],.cells [.i 0],zch (zad enF [] (p.enums.zipIdx.take k)).1,lk3 p (-1) (-1)]) rfl (fun k hlt ha=>?_) (fun ha=>?_)
 ·have hx:(p.enums.map enT)[k]?=some (.ag [.s p.enums[k].name,.sl 1 (p.enums[k].tags.map T.s)]):=zaX enT hlt
  have g1:=zbl (f:=enF) (by rw[hze];exact hlt) ha
  have g2:=zaN (f:=enF) (by rw[hze];exact hlt) ha
  have hok:=zuU (p:=p) hle k ha
  have hzi:p.enums.zipIdx[k]'(by rw[hze];exact hlt)=(p.enums[k],k):=by simp
  rw[hzi]at g1 g2
  have hnm:=hle _ (List.getElem_mem hlt)
  have htl:=hlt' _ (List.getElem_mem hlt)
  generalize (zad enF [] (p.enums.zipIdx.take k)).1=st at*
  generalize p.enums[k]=u at*
  have hmt:(u.tags.map T.s).length=u.tags.length:=List.length_map _
  have hs:Sound Tryz.prog 98 [.ref 0 0,.t (.ag [.i 2,.s u.name]),.i k] [lkB p (-1) (-1),zch st] (Err (addF st (2,u.name,(k:Int))).2 (.tup []) (zcA (-1) (-1) (addF st (2,u.name,(k:Int))).2) [lkB p (-1) (-1),zch (addF st (2,u.name,(k:Int))).1]):=ziV p (-1) (-1) st hok.1 2 k (by decide) u.name hnm.1
  have hok1:=fun hz=>ztT (p:=p) hok (k:=2) (v:=k) (by decide) (by decide) hnm.1 hz
  rw[zsZ]at g1 g2
  generalize addF st (2,u.name,(k:Int))=a1 at*
  clear ha hle hlt' hln hsn
  repeat' (first|refine wkt ?_|refine wka ?_|refine wk ?_|exact wkc|intro hc|refine wk2 ?_ ?_|refine we32 hs ?_ ?_|fail)
  ·rw[if_pos hc]at g1 g2
   have hok2:=hok1 hc
   clear hs
   have hzt:(zgt u k).length=u.tags.length:=List.length_map _
   refine TR.zal u.tags.length (fun j=>(zad addF a1.1 ((zgt u k).take j)).2=0) (fun j=>[(1,.cp [.sl 2 (p.enums.map enT),zag p.nodes] 0),(2,.ref 0 0),(3,.ref 1 0),(6,.ref 3 0),(28,.t (.sl 2 (p.enums.map enT))),(29,.i (p.enums.map enT).length),(30,.i k),(7,.i k),(42,.t (.sl 1 (u.tags.map T.s))),(43,.i (u.tags.map T.s).length),(44,.i j)])
    (fun j=>[.cells [.i 0,.i 0],.cells [.i 0],zch (zad addF a1.1 ((zgt u k).take j)).1,lk3 p (-1) (-1)]) rfl (fun j hlj ha=>?_) (fun ha=>?_)
   ·have hx2:(u.tags.map T.s)[j]?=some (.s u.tags[j]):=zaX T.s hlj
    have r1:=zbl (f:=addF) (by rw[hzt];exact hlj) ha
    have r2:=zaN (f:=addF) (by rw[hzt];exact hlj) ha
    have hok3:=zta (p:=p) hnm.2 hok2 j ha
    have hzi2:(zgt u k)[j]'(by rw[hzt];exact hlj)=(0,u.tags[j],(k:Int)):=by simp[zgt]
    rw[hzi2]at r1 r2
    have hsm:=hnm.2 _ (List.getElem_mem hlj)
    generalize (zad addF a1.1 ((zgt u k).take j)).1=st2 at*
    generalize u.tags[j]=tg at*
    have hs:Sound Tryz.prog 98 [.ref 0 0,.t (.ag [.i 0,.s tg]),.i k] [lkB p (-1) (-1),zch st2] (Err (addF st2 (0,tg,(k:Int))).2 (.tup []) (zcA (-1) (-1) (addF st2 (0,tg,(k:Int))).2) [lkB p (-1) (-1),zch (addF st2 (0,tg,(k:Int))).1]):=ziV p (-1) (-1) st2 hok3.1 0 k (by decide) tg hsm
    generalize addF st2 (0,tg,(k:Int))=a2 at*
    clear hok1 hok3 hok2
    repeat' (first|refine wkt ?_|refine wka ?_|refine wk ?_|exact wkc|intro hc|refine wk2 ?_ ?_|refine we32 hs ?_ ?_|fail)
    ·refine zab.zak hlj (by rw[r2];exact hc) ?_ (by rw[r2];rfl)
     repeat' (first|exact trivial|refine And.intro rfl ?_|fail)
    ·rw[r1 hc]at g1
     rw[if_pos (by rw[g1 hc];exact hc),g1 hc]at hz
     subst hz
     repeat' (first|refine zab.panic ?_|refine wk ?_|fail)
     exact⟨_,zfj _ _ _ _ _ _ _ rfl,fun H3 h=>by subst h;exact wkr⟩
   rw[show u.tags.length=(zgt u k).length from hzt.symm,List.take_length]at ha
   rw[show u.tags.length=(zgt u k).length from hzt.symm,List.take_length]
   clear hok1
   refine wk ?_
   repeat' (first|refine wu ?_|exact wkc|intro hc|refine wk2 ?_ ?_|fail)
   refine zab.zak hlt (by rw[g2];exact ha) ?_ (by rw[g2])
   repeat' (first|exact trivial|refine And.intro rfl ?_|fail)
  ·rw[if_neg hc]at g1
   rw[if_pos (by rw[g1 hc];exact hc),g1 hc]at hz
   subst hz
   repeat' (first|refine zab.panic ?_|refine wk ?_|fail)
   exact⟨_,zfj _ _ _ _ _ _ _ rfl,fun H3 h=>by subst h;exact wkr⟩
 have hok:=zuU (p:=p) hle _ ha
 rw[<-hze,List.take_length]at ha hok
 rw[<-hze,List.take_length]
 rw[if_neg (by simp[ha])]at hz
 generalize (zad enF [] p.enums.zipIdx).1=st0 at*
 refine wk ?_
 repeat' (first|refine wu ?_|exact wkc|intro hc|refine wk2 ?_ ?_|fail)
 have hp:zhg p:=⟨by omega,fun u hu=>by
  have h1:=hln u hu
  have h2:=zdJ u
  have h3:=zaq zah 3 u.ins
  have h4:=zaq zah 3 u.outs
  have d1:(zac u.ins).w=(T.sl 3 (u.ins.map zah)).w:=rfl
  have d2:(zac u.outs).w=(T.sl 3 (u.outs.map zah)).w:=rfl
  omega⟩
 have hnn:∀u∈p.nodes,u.name.length≤1000000000:=fun u hu=>by
  have h1:=hln u hu
  have:u.name.length≤(nodT u).w:=by
   rw[show nodT u= .ag (nodC u) from rfl,w_ag]
   simp only[nodC,List.map_cons,List.map_nil,List.sum_cons,List.sum_nil,w_s];omega
  omega
 have hno:∀(a b:Int) (st:List (Int×Str×Int)) (k:Nat) (hk:k<p.nodes.length),za4 st->zcC p st->Sound Tryz.prog 99 [.ref 0 0,.i k] [lkB p a b,zch st] (Err (nodF p st (p.nodes[k],k)).2 (.tup []) (zcA k (zce p st k p.nodes[k]).1 (nodF p st (p.nodes[k],k)).2) [lkB p k (-1),zch (nodF p st (p.nodes[k],k)).1]):=fun a b st k hk h1 h2=>
  zo9 p hp a b st h1 h2 k hk p.nodes[k] (List.getElem?_eq_getElem hk) (zp4 (hsn _ (List.getElem_mem hk)) (hln _ (List.getElem_mem hk)))
 clear hle hlt' hsh hsn
 refine TR.zal p.nodes.length (fun k=>(zad (nodF p) st0 (p.nodes.zipIdx.take k)).2=0) (fun k=>[(2,.ref 0 0),(3,.ref 1 0),(6,.ref 3 0),(56,.t (zag p.nodes)),(57,.i (p.nodes.map nodT).length),(58,.i k)])
  (fun k=>[.cells [.i 0,.i 0],.cells [.i 0],zch (zad (nodF p) st0 (p.nodes.zipIdx.take k)).1,lk3 p ((k:Int)-1) (-1)]) rfl (fun k hlt ha=>?_) (fun ha=>?_)
 ·have g1:=zbl (f:=nodF p) (by rw[hzn];exact hlt) ha
  have g2:=zaN (f:=nodF p) (by rw[hzn];exact hlt) ha
  have g3:=zlT p (by rw[hzn];exact hlt) ha
  have hok2:=zuu (p:=p) hnn hok k ha
  have hzi:p.nodes.zipIdx[k]'(by rw[hzn];exact hlt)=(p.nodes[k],k):=by simp
  rw[hzi]at g1 g2 g3
  generalize (zad (nodF p) st0 (p.nodes.zipIdx.take k)).1=st at*
  have hs:=hno ((k:Int)-1) (-1) st k hlt hok2.1 hok2.2
  generalize nodF p st (p.nodes[k],k)=a1 at*
  generalize zce p st k p.nodes[k]=a2 at*
  clear hno hok2
  repeat' (first|refine wkt ?_|refine wka ?_|refine wk ?_|exact wkc|intro hc|refine wk2 ?_ ?_|refine we32 hs ?_ ?_|fail)
  ·refine zab.zak hlt (by rw[g2];exact hc) ?_ (by rw[g2,show((k+1:Nat):Int)-1=k from by omega];rfl)
   repeat' (first|exact trivial|refine And.intro rfl ?_|fail)
  ·rw[if_neg (by rw[g1 hc];exact hc),g1 hc,g3 hc]at hz
   subst hz
   repeat' (first|refine zab.panic ?_|refine wk ?_|fail)
   exact⟨_,zfj _ _ _ _ _ _ _ rfl,fun H3 h=>by subst h;exact wkr⟩
 rw[<-hzn,List.take_length]at ha
 rw[if_pos ha]at hz
 subst hz
 refine wk ?_
 repeat' (first|refine wu ?_|exact wkc|intro hc|refine wk2 ?_ ?_|fail)
 exact⟨_,zne _ rfl,fun H3 h=>by subst h;exact wkr⟩
end Go.Proofs.YtcbhlhmebbkgnaaGreat
