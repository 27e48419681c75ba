import Derived.Test.YtddaclniamlmbaaGreatDoorPk32
set_option linter.unusedSimpArgs false
set_option linter.unusedVariables false
namespace Go.Proofs.YtddaclniamlmbaaGreatDoor
open Go Go.TL
attribute [local irreducible] TR TO Then InBlock RetK Sound LoopK Kf GG ThenL
def exA:Nat->Auto->Prop
 | 0,_=>True
 | k+1,a=>∀s∈a.states,(∀u∈s.eqs,∀x∈flat u.right,ExOk x)/\(∀t∈s.unl,∀x∈flat t.cond,ExOk x)/\(∀t∈s.unt,∀x∈flat t.cond,ExOk x)/\∀b∈s.autos,exA k b
section
variable (p:Prog)(hp:SmallC p)(n q:Int)(seen:List (Int×Str×Int))(hse:SeenOk seen)(hsn:SeenN p seen)(node:Int)
include hp hse hsn
theorem auc:∀(k:Nat) (h:Ch) (hin:h.N+4*k=19) (hk:h.ok) (hd:h.top.defs.length≤1000000000) (au:Auto) (hw:(autoT au).w≤1000000000) (hn:nestOk k au) (hx:exA k au),
  SS 141 [.i node,.ref h.id 0,.t (.ag (autoC au))] p n q seen h (h.set (autoS p seen node k h.vis0 h.low h.top au).1) (autoS p seen node k h.vis0 h.low h.top au).2
 | 0,h,hin,hk,hd,au,hw,hn,hx=>hn.elim
 | k+1,h,hin,hk,hd,au,hw,hn,hx=>by
   have hws:∀s∈au.states,(staT s).w≤1000000000:=fun s hs=>by have:=w_inM (f:=staT) (sz:=6) hs;have:=w_auto au;omega
   have hwa:∀s∈au.states,∀bb∈s.autos,(autoT bb).w≤1000000000:=fun s hs bb hb=>by have:=w_inM (f:=autoT) (sz:=1) hb;have:=w_sta s;have:=hws s hs;omega
   have hgd:=fun s (hs:s∈au.states) own B tt bb (hb:bb∈s.autos)=>auto_good (p:=p) (seen:=seen) (node:=node) k (vis0:=h.vis) (low:=h.low++h.top.done) (own:=own) (B:=B) (t:=tt) (a:=bb) (hwa s hs bb hb)
   refine au_sound p n q seen node h (by omega) hk hd (autoS p seen node k) au hw (fun s hs=>?_) (fun s hs hz=>?_)
   ·refine st_sound p hp n q seen hse hsn node h (by omega) (by omega) hk (autoS p seen node k) s (hws s hs) (hgd s hs) (fun bb hb x hxo hxd hxs=>?_) (hx s hs).1 (hx s hs).2.1 (hx s hs).2.2.1
    have ih:=fun h1 h2 h3=>auc k (h.push x) h1 h2 h3 bb (hwa s hs bb hb) (hn s hs bb hb) ((hx s hs).2.2.2 bb hb)
    cases h
    case one=>simp[Ch.N]at hin;omega
    case c1=>exact ih (by simp[Ch.N,Ch.push]at *;omega) ⟨hk.1,hk.2,hxo⟩ hxd
    case c2=>exact ih (by simp[Ch.N,Ch.push]at *;omega) ⟨hk.1,hk.2.1,hk.2.2,hxo⟩ hxd
    case c3=>exact ih (by simp[Ch.N,Ch.push]at *;omega) ⟨hk.1,hk.2.1,hk.2.2.1,hk.2.2.2,hxo⟩ hxd
    case c4=>simp[Ch.N]at hin
   ·have:=st_good (F:=autoS p seen node k) (hws s hs) (hgd s hs) hz
    have h2:=hws s hs
    exact⟨by omega,this.2⟩
end
section
variable {n:Nat}{env:Env}{K:TK}{all:Array Oper}{rest:List Oper}{d:Nat}{ty:TypeId}{pos:String}{aft:Array Edge}{H:Heap}{args:Array Operand}{ts:Array TypeId}
theorem TO.concatV{ls:List (List Decl)}(hl:ls.length≤1000000)(hn:ls.flatten.length≤3000000000)(hd:Nat.ble (d+1) n=true)(ha:env.vals args.toList=some [.t (.sl 1 (ls.map dls))])
  (k:TO false Tryz.prog n all rest ((d,.t (dls ls.flatten))::env) (H++[.dead]) K):
  TO false Tryz.prog n all (⟨some d,.call { callee:=.value (.func 85),args:=args,argTypes:=ts },ty,pos,aft,none⟩::rest) env H K:=by
 by_cases h0:ls.flatten=[]
 ·refine TO.callV (concat0_sound ls hl h0) hd rfl ha (Les.refl _) rfl rfl ?_
  refine TO.less d (v':=.t (dls [])) (by rw[Env.look_cons_same]) (Le.nil 3) ?_
  refine TO.shadow (TO.addDead ?_)
  rw[h0]at k;exact k
 ·have h1:1≤ls.flatten.length:=by
   cases hv:ls.flatten with
   | nil=>exact absurd hv h0
   | cons a l=>simp
  have hc:=concat_sound ls hl hn h1
  generalize ls.flatten=L at*
  have hcl:(declCs L).length=L.length*3:=declCs_len L
  refine TO.callMs (tl:=declCs L) hc hd rfl ha (Les.refl _) rfl ?_
  refine TO.freezeP d 3 H.length L.length (cs:=(declCs L).map .t) (es:=L.map declT) (by rw[Env.look_cons_same]) (by simp) (by simp[hcl]) (fun j c hj=>hj) (by simp) (fun e he=>by obtain⟨x,_,rfl⟩:=List.mem_map.1 he;rfl) rfl rfl ?_
  refine TO.shadow ?_
  rw[show(H++[Blk.cells ((declCs L).map SV.t)]).set H.length .dead=H++[.dead] from by rw[List.set_append_right _ _ (Nat.le_refl _),Nat.sub_self];rfl]
  exact k
end
def seeL(L:List Decl):Lv:=⟨(L.map Decl.name).foldl ins [],[],[]⟩
def claimE(p:Prog)(seen:List (Int×Str×Int))(node:Int)(L:List Decl)(l:List Ex):Int:=firstE (exprS p seen node (seeL L).own 1) l
theorem claims_sound(p:Prog)(hp:SmallC p)(n q:Int)(seen:List (Int×Str×Int))(hse:SeenOk seen)(hsn:SeenN p seen)(node:Int)(l:List Ex)(ls:List (List Decl))(hl:ls.length≤1000000)(hwl:(dls ls.flatten).w≤1000000000)(hw:(T.sl 6 (l.map exT)).w≤1000000000)(hex:∀e∈l,∀x∈flat e,ExOk x):
  Sound Tryz.prog 142 [.ref 0 0,.i node,.t (.sl 6 (l.map exT)),.t (.sl 1 (ls.map dls))] [lkB p n q,seenB seen] (Err (claimE p seen node ls.flatten l) (.tup []) (failS n q (claimE p seen node ls.flatten l)) [lkB p n q,seenB seen]):=by
 have hfl:ls.flatten.length≤1000000000:=by have:=w_lenM declT 3 ls.flatten;have:(dls ls.flatten).w=(T.sl 3 (ls.flatten.map declT)).w:=rfl;omega
 have hex2:l.length≤1000000000:=by have:=w_lenM exT 6 l;omega
 have hm1:(ls.flatten.map declT).length=ls.flatten.length:=List.length_map _
 have hm2:(l.map exT).length=l.length:=List.length_map _
 unfold claimE
 refine Sound.err rfl (fun _=>rfl) ?_
 refine so Tryz.func142 ?_
 refine TR.dead ?_
 repeat' (first|refine wu ?_|(apply TO.callW (inner_nil p n q seen);exact rfl;exact rfl;exact rfl;exact Les.refl _)|(apply TO.concatV hl (by omega);exact rfl;exact rfl)|fail)
 generalize ls.flatten=L at*
 have hnm:∀x∈L,x.name.length≤1000000000:=fun x hx=>by have:=(name_decl hx).1;have:(dls L).w=(declsT L).w:=rfl;omega
 have hins:∀k,SetOk (((L.take k).map Decl.name).foldl ins []):=by
  have:∀(l:List Decl) (d:List Str),SetOk d->(∀x∈l,x.name.length≤1000000000)->SetOk ((l.map Decl.name).foldl ins d):=by
   intro l
   induction l with
   | nil=>intro d hd _;exact hd
   | cons y l ih=>intro d hd hl;exact ih _ (hd.ins (hl y (by simp))) (fun x hx=>hl x (by simp[hx]))
  exact fun k=>this _ [] SetOk.nil (fun x hx=>hnm x (List.mem_of_mem_take hx))
 refine TR.loopN L.length (fun _=>True) (fun k=>[(0,.ref 0 0),(1,.i node),(2,.t (.sl 6 (l.map exT))),(8,.ref 4 0),(15,.t (dls L)),(16,.i (L.map declT).length),(17,.i k)]) (fun k=>full p n q seen (.one (seeL (L.take k)))++[.dead]) trivial (fun k hlt _=>?_) (fun _=>?_)
 ·have hx:=at_decl hlt
  have hno:=hnm _ (List.getElem_mem hlt)
  have hdn:=hins k
  have g2:seeL (L.take (k+1))=⟨ins ((L.take k).map Decl.name |>.foldl ins []) L[k].name,[],[]⟩:=by
   unfold seeL;rw[List.take_succ_eq_append_getElem hlt,List.map_append,List.foldl_append];rfl
  have g1:seeL (L.take k)=⟨((L.take k).map Decl.name).foldl ins [],[],[]⟩:=rfl
  rw[g1]
  generalize ((L.take k).map Decl.name).foldl ins []=dn at*
  generalize L[k]=x at*
  unfold declC at hx
  repeat' (first|refine wkt ?_|refine wka ?_|refine wkD ?_|refine wk ?_|exact wkc|intro hc|refine wk2 ?_ ?_|refine wsx ?_|refine wms ?_|refine wsy ?_ ?_|fail|fail)
  refine LoopK.nextN hlt trivial ?_ (by rw[g2];rfl)
  repeat' (first|exact trivial|refine And.intro rfl ?_|fail)
 have hk:(Ch.one (seeL L)).ok:=by
  have:=hins L.length
  rw[List.take_length]at this
  exact⟨this,SetOk.nil⟩
 rw[List.take_length]
 have hvis:Ch.vis (.one (seeL L))=(seeL L).own:=rfl
 generalize seeL L=A at*
 refine wk ?_
 repeat' (first|refine wu ?_|exact wkc|intro hc|refine wk2 ?_ ?_|fail)
 refine TR.loopN l.length (fun k=>firstE (exprS p seen node A.own 1) (l.take k)=0) (fun k=>[(0,.ref 0 0),(1,.i node),(8,.ref 4 0),(28,.t (.sl 6 (l.map exT))),(29,.i (l.map exT).length),(30,.i k)]) (fun k=>full p n q seen (.one A)++[.dead]) rfl (fun k hlt ha=>?_) (fun ha=>?_)
 ·have hx:=at_exT hlt
  have g1:=firstE_at (f:=exprS p seen node A.own 1) hlt ha
  have g2:=firstE_next (f:=exprS p seen node A.own 1) hlt ha
  have hwx:wEx l[k]≤1000000000:=by have:=wEx_le l[k];have:=w_inM (f:=exT) (sz:=6) (List.getElem_mem hlt);omega
  have hs:=expr_sound p hp n q seen hse hsn node 1 (.one A) hk l[k] hwx (hex _ (List.getElem_mem hlt))
  rw[hvis]at hs
  generalize l[k]=x at*
  generalize exprS p seen node A.own 1 x=z at*
  unfold exC at hx hs
  repeat' (first|refine wkt ?_|refine wka ?_|refine wkD ?_|refine wk ?_|exact wkc|intro hc|refine wk2 ?_ ?_|refine wsx ?_|refine wms ?_|refine wsy ?_ ?_|refine wss hs ?_ ?_|fail)
  ·exact LoopK.nextN hlt (g2 hc)
  ·((repeat' (first|refine LoopK.panic ?_|refine wk ?_|fail));apply retS;(first|assumption|decide);(clear hx hs;first|grind|grind [orE]);(first|exact Nat.le_of_ble_eq_true rfl|exact Nat.le_refl _|(simp[Ch.len];done)|(simp[Ch.len];omega)))
 ·have e1:=firstE_all ha
  refine wk ?_
  repeat' (first|refine wu ?_|exact wkc|intro hc|refine wk2 ?_ ?_|fail)
  exact retSN e1 rfl rfl rfl rfl
theorem add_sound(p:Prog)(n q:Int)(seen:List (Int×Str×Int))(hse:SeenOk seen)(k v:Int)(hkk:0≤k/\k≤2)(nm:Str)(hno:nm.length≤1000000000):
  Sound Tryz.prog 67 [.ref 0 0,.t (.ag [.i k,.s nm]),.i v] [lkB p n q,seenB seen] (Err (if(seenGet seen k nm).isSome=true then 7 else 0) (.tup []) (failS n q (if(seenGet seen k nm).isSome=true then 7 else 0)) [lkB p n q,seenB (seen++[(k,nm,v)])]):=by
 cases hg:seenGet seen k nm with
 | none=>
   refine Sound.err rfl (fun _=>rfl) ?_
   refine so Tryz.func67 ?_
   refine TR.dead ?_
   repeat' (first|refine wkt ?_|refine wka ?_|refine wkD ?_|refine wk ?_|exact wkc|intro hc|refine wk2 ?_ ?_|refine wsx ?_|refine wms ?_|refine wsy ?_ ?_|(apply TO.seenNo;exact rfl;exact rfl;exact rfl;exact rfl;assumption;assumption;assumption;assumption)|(apply TO.seenPut;exact rfl;exact rfl;exact rfl;exact rfl;assumption;assumption;assumption;assumption;exact rfl)|fail)
   exact retSN rfl rfl rfl rfl rfl
 | some w=>
   refine Sound.err rfl (fun _=>rfl) ?_
   refine so Tryz.func67 ?_
   refine TR.dead ?_
   repeat' (first|refine wkt ?_|refine wka ?_|refine wkD ?_|refine wk ?_|exact wkc|intro hc|refine wk2 ?_ ?_|refine wsx ?_|refine wms ?_|refine wsy ?_ ?_|(apply TO.seenS;exact rfl;exact rfl;exact rfl;exact rfl;assumption;assumption;assumption;assumption)|fail)
   (apply retB;decide;rfl;exact rfl)
def foldN{α β:Type}(f:β->α->β×Int):β->List α->Int
 | _,[]=>0
 | a,x::l=>if(f a x).2=0 then foldN f (f a x).1 l+1 else 0
theorem foldN_at{α β:Type}{f:β->α->β×Int}:∀ {l:List α} {a:β} {k:Nat} (hk:k<l.length),(foldS f a (l.take k)).2=0->(f (foldS f a (l.take k)).1 l[k]).2≠0->foldN f a l=k
 | x::l,a,0,hk,h,hn=>by
   simp only[List.take_zero,foldS,List.getElem_cons_zero]at hn
   rw[foldN,if_neg hn];rfl
 | x::l,a,k+1,hk,h,hn=>by
   rw[List.take_succ_cons,foldS]at h
   by_cases h0:(f a x).2=0
   ·rw[if_pos h0]at h
    have hn':(f (foldS f (f a x).1 (l.take k)).1 (l[k]'(by simpa using hk))).2≠0:=by
     rw[List.take_succ_cons,foldS,if_pos h0]at hn
     simpa using hn
    rw[foldN,if_pos h0,foldN_at (by simpa using hk) h hn']
    omega
   ·rw[if_neg h0]at h;exact absurd h h0
def nodeS(p:Prog)(seen:List (Int×Str×Int))(i:Int)(n:Nod):Int×Int:=
 let inp:=(n.ins.map Decl.name).foldl ins []
 let r1:=declS seen [] lv0 (varsL n)
 let r2:=foldS (equS p seen i [] inp) r1.1 n.eqs
 let r3:=foldS (autoS p seen i 3 [] inp) r2.1 n.autos
 if r1.2≠0 then(-1,r1.2) else if samplE r1.1.own n.locals≠0 then(-1,samplE r1.1.own n.locals) else if r2.2≠0 then(foldN (equS p seen i [] inp) r1.1 n.eqs,r2.2) else
 (-1,orE r3.2 (orE (claimE p seen i n.ins n.assume) (orE (claimE p seen i (n.ins++n.outs) n.ensure) (firstE (fun d:Decl=>if d.name∈r3.1.done then 0 else 8) (n.outs++n.locals)))))
def nodeT'(p:Prog)(seen:List (Int×Str×Int))(i:Int)(n:Nod):Int×Int:=
 if(seenGet seen 1 n.name).isSome=true then(-1,7) else nodeS p (seen++[(1,n.name,i)]) i n
structure NodOk (n:Nod):Prop where
 w:(nodT n).w≤100000000
 nest:∀a∈n.autos,nestOk 3 a
 exA:∀a∈n.autos,exA 3 a
 eqs:∀u∈n.eqs,∀x∈flat u.right,ExOk x
 assume:∀e∈n.assume,∀x∈flat e,ExOk x
 ensure:∀e∈n.ensure,∀x∈flat e,ExOk x
theorem retSQ{rs:List ResultVar}{env:Env}{H H1:Heap}{n q q' c c':Int}{N:Nat}{v:SV}(h0:c'≠0)(hc:c'=c)(hq:q'=q)(hN:N≤H.length):
  DeadK (RetK tab rs N (Err0 c v (failS n q c) H1 N)) (.panic (failS n q' c')) env H:=by subst hq;exact retS h0 hc hN
theorem w_decls_append(a b:List Decl):(declsT (a++b)).w≤(declsT a).w+(declsT b).w:=by
 have e:∀l:List Decl,(declsT l).w=1+((l.map declT).map T.w).sum:=fun l=>w_sl 3 _
 rw[e,e,e,List.map_append,List.map_append,List.sum_append];omega
theorem seenGet_add(l:List (Int×Str×Int))(k:Int)(s:Str)(v:Int)(j:Int)(x:Str):seenGet (l++[(k,s,v)]) j x=if(seenGet l j x).isSome=true then seenGet l j x else if k=j/\s=x then some v else none:=by
 unfold seenGet
 rw[List.find?_append]
 cases h:l.find? (fun e=>decide (e.1=j/\e.2.1=x)) with
 | some e=>simp
 | none=>
   by_cases hk:k=j/\s=x
   ·simp[List.find?,hk]
   ·simp only[List.find?,Option.none_or,Option.map_none]
    rw[decide_eq_false hk]
    simp[hk]
theorem SeenN.add{p:Prog}{seen:List (Int×Str×Int)}(h:SeenN p seen){s:Str}{k:Nat}(hk:k<p.nodes.length):SeenN p (seen++[(1,s,(k:Int))]):=by
 intro x i hx
 rw[seenGet_add]at hx
 split at hx
 ·exact h x i hx
 ·split at hx
  ·cases hx;omega
  ·cases hx
theorem SeenN.add'{p:Prog}{seen:List (Int×Str×Int)}(h:SeenN p seen){s:Str}{j v:Int}(hj:j≠1):SeenN p (seen++[(j,s,v)]):=by
 intro x i hx
 rw[seenGet_add]at hx
 split at hx
 ·exact h x i hx
 ·split at hx
  ·rename_i hh;exact absurd hh.1 hj
  ·cases hx
set_option maxHeartbeats 2000000 in
theorem node_sound (p:Prog) (hp:SmallC p) (a b:Int) (seen:List (Int×Str×Int)) (hse0:SeenOk seen) (hsn0:SeenN p seen) (k:Nat) (hk:k<p.nodes.length) (n:Nod) (hnk:p.nodes[k]?=some n) (hn:NodOk n):
  Sound Tryz.prog 68 [.ref 0 0,.i k] [lkB p a b,seenB seen] (Err (nodeT' p seen k n).2 (.tup []) (failS k (nodeT' p seen k n).1 (nodeT' p seen k n).2) [lkB p k (-1),seenB (seen++[(1,n.name,(k:Int))])]):=by
 have hml:(p.nodes.map nodT).length=p.nodes.length:=List.length_map _
 have hat:(p.nodes.map nodT)[k]?=some (.ag (nodC n)):=by rw[List.getElem?_map,hnk];rfl
 have hpl:=hp.nodes
 have hwn:=w_nod n
 have hw:=hn.w
 have hno:n.name.length≤1000000000:=by
  have:n.name.length≤(nodT n).w:=by
   rw[show nodT n= .ag (nodC n) from rfl,w_ag]
   simp only[nodC,List.map_cons,List.map_nil,List.sum_cons,List.sum_nil,w_s];omega
  omega
 have hadd:=add_sound p k (-1) seen hse0 1 k (by decide) n.name hno
 have hz:nodeT' p seen k n=nodeT' p seen k n:=rfl
 conv at hz=>rhs;unfold nodeT'
 generalize nodeT' p seen k n=z at hz⊢
 by_cases hg:(seenGet seen 1 n.name).isSome=true
 ·rw[if_pos hg]at hz hadd
  subst hz
  unfold nodC at hat
  refine Sound.err rfl (fun _=>rfl) ?_
  refine so Tryz.func68 ?_
  refine TR.dead ?_
  repeat' (first|refine wu ?_|exact wkc|intro hc|refine wk2 ?_ ?_|refine we hadd ?_ ?_|fail)
  exact retSQ (by decide) rfl rfl (Nat.le_of_ble_eq_true rfl)
 rw[if_neg hg]at hz hadd
 have hgn:seenGet seen 1 n.name=none:=by
  cases h:seenGet seen 1 n.name with
  | none=>rfl
  | some w=>rw[h]at hg;exact absurd rfl hg
 have hse:=hse0.add (v:=(k:Int)) (by decide) hno hgn
 have hsn:=hsn0.add (s:=n.name) hk
 clear hse0 hsn0 hg hgn
 generalize hsq:seen++[(1,n.name,(k:Int))]=sq at*
 have l1:=w_lenM declT 3 n.ins
 have l2:=w_lenM declT 3 n.outs
 have l3:=w_lenM declT 3 n.locals
 have l4:=w_lenM equT 7 n.eqs
 have l5:=w_lenM autoT 1 n.autos
 have d1:(declsT n.ins).w=(T.sl 3 (n.ins.map declT)).w:=rfl
 have d2:(declsT n.outs).w=(T.sl 3 (n.outs.map declT)).w:=rfl
 have d3:(declsT n.locals).w=(T.sl 3 (n.locals.map declT)).w:=rfl
 have m1:(n.ins.map declT).length=n.ins.length:=List.length_map _
 have m4:(n.eqs.map equT).length=n.eqs.length:=List.length_map _
 have m5:(n.autos.map autoT).length=n.autos.length:=List.length_map _
 have e4:(declsT ([]:List Decl)).w=1:=by rw[w_sl];rfl
 have hvw:(declsT (varsL n)).w≤100000002:=by
  have e1:=w_decls_append n.ins (n.outs++(n.locals++[]))
  have e2:=w_decls_append n.outs (n.locals++[])
  have e3:=w_decls_append n.locals []
  unfold varsL;omega
 have hv:=vars_sound n ⟨by omega,by omega,by omega⟩ (fun d hd=>by
  have h1:=(name_decl hd).2
  have h2:=w_lenM onT 3 d.clock
  omega)
 have hde:=declare_sound p k (-1) sq hse (.c1 [] lv0) ⟨SetOk.nil,SetOk.nil,SetOk.nil⟩ (varsL n) (by omega)
 simp only[Ch.vis0,Ch.top,Ch.set,Ch.id]at hde
 unfold nodeS at hz
 simp only at hz
 generalize hV:varsL n=V at*
 generalize hr1:declS sq [] lv0 V=R1 at*
 unfold nodC at hat hv
 refine Sound.err rfl (fun _=>rfl) ?_
 refine so Tryz.func68 ?_
 refine TR.dead ?_
 repeat' (first|refine wkt ?_|refine we hadd ?_ ?_|(apply TO.callW (inner_nil p k (-1) sq);exact rfl;exact rfl;exact rfl;exact Les.refl _;apply TO.row_cell 9 4 4;exact rfl;exact rfl;exact rfl)|refine wk ?_|intro hc|refine wv hv ?_|refine wss hde ?_ ?_|fail)
 all_goals first
  | exact absurd rfl hc
  | exact retSQ hc (by rw[hz,if_pos hc]) (by rw[hz,if_pos hc]) (Nat.le_of_ble_eq_true rfl)
  | skip
 rw[if_neg (by simp[hc])]at hz
 have hR1z:=hc
 have G1:R1.1.ok/\R1.1.defs=[]:=by
  have:=fold_goodM (f:=declF sq []) (G:=fun(B:Nat) (a:Lv)=>a.ok/\a.defs=[]) (w:=fun _=>0) V (fun B a x hx h _=>⟨h.1.addOwn (by have:=(name_decl hx).1;omega),h.2⟩) 0 lv0 ⟨⟨SetOk.nil,SetOk.nil⟩,rfl⟩ (by rw[<-hr1]at hR1z;exact hR1z)
  rw[<-hr1];exact this
 clear hde hr1
 obtain⟨L1,R1e⟩:=R1
 simp only at hz G1 hR1z
 have hsm:=sampl_sound p k (-1) sq (.c1 [] L1) ⟨SetOk.nil,G1.1⟩ n.locals (by omega)
 simp only[Ch.vis,Ch.vis0,Ch.top,Ch.id,List.nil_append]at hsm
 repeat' (first|refine wkt ?_|refine wka ?_|refine wkD ?_|refine wk ?_|exact wkc|intro hc|refine wk2 ?_ ?_|refine wsx ?_|refine wms ?_|refine wsy ?_ ?_|refine wss hsm ?_ ?_|fail)
 all_goals first
  | exact retSQ hc (by rw[hz,if_pos hc]) (by rw[hz,if_pos hc]) (Nat.le_of_ble_eq_true rfl)
  | skip
 rw[if_neg (by simp[hc])]at hz
 clear hsm
 have hins:∀j,SetOk (((n.ins.take j).map Decl.name).foldl ins []):=by
  have:∀(l:List Decl) (d:List Str),SetOk d->(∀x∈l,x.name.length≤1000000000)->SetOk ((l.map Decl.name).foldl ins d):=by
   intro l
   induction l with
   | nil=>intro d hd _;exact hd
   | cons y l ih=>intro d hd hl;exact ih _ (hd.ins (hl y (by simp))) (fun x hx=>hl x (by simp[hx]))
  exact fun j=>this _ [] SetOk.nil (fun x hx=>by have:=(name_decl (List.mem_of_mem_take hx)).1;omega)
 refine TR.loopN n.ins.length (fun _=>True) (fun j=>[(0,.ref 0 0),(1,.i k),(4,.cp [.s n.name,declsT n.ins,declsT n.outs,declsT n.locals,.sl 7 (n.eqs.map equT),.sl 1 (n.autos.map autoT),.sl 6 (n.assume.map exT),.sl 6 (n.ensure.map exT)] 0),(5,.ref 4 0),(49,.t (declsT n.ins)),(50,.i (n.ins.map declT).length),(51,.i j)]) (fun j=>full p k (-1) sq (.c1 (((n.ins.take j).map Decl.name).foldl ins []) L1)) trivial (fun j hlt _=>?_) (fun _=>?_)
 ·have hx:=at_decl hlt
  have hnx:n.ins[j].name.length≤1000000000:=by have:=(name_decl (List.getElem_mem hlt)).1;omega
  have hdn:=hins j
  have g2:((n.ins.take (j+1)).map Decl.name).foldl ins []=ins (((n.ins.take j).map Decl.name).foldl ins []) n.ins[j].name:=by
   rw[List.take_succ_eq_append_getElem hlt,List.map_append,List.foldl_append];rfl
  generalize ((n.ins.take j).map Decl.name).foldl ins []=dn at*
  generalize n.ins[j]=x at*
  unfold declC at hx
  repeat' (first|refine wkt ?_|refine wka ?_|refine wkD ?_|refine wk ?_|exact wkc|intro hc|refine wk2 ?_ ?_|refine wsx ?_|refine wms ?_|refine wsy ?_ ?_|fail|fail)
  refine LoopK.nextN hlt trivial ?_ (by rw[g2];rfl)
  repeat' (first|exact trivial|refine And.intro rfl ?_|fail)
 have hinp:=hins n.ins.length
 rw[List.take_length]at hinp
 rw[List.take_length]
 generalize (n.ins.map Decl.name).foldl ins []=inp at*
 clear hins
 refine wk ?_
 repeat' (first|refine wu ?_|exact wkc|intro hc|refine wk2 ?_ ?_|fail)
 have G2:Good L1.own 0 L1:=⟨G1.1,rfl,by rw[G1.2];exact Nat.le_refl _,by rw[G1.2];simp⟩
 have ek1:=fun j=>sum_take_le' (fun u=>(equT u).w) n.eqs j
 have ek2:=fun j=>sum_take_le' (fun u=>(autoT u).w) n.autos j
 have es1:=sum_w equT 7 n.eqs
 have es2:=sum_w autoT 1 n.autos
 have ge:=fun j hz=>fold_takeM (f:=equS p sq k [] inp) (G:=Good L1.own) (w:=fun u=>(equT u).w) n.eqs (fun B a x hx h hz=>equ_good (by have:=w_inM (f:=equT) (sz:=7) hx;omega) h hz) 0 L1 G2 (k:=j) hz
 refine TR.loopN n.eqs.length (fun j=>(foldS (equS p sq k [] inp) L1 (n.eqs.take j)).2=0) (fun j=>[(0,.ref 0 0),(1,.i k),(4,.cp [.s n.name,declsT n.ins,declsT n.outs,declsT n.locals,.sl 7 (n.eqs.map equT),.sl 1 (n.autos.map autoT),.sl 6 (n.assume.map exT),.sl 6 (n.ensure.map exT)] 0),(5,.ref 4 0),(63,.t (.sl 7 (n.eqs.map equT))),(64,.i (n.eqs.map equT).length),(65,.i j)]) (fun j=>full p k ((j:Int)-1) sq (.c1 inp (foldS (equS p sq k [] inp) L1 (n.eqs.take j)).1)) rfl (fun j hlt ha=>?_) (fun ha=>?_)
 ·have hx:=at_equ hlt
  have g1:=foldS_at (f:=equS p sq k [] inp) hlt ha
  have g2:=foldS_next (f:=equS p sq k [] inp) hlt ha
  have g3:=foldN_at (f:=equS p sq k [] inp) hlt ha
  have hwu:(equT n.eqs[j]).w≤1000000000:=by have:=w_inM (f:=equT) (sz:=7) (List.getElem_mem hlt);omega
  have gk:=ge j ha
  have gk2:=ek1 j
  have hxk:=hn.eqs _ (List.getElem_mem hlt)
  have hlw:=left_equ (q:=n.eqs[j])
  generalize (foldS (equS p sq k [] inp) L1 (n.eqs.take j)).1=st at*
  generalize n.eqs[j]=x at*
  have hs:=equ_sound p hp k j sq hse hsn k (.c1 inp st) (by simp[Ch.N]) ⟨hinp,gk.ok⟩ x hwu (by have:=gk.len;simp only[Ch.top];omega) hxk
  simp only[Ch.vis0,Ch.low,Ch.top,Ch.set,Ch.id]at hs
  generalize equS p sq k [] inp st x=fx at*
  unfold equC at hx hs
  clear ge
  repeat' (first|refine wkt ?_|refine wka ?_|refine wk ?_|exact wkc|intro hc|refine wk2 ?_ ?_|refine wss hs ?_ ?_|fail)
  ·refine LoopK.nextN hlt (by rw[g2];exact hc) ?_ (by rw[g2,show((j+1:Nat):Int)-1=j from by omega])
   repeat' (first|exact trivial|refine And.intro rfl ?_|fail)
  ·rw[if_pos (by rw[g1 hc];exact hc),g1 hc,g3 hc]at hz
   (repeat' (first|refine LoopK.panic ?_|refine wk ?_|fail))
   exact retSQ hc (by rw[hz]) (by rw[hz]) (Nat.le_of_ble_eq_true rfl)
 have ge1:=ge n.eqs.length ha
 rw[List.take_length]at ha ge1
 rw[List.take_length]
 rw[if_neg (by simp[ha])]at hz
 generalize (foldS (equS p sq k [] inp) L1 n.eqs).1=L2 at*
 clear ge
 refine wk ?_
 repeat' (first|refine wu ?_|exact wkc|intro hc|refine wk2 ?_ ?_|fail)
 have hau:=fun b (hb:b∈n.autos) (t:Lv) (ht:t.ok) (hd:t.defs.length≤1000000000)=>auc p hp k (-1) sq hse hsn k 3 (.c1 inp t) rfl ⟨hinp,ht⟩ hd b (by have:=w_inM (f:=autoT) (sz:=1) hb;omega) (hn.nest b hb) (hn.exA b hb)
 have ga:=fun j hz=>fold_takeM (f:=autoS p sq k 3 [] inp) (G:=Good L1.own) (w:=fun b=>(autoT b).w) n.autos (fun B a x hx h hz=>auto_good 3 (by have:=w_inM (f:=autoT) (sz:=1) hx;omega) h hz) _ L2 ge1 (k:=j) hz
 refine TR.loopN n.autos.length (fun j=>(foldS (autoS p sq k 3 [] inp) L2 (n.autos.take j)).2=0) (fun j=>[(0,.ref 0 0),(1,.i k),(4,.cp [.s n.name,declsT n.ins,declsT n.outs,declsT n.locals,.sl 7 (n.eqs.map equT),.sl 1 (n.autos.map autoT),.sl 6 (n.assume.map exT),.sl 6 (n.ensure.map exT)] 0),(5,.ref 4 0),(86,.t (.sl 1 (n.autos.map autoT))),(87,.i (n.autos.map autoT).length),(88,.i j)]) (fun j=>full p k (-1) sq (.c1 inp (foldS (autoS p sq k 3 [] inp) L2 (n.autos.take j)).1)) rfl (fun j hlt ha=>?_) (fun ha=>?_)
 ·have hx:=at_auto hlt
  have g1:=foldS_at (f:=autoS p sq k 3 [] inp) hlt ha
  have g2:=foldS_next (f:=autoS p sq k 3 [] inp) hlt ha
  have gk:=ga j ha
  have gk2:=ek2 j
  have gk3:=ek1 n.eqs.length
  generalize (foldS (autoS p sq k 3 [] inp) L2 (n.autos.take j)).1=st at*
  have hs:=hau _ (List.getElem_mem hlt) st gk.ok (by have:=gk.len;omega)
  simp only[Ch.vis0,Ch.low,Ch.top,Ch.set,Ch.id]at hs
  generalize n.autos[j]=x at*
  generalize autoS p sq k 3 [] inp st x=fx at*
  unfold autoC at hx hs
  clear hau ga
  repeat' (first|refine wkt ?_|refine wka ?_|refine wkD ?_|refine wk ?_|exact wkc|intro hc|refine wk2 ?_ ?_|refine wsx ?_|refine wms ?_|refine wsy ?_ ?_|refine wss hs ?_ ?_|fail)
  ·refine LoopK.nextN hlt (by rw[g2];exact hc) ?_ (by rw[g2])
   repeat' (first|exact trivial|refine And.intro rfl ?_|fail)
  ·rw[g1 hc]at hz
   (repeat' (first|refine LoopK.panic ?_|refine wk ?_|fail))
   exact retSQ hc (by rw[hz];try simp[orE,hc]) (by rw[hz]) (Nat.le_of_ble_eq_true rfl)
 have ga1:=ga n.autos.length ha
 rw[List.take_length]at ha ga1
 rw[List.take_length]
 rw[ha]at hz
 generalize (foldS (autoS p sq k 3 [] inp) L2 n.autos).1=L3 at*
 clear ga hau
 refine wk ?_
 repeat' (first|refine wu ?_|exact wkc|intro hc|refine wk2 ?_ ?_|fail)
 have hca:=claims_sound p hp k (-1) sq hse hsn k n.assume [n.ins] (by simp) (by simp only[List.flatten_cons,List.flatten_nil,List.append_nil];show(declsT n.ins).w≤_;omega) (by omega) hn.assume
 have hce:=claims_sound p hp k (-1) sq hse hsn k n.ensure [n.ins,n.outs] (by simp) (by
  have:=w_decls_append n.ins n.outs
  simp only[List.flatten_cons,List.flatten_nil,List.append_nil];show(declsT (n.ins++n.outs)).w≤_;omega) (by omega) hn.ensure
 simp only[List.flatten_cons,List.flatten_nil,List.append_nil,List.map_cons,List.map_nil]at hca hce
 have hmV:(V.map declT).length=V.length:=List.length_map _
 have hVl:n.ins.length≤V.length:=by rw[<-hV];simp[varsL]
 have hdr:(V.map declT).drop (n.ins.map declT).length=(n.outs++n.locals).map declT:=by
  rw[<-hV,m1,<-List.map_drop];simp[varsL]
 repeat' (first|refine wkt ?_|refine Go.TL.TR.regionS (envF:=_) (g:=True) [(.t (.ag [.s n.name,declsT n.ins,declsT n.outs,declsT n.locals,.sl 7 (n.eqs.map equT),.sl 1 (n.autos.map autoT),.sl 6 (n.assume.map exT),.sl 6 (n.ensure.map exT)]),false),(.t (declsT V),true),(.cp [.s n.name,declsT n.ins,declsT n.outs,declsT n.locals,.sl 7 (n.eqs.map equT),.sl 1 (n.autos.map autoT),.sl 6 (n.assume.map exT),.sl 6 (n.ensure.map exT)] 1,false),(.t (declsT n.ins),false),(.i (n.ins.map declT).length,false),(.t (.sl 3 ((V.map declT).drop (n.ins.map declT).length)),false),(.i ((V.map declT).drop (n.ins.map declT).length).length,false),(.i 0,false)] hmix (by dsimp only[List.map];decide +kernel) ?_ rfl (by decide) ?_|refine wk ?_|exact wkc|intro hc|refine wk2 ?_ ?_|refine we hca ?_ ?_|refine we hce ?_ ?_|refine wv hv ?_|(apply TO.ssl_lo tabOk;exact rfl;exact rfl;exact rfl;exact rfl;exact rfl;exact rfl;exact rfl;exact rfl;omega)|exact And.intro (And.intro rfl rfl) trivial|exact trivial|refine And.intro (fun env=>?_) ?_|fail)
 all_goals first
  | exact retSQ hc (by rw[hz];simp only[orE];clear hca hce hv;grind) (by rw[hz]) (Nat.le_of_ble_eq_true rfl)
  | skip
 clear hca hce hv
 rw[hdr]
 have hml2:((n.outs++n.locals).map declT).length=(n.outs++n.locals).length:=List.length_map _
 have hol:(n.outs++n.locals).length≤1000000000:=by simp;omega
 have hon:∀x∈n.outs++n.locals,x.name.length≤1000000000:=fun x hx=>by
  rcases List.mem_append.1 hx with hx|hx
  ·have:=(name_decl hx).1;omega
  ·have:=(name_decl hx).1;omega
 generalize n.outs++n.locals=OL at*
 refine TR.loopN OL.length (fun j=>firstE (fun d:Decl=>if d.name∈L3.done then 0 else 8) (OL.take j)=0) (fun j=>[(0,.ref 0 0),(1,.i k),(4,.cp [.s n.name,declsT n.ins,declsT n.outs,declsT n.locals,.sl 7 (n.eqs.map equT),.sl 1 (n.autos.map autoT),.sl 6 (n.assume.map exT),.sl 6 (n.ensure.map exT)] 0),(5,.ref 4 0),(121,.t (declsT OL)),(122,.i (OL.map declT).length),(123,.i j)]) (fun _=>full p k (-1) sq (.c1 inp L3)) rfl (fun j hlt ha=>?_) (fun ha=>?_)
 ·have hx:=at_decl hlt
  have hnx:=hon _ (List.getElem_mem hlt)
  have g1:=firstE_at (f:=fun d:Decl=>if d.name∈L3.done then 0 else 8) hlt ha
  have g2:=firstE_next (f:=fun d:Decl=>if d.name∈L3.done then 0 else 8) hlt ha
  have hdn:=ga1.ok.done
  generalize OL[j]=x at*
  unfold declC at hx
  repeat' (first|refine wkt ?_|refine wka ?_|refine wkD ?_|refine wk ?_|exact wkc|intro hc|refine wk2 ?_ ?_|refine wsx ?_|refine wms ?_|refine wsy ?_ ?_|fail|fail)
  ·exact LoopK.nextN hlt (g2 (by rw[if_pos hc]))
  ·(repeat' (first|refine LoopK.panic ?_|refine wk ?_|fail))
   exact retSQ (by decide) (by rw[hz];simp only[orE];grind) (by rw[hz]) (Nat.le_of_ble_eq_true rfl)
 have el:=firstE_all ha
 repeat' (first|refine wu ?_|exact wkc|intro hc|refine wk2 ?_ ?_|fail)
 refine RetK.errN (vs:=[]) ?_ rfl (Le.refl _) rfl rfl rfl rfl rfl
 rw[hz];simp only[orE];grind
end Go.Proofs.YtddaclniamlmbaaGreatDoor
