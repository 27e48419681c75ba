import Derived.Test.YthmbhfgflijapaaGreatDoorPk17
set_option linter.all false
namespace Go.Proofs.YthmbhfgflijapaaGreatDoor
open Go Go.TL
attribute [local irreducible] TR TO Then zag RetK Sound zab Kf GG zaK
theorem zpp(seen:List (Int×Str×Int))(vis0:List Str)(a:Lv)(d:Decl):zfS seen vis0 a [d]=zbY seen vis0 a d:=by
 unfold zfS
 simp only[zai]
 split
 ·rename_i h
  generalize zbY seen vis0 a d=z at*
  obtain⟨z1,z2⟩:=z
  simp only at h;subst h;rfl
 ·rfl
theorem zvK{env:Env}{H H1:Heap}{n q c:Int}{N:Nat}{rs:List ResultVar}{vs:List SV}{v:SV}(hc:c=0)(hr:zb1 tab env H rs=some vs)(hl:Le (pack vs) v)(hN:Nat.ble N H1.length=true)(hk:Nat.ble H1.length H.length=true)(hu:v.under H1.length=true)(ht:H.take H1.length=H1)(hb:zaa H1.length H1=true):
  zic (RetK tab rs N (Err0 c v (zcp n q c) H1 N)) .ret env H:=RetK.errV hc hr hl hN hk hu ht hb
theorem zrC:Pure Tryz.prog 140 [.t (.sl 1 []),.any] (.t (.sl 1 [])):=by
 have hi:Pure Tryz.prog 165 [.t (.sl 1 []),.any] (.i (-1)):=by
  refine so Tryz.func165 ?_
  repeat' (first|refine wk ?_|exact wkc|intro hc|refine wk2 ?_ ?_|fail)
  refine TR.zaA 0 (fun _=>True) (fun k=>[(0,.t (.sl 1 [])),(7,.i 0),(8,.i k)]) (fun _=>[]) trivial (fun k hlt _=>?_) (fun _=>?_) ⟨rfl,rfl,rfl,trivial⟩
  ·omega
  ·repeat' (first|refine wk ?_|exact wkc|intro hc|refine wk2 ?_ ?_|fail)
   exact wkr
 refine so Tryz.func140 ?_
 repeat' (first|refine wu ?_|exact wkc|intro hc|refine wk2 ?_ ?_|refine wv hi ?_|fail)
 exact wkr
theorem zsq{α:Type}(f:α->T)(sz:Nat)(l:List α):(l.map fun x=>(f x).w).sum<(T.sl sz (l.map f)).w:=by
 rw[w_sl,qa8];simp only[qcu];omega
theorem zbR{α:Type}(w:α->Nat):∀(l:List α) (k:Nat),((l.take k).map w).sum≤(l.map w).sum
 | [],k=>by simp
 | x::l,0=>by simp
 | x::l,k+1=>by
   have:=zbR w l k
   simp only[qaL,qah,qay];omega
set_option maxHeartbeats 4000000 in
theorem zso (p:Prog) (hp:zgg p) (n q:Int) (seen:List (Int×Str×Int)) (hse:zaW seen) (hsn:zcl p seen) (node:Int) (h:Ch) (hn1:h.N≠5) (hn2:h.N≠19) (hk0:h.ok) (F:List Str->List Str->Lv->Auto->Lv×Int) (s:Sta) (hw:(staT s).w≤1000000000)
  (hF:∀own B tt bb,bb∈s.autos->Good own B tt->(F h.vis (h.low++h.top.done) tt bb).2=0->Good own (B+(zar bb).w) (F h.vis (h.low++h.top.done) tt bb).1)
  (hau:∀bb,bb∈s.autos->∀x:Lv,x.ok->x.defs.length≤1000000000->(∀y∈x.defs,y.length≤1000000000)->SS 71 [.i node,.ref (h.push x).id 0,.t (.ag (zdL bb))] p n q seen (h.push x) (h.push (F h.vis (h.low++h.top.done) x bb).1) (F h.vis (h.low++h.top.done) x bb).2)
  (hxe:∀u∈s.eqs,∀x∈flat u.right,ExOk x) (hxu:∀t∈s.unl,∀x∈flat t.cond,ExOk x) (hxv:∀t∈s.unt,∀x∈flat t.cond,ExOk x):
  Sound Tryz.prog 106 [.ref 0 0,.i node,.ref h.id 0,.t (.ag (staC s))] (full p n q seen h)
   (Err (stS p seen node F h.vis (h.low++h.top.done) s).2 (.t (.sl 1 ((stS p seen node F h.vis (h.low++h.top.done) s).1.map T.s))) (zcp n q (stS p seen node F h.vis (h.low++h.top.done) s).2) (full p n q seen h)):=by
 revert hn1 hn2 hk0 hF hau
 revert h
 refine Ch.lt fun h=>?_
 cases h
 case one=>intro g hn1;exact absurd rfl hn1
 case c4=>intro g hn1 hn2;exact absurd rfl hn2
 all_goals
  intro g hn1 hn2 hk0 hF hau
  clear hn1 hn2
  have pv:∀x,(g.push x).vis0=g.vis:=fun _=>rfl
  have pl:∀x,(g.push x).low=g.low++g.top.done:=fun _=>rfl
  have pt:∀x,(g.push x).top=x:=fun _=>rfl
  have pw:∀x,(g.push x).vis=g.vis++x.own:=fun _=>rfl
  have ps:∀x y,(g.push x).set y=g.push y:=fun _ _=>rfl
  have pn:∀x,(g.push x).N≠5:=fun _=>Nat.ne_of_beq_eq_false rfl
  have pm:∀x,8≤(g.push x).N:=fun x=>leB
  have hpush:∀x:Lv,x.ok->(g.push x).ok:=by
   first
   | exact fun x hx=>⟨hk0.1,hk0.2,hx⟩
   | exact fun x hx=>⟨hk0.1,hk0.2.1,hk0.2.2,hx⟩
   | exact fun x hx=>⟨hk0.1,hk0.2.1,hk0.2.2.1,hk0.2.2.2,hx⟩
  have hws:=zlw s
  have m1:(s.locals.map zav).length=s.locals.length:=qab _
  have m2:(s.eqs.map equT).length=s.eqs.length:=qab _
  have m3:(s.autos.map zar).length=s.autos.length:=qab _
  have b1:=zaB zav 3 s.locals
  have b2:=zaB equT 7 s.eqs
  have b3:=zaB zar 1 s.autos
  have hdT:(zap s.locals).w=(T.sl 3 (s.locals.map zav)).w:=rfl
  have e1:=zsq equT 7 s.eqs
  have e2:=zsq zar 1 s.autos
  have ek1:=fun k=>zbR (fun u=>(equT u).w) s.eqs k
  have ek2:=fun k=>zbR (fun u=>(zar u).w) s.autos k
  have hz:(stS p seen node F g.vis (g.low++g.top.done) s).2=(stS p seen node F g.vis (g.low++g.top.done) s).2:=rfl
  conv at hz=>rhs;unfold stS
  have hz1:(stS p seen node F g.vis (g.low++g.top.done) s).1=(stS p seen node F g.vis (g.low++g.top.done) s).1:=rfl
  conv at hz1=>rhs;unfold stS
  simp only at hz hz1
  generalize stS p seen node F g.vis (g.low++g.top.done) s=Z at*
  unfold staC
  refine Sound.err rfl (fun _=>rfl) ?_
  refine so Tryz.func106 ?_
  refine TR.dead ?_
  repeat' (first|refine wkt ?_|(apply TO.ztH (zpJ p n q seen g);(iterate 3 exact rfl);exact Les.refl _;apply TO.zgV 9 (g.N+2) 4;(iterate 3 exact rfl))|refine wk ?_|fail)
  refine TR.zaA s.locals.length (fun k=>(zai (zbY seen g.vis) lv0 (s.locals.take k)).2=0/\(zai (zbY seen g.vis) lv0 (s.locals.take k)).1.ok/\(zai (zbY seen g.vis) lv0 (s.locals.take k)).1.defs=[]) (fun k=>[(0,.ref 0 0),(1,.i node),(2,.ref g.id 0),(7,.cp [.s s.name,zap s.locals,.sl 7 (s.eqs.map equT),.sl 1 (s.autos.map zar),.sl 8 (s.unl.map zay),.sl 8 (s.unt.map zay)] 0),(9,.ref (g.N+4) 0),(21,.t (zap s.locals)),(22,.i (s.locals.map zav).length),(23,.i k)]) (fun k=>full p n q seen (g.push (zai (zbY seen g.vis) lv0 (s.locals.take k)).1)++[.cells [.ref (g.N+2) 0]]) ⟨rfl,⟨zbd.nil,zbd.nil⟩,rfl⟩ (fun k hlt ha=>?_) (fun ha=>?_)
  ·have hx:=zdK hlt
   have hno:s.locals[k].name.length≤1000000000:=by have:=(zbn (qaf hlt)).1;omega
   have hwd:(zap [s.locals[k]]).w≤1000000000:=by
    have:=zaN (f:=zav) (sz:=3) (qaf hlt)
    rw[show zap [s.locals[k]]= .sl 3 [zav s.locals[k]] from rfl,w_sl]
    simp only[qah,qaC,qay,qaQ];omega
   have g1:=zcA (f:=zbY seen g.vis) hlt ha.1
   have g2:=zbD (f:=zbY seen g.vis) hlt ha.1
   obtain⟨ha1,ha2,ha3⟩:=ha
   generalize (zai (zbY seen g.vis) lv0 (s.locals.take k)).1=st at*
   generalize s.locals[k]=x at*
   have hs:=zfo p n q seen hse (g.push st) (hpush st ha2) [x] hwd
   simp only[pv,pt,ps,zpp]at hs
   have hok:(zbY seen g.vis st x).1.ok:=ha2.zgh hno
   have hdf:(zbY seen g.vis st x).1.defs=[]:=ha3
   generalize zbY seen g.vis st x=fx at*
   rw[show zap [x]= .sl 3 [.ag (zfm x)] from rfl]at hs
   unfold zfm at hx hs
   clear hau hF
   repeat' (first|refine wkt ?_|refine wka ?_|refine wkD ?_|refine wk ?_|exact wkc|intro hc|refine wk2 ?_ ?_|refine wsx ?_|refine wms ?_|refine wsy ?_ ?_|refine wss hs ?_ ?_|fail)
   ·refine zab.zaI hlt ⟨by rw[g2];exact hc,by rw[g2];exact hok,by rw[g2];exact hdf⟩ ?_ (by rw[g2];rfl)
    repeat' (first|exact trivial|refine qai rfl ?_|fail)
   ·((repeat' (first|refine zab.panic ?_|refine wk ?_|fail));apply retS;(first|assumption|decide);(clear hs hx;first|grind|grind [orE]);(first|exact leB|exact Nat.le_refl _|(simp[Ch.len];done)|(simp[Ch.len];omega)))
  obtain⟨hd1,hd2,hd3⟩:=ha
  rw[qap]at hd1 hd2 hd3
  rw[qap]
  rw[hd1]at hz
  generalize hL1:(zai (zbY seen g.vis) lv0 s.locals).1=L1 at*
  have hsm:=zhN p n q seen (g.push L1) (hpush L1 hd2) s.locals (by omega)
  simp only[pw]at hsm
  repeat' (first|refine wkt ?_|refine wka ?_|refine wkD ?_|refine wk ?_|exact wkc|intro hc|refine wk2 ?_ ?_|refine wsx ?_|refine wms ?_|refine wsy ?_ ?_|refine wss hsm ?_ ?_|fail)
  all_goals first
   | ((repeat' (first|refine zab.panic ?_|refine wk ?_|fail));apply retS;(first|assumption|decide);(clear hsm hau hF;first|grind|grind [orE]);(first|exact leB|exact Nat.le_refl _|(simp[Ch.len];done)|(simp[Ch.len];omega)))
   | skip
  clear hsm
  have G1:Good L1.own 0 L1:=⟨hd2,rfl,by rw[hd3];exact qae _,by rw[hd3];simp⟩
  have ge:=fun k hz=>zez (f:=equS p seen node g.vis (g.low++g.top.done)) (G:=Good L1.own) (w:=fun u=>(equT u).w) s.eqs (fun B a x hx h hz=>zjj (by have:=zaN (f:=equT) (sz:=7) hx;omega) h hz) 0 L1 G1 (k:=k) hz
  refine TR.zaA s.eqs.length (fun k=>(zai (equS p seen node g.vis (g.low++g.top.done)) L1 (s.eqs.take k)).2=0) (fun k=>[(0,.ref 0 0),(1,.i node),(2,.ref g.id 0),(7,.cp [.s s.name,zap s.locals,.sl 7 (s.eqs.map equT),.sl 1 (s.autos.map zar),.sl 8 (s.unl.map zay),.sl 8 (s.unt.map zay)] 0),(9,.ref (g.N+4) 0),(39,.t (.sl 7 (s.eqs.map equT))),(40,.i (s.eqs.map equT).length),(41,.i k)]) (fun k=>full p n q seen (g.push (zai (equS p seen node g.vis (g.low++g.top.done)) L1 (s.eqs.take k)).1)++[.cells [.ref (g.N+2) 0]]) rfl (fun k hlt ha=>?_) (fun ha=>?_)
  ·have hx:=ziz hlt
   have g1:=zcA (f:=equS p seen node g.vis (g.low++g.top.done)) hlt ha
   have g2:=zbD (f:=equS p seen node g.vis (g.low++g.top.done)) hlt ha
   have hwu:(equT s.eqs[k]).w≤1000000000:=by have:=zaN (f:=equT) (sz:=7) (qaf hlt);omega
   have gk:=ge k ha
   have gk2:=ek1 k
   have hxk:=hxe _ (qaf hlt)
   have hlw:=zeD (q:=s.eqs[k])
   generalize (zai (equS p seen node g.vis (g.low++g.top.done)) L1 (s.eqs.take k)).1=st at*
   generalize s.eqs[k]=x at*
   have hs:=zkp p hp n q seen hse hsn node (g.push st) (pn st) (hpush st gk.ok) x hwu (by have:=gk.len;simp only[pt];omega) hxk
   simp only[pv,pl,pt,ps]at hs
   generalize equS p seen node g.vis (g.low++g.top.done) st x=fx at*
   unfold equC at hx hs
   clear hau hF ge
   repeat' (first|refine wkt ?_|refine wka ?_|refine wkD ?_|refine wk ?_|exact wkc|intro hc|refine wk2 ?_ ?_|refine wsx ?_|refine wms ?_|refine wsy ?_ ?_|refine wss hs ?_ ?_|fail)
   ·exact zwcy
   ·((repeat' (first|refine zab.panic ?_|refine wk ?_|fail));apply retS;(first|assumption|decide);(clear hs hx;first|grind|grind [orE]);(first|exact leB|exact Nat.le_refl _|(simp[Ch.len];done)|(simp[Ch.len];omega)))
  have ge1:=ge s.eqs.length ha
  rw[qap]at ha ge1
  rw[qap]
  rw[ha]at hz
  generalize (zai (equS p seen node g.vis (g.low++g.top.done)) L1 s.eqs).1=L2 at*
  clear ge
  refine wk ?_
  repeat' (first|refine wu ?_|exact wkc|intro hc|refine wk2 ?_ ?_|fail)
  have ga:=fun k hz=>zez (f:=F g.vis (g.low++g.top.done)) (G:=Good L1.own) (w:=fun b=>(zar b).w) s.autos (fun B a x hx h hz=>hF _ B a x hx h hz) _ L2 ge1 (k:=k) hz
  refine TR.zaA s.autos.length (fun k=>(zai (F g.vis (g.low++g.top.done)) L2 (s.autos.take k)).2=0) (fun k=>[(0,.ref 0 0),(1,.i node),(2,.ref g.id 0),(7,.cp [.s s.name,zap s.locals,.sl 7 (s.eqs.map equT),.sl 1 (s.autos.map zar),.sl 8 (s.unl.map zay),.sl 8 (s.unt.map zay)] 0),(9,.ref (g.N+4) 0),(52,.t (.sl 1 (s.autos.map zar))),(53,.i (s.autos.map zar).length),(54,.i k)]) (fun k=>full p n q seen (g.push (zai (F g.vis (g.low++g.top.done)) L2 (s.autos.take k)).1)++[.cells [.ref (g.N+2) 0]]) rfl (fun k hlt ha=>?_) (fun ha=>?_)
  ·have hx:=zg8 hlt
   have g1:=zcA (f:=F g.vis (g.low++g.top.done)) hlt ha
   have g2:=zbD (f:=F g.vis (g.low++g.top.done)) hlt ha
   have gk:=ga k ha
   have gk2:=ek2 k
   have gk3:=zbR (fun u=>(equT u).w) s.eqs s.eqs.length
   generalize (zai (F g.vis (g.low++g.top.done)) L2 (s.autos.take k)).1=st at*
   have hs:=hau _ (qaf hlt) st gk.ok (by have:=gk.len;omega) gk.short
   generalize s.autos[k]=x at*
   generalize F g.vis (g.low++g.top.done) st x=fx at*
   unfold zdL at hx hs
   clear hau hF ga
   repeat' (first|refine wkt ?_|refine wka ?_|refine wkD ?_|refine wk ?_|exact wkc|intro hc|refine wk2 ?_ ?_|refine wsx ?_|refine wms ?_|refine wsy ?_ ?_|refine wss hs ?_ ?_|fail)
   ·exact zwcy
   ·((repeat' (first|refine zab.panic ?_|refine wk ?_|fail));apply retS;(first|assumption|decide);(clear hs hx;first|grind|grind [orE]);(first|exact leB|exact Nat.le_refl _|(simp[Ch.len];done)|(simp[Ch.len];omega)))
  have ga1:=ga s.autos.length ha
  rw[qap]at ha ga1
  rw[qap]
  rw[ha]at hz
  have gk2:=ek2 s.autos.length
  have gk3:=zbR (fun u=>(equT u).w) s.eqs s.eqs.length
  rw[qap]at gk2 gk3
  generalize (zai (F g.vis (g.low++g.top.done)) L2 s.autos).1=L3 at*
  clear ga hau hF
  refine wk ?_
  repeat' (first|refine wu ?_|exact wkc|intro hc|refine wk2 ?_ ?_|fail)
  have hcu:=ziE p hp n q seen hse hsn node g hk0 s.unl (by omega) hxu
  have hcv:=ziE p hp n q seen hse hsn node (g.push L3) (hpush L3 ga1.ok) s.unt (by omega) hxv
  simp only[pw]at hcv
  repeat' (first|refine wkt ?_|refine wka ?_|refine wkD ?_|refine wk ?_|exact wkc|intro hc|refine wk2 ?_ ?_|refine wsx ?_|refine wms ?_|refine wsy ?_ ?_|refine wss hcu ?_ ?_|refine wss hcv ?_ ?_|fail)
  all_goals first
   | ((repeat' (first|refine zab.panic ?_|refine wk ?_|fail));apply retS;(first|assumption|decide);(clear hcu hcv;first|grind|grind [orE]);(first|exact leB|exact Nat.le_refl _|(simp[Ch.len];done)|(simp[Ch.len];omega)))
   | skip
  clear hcu hcv
  refine TR.zaA s.locals.length (fun k=>zac (fun d:Decl=>if d.name∈L3.done then 0 else 8) (s.locals.take k)=0) (fun k=>[(0,.ref 0 0),(1,.i node),(2,.ref g.id 0),(7,.cp [.s s.name,zap s.locals,.sl 7 (s.eqs.map equT),.sl 1 (s.autos.map zar),.sl 8 (s.unl.map zay),.sl 8 (s.unt.map zay)] 0),(9,.ref (g.N+4) 0),(77,.t (zap s.locals)),(78,.i (s.locals.map zav).length),(79,.i k)]) (fun k=>full p n q seen (g.push L3)++[.cells [.ref (g.N+2) 0]]) rfl (fun k hlt ha=>?_) (fun ha=>?_)
  ·have hx:=zdK hlt
   have hno:s.locals[k].name.length≤1000000000:=by have:=(zbn (qaf hlt)).1;omega
   have g1:=zaJ (f:=fun d:Decl=>if d.name∈L3.done then 0 else 8) hlt ha
   have g2:=zaz (f:=fun d:Decl=>if d.name∈L3.done then 0 else 8) hlt ha
   have hdn:=ga1.ok.done
   generalize s.locals[k]=x at*
   unfold zfm at hx
   repeat' (first|refine wkt ?_|refine wka ?_|refine wkD ?_|refine wk ?_|exact wkc|intro hc|refine wk2 ?_ ?_|refine wsx ?_|refine wms ?_|refine wsy ?_ ?_|fail)
   ·exact zab.zaI hlt (g2 (by rw[if_pos hc]))
   ·((repeat' (first|refine zab.panic ?_|refine wk ?_|fail));apply retS;(first|assumption|decide);(clear hx;first|grind|grind [orE]);(first|exact leB|exact Nat.le_refl _|(simp[Ch.len];done)|(simp[Ch.len];omega)))
  have el:=zaF ha
  rw[el]at hz
  refine wk ?_
  repeat' (first|refine wu ?_|exact wkc|intro hc|refine wk2 ?_ ?_|fail)
  have hz2:Z.2=0:=by rw[hz];simp only[orE];grind
  have hdl:=ga1.len
  have hsh:=ga1.short
  have hown:=ga1.ok.own
  obtain⟨z1,z2⟩:=Z
  simp only at hz1 hz2
  subst hz1 hz2
  by_cases hnil:L3.defs=[]
  ·have hk:zbM L3.own L3.defs=[]:=by rw[hnil];rfl
   have hr:(L3.defs.map T.s)=[]:=by rw[hnil];rfl
   rw[hk]
   refine TO.zvL 96 1 (R:=g.N+3) (e:=9) ?_ ?_ ?_
   ·show some (SV.rw (g.N+3) (L3.defs.map T.s).length)=_
    rw[hr];rfl
   ·show some (Blk.row 9 (L3.defs.map T.s))=_
    rw[hr]
   repeat' (first|refine wu ?_|exact wkc|intro hc|refine wk2 ?_ ?_|(apply TO.zhh zrC;(iterate 3 exact rfl);exact⟨Le.refl _,Le.any _,trivial⟩;exact rfl;exact rfl)|fail)
   exact zvK rfl rfl (Le.refl _) rfl rfl rfl rfl rfl
  ·have hml:(L3.defs.map T.s).length=L3.defs.length:=qab _
   have hdel:=zpq p n q seen (g.push L3) (pm L3) (by rw[pt];exact hown) L3.defs (by omega) hsh
   rw[<-hml]at hdel
   simp only[pt]at hdel
   refine TO.fix 96 (R:=g.N+3) (e:=9) (ts:=L3.defs.map T.s) rfl rfl rfl (by rw[hml];exact qba.2 hnil) rfl ?_
   have hkl:=zdT L3.own L3.defs
   have hlen2:((zbM L3.own L3.defs).map T.s).length=(zbM L3.own L3.defs).length:=qab _
   refine TO.zbH (g.N+6) hdel rfl rfl rfl (Les.refl _) rfl rfl rfl (zif rfl _) rfl rfl (zif rfl _) (zbg _) ?_
   refine TO.zpC 98 1 (g.N+5) (zbM L3.own L3.defs).length (es:=(zbM L3.own L3.defs).map T.s) rfl rfl ?_ ?_ hlen2.symm (fun e he=>by obtain⟨x,_,rfl⟩:=qaP.1 he;rfl) rfl rfl ?_
   ·simp only[qab,qad,qbG];omega
   ·intro j c hj
    have hfl:((zbM L3.own L3.defs).map T.s).map T.cells=((zbM L3.own L3.defs).map T.s).map fun t=>[t]:=by
     rw[qa8,qa8];rfl
    have hfl2:∀l:List T,(l.map fun t=>[t]).flatten=l:=by
     intro l
     induction l with
     | nil=>rfl
     | cons a l ih=>simp[ih]
    rw[hfl,hfl2]at hj
    rw[qaH,qaH,qat (qaa.1 hj).1]
    exact hj
   repeat' (first|refine wu ?_|exact wkc|intro hc|refine wk2 ?_ ?_|fail)
   exact zvK rfl rfl (Le.refl _) rfl rfl rfl rfl rfl
theorem zfU:∀(a b pre:List Str),dupE pre (a++b)=if dupE pre a=0 then dupE (pre++a) b else dupE pre a
 | [],b,pre=>by simp[dupE]
 | s::a,b,pre=>by
   simp only[qbk,dupE]
   by_cases h:s∈pre
   ·simp[h]
   ·simp only[h,if_false]
    rw[zfU a b (pre++[s])]
    simp
theorem zrE{l:List Str}{k:Nat}(hk:k<l.length)(h:dupE [] (l.take k)=0)(hn:l[k] ∉ l.take k):dupE [] (l.take (k+1))=0:=by
 rw[qax hk,zfU,if_pos h,qa9,dupE,if_neg hn];rfl
theorem ztQ{l:List Str}{k:Nat}(hk:k<l.length)(h:dupE [] (l.take k)=0)(hn:l[k]∈l.take k):dupE [] l=7:=by
 conv=>lhs;rw[<-qaV k l]
 rw[zfU,if_pos h,qaT hk,qa9,dupE,if_pos hn]
theorem zde{l:List (List Str×Int)}{k:Nat}(h:0<k):zaT (l.take k)=zaT l:=by
 cases l with
 | nil=>simp[zaT]
 | cons x l=>
   obtain⟨k,rfl⟩:∃j,k=j+1:=⟨k-1,by omega⟩
   simp[zaT]
theorem zqx{l:List (List Str×Int)}{k:Nat}(hk:k<l.length):zc3 (l.take (k+1))=(zc3 (l.take k) && zmN l[k].1 (zaT (l.take (k+1)))):=by
 unfold zc3
 rw[zde (qcM k),qax hk,qbS]
 cases k with
 | zero=>simp
 | succ k=>rw[zde (qcM k)];simp
theorem zoK(l:List Sta)(x:Sta):(l.any fun y=>y.name == x.name)=decide (x.name∈l.map Sta.name):=by
 rw[Bool.eq_iff_iff]
 simp only[qcz,decide_eq_true_eq,qaP,beq_iff_eq]
set_option maxHeartbeats 4000000 in
theorem zrn (p:Prog) (n q:Int) (seen:List (Int×Str×Int)) (node:Int) (h:Ch) (hn1:h.N≠5) (hk0:h.ok) (hdl:h.top.defs.length≤1000000000) (F:List Str->List Str->Lv->Auto->Lv×Int) (au:Auto) (hw:(zar au).w≤1000000000)
  (hst:∀s∈au.states,Sound Tryz.prog 106 [.ref 0 0,.i node,.ref h.id 0,.t (.ag (staC s))] (full p n q seen h) (Err (stS p seen node F h.vis (h.low++h.top.done) s).2 (.t (.sl 1 ((stS p seen node F h.vis (h.low++h.top.done) s).1.map T.s))) (zcp n q (stS p seen node F h.vis (h.low++h.top.done) s).2) (full p n q seen h)))
  (hgood:∀s∈au.states,(stS p seen node F h.vis (h.low++h.top.done) s).2=0->(stS p seen node F h.vis (h.low++h.top.done) s).1.length≤1000000000/\∀x∈(stS p seen node F h.vis (h.low++h.top.done) s).1,x.length≤1000000000):
  SS 71 [.i node,.ref h.id 0,.t (.ag (zdL au))] p n q seen h (h.set ⟨h.top.own,(zaT (au.states.map (stS p seen node F h.vis (h.low++h.top.done)))).foldl ins h.top.done,h.top.defs++zaT (au.states.map (stS p seen node F h.vis (h.low++h.top.done)))⟩)
   (orE (dupE [] (au.states.map Sta.name)) (orE (zac Prod.snd (au.states.map (stS p seen node F h.vis (h.low++h.top.done)))) (if zc3 (au.states.map (stS p seen node F h.vis (h.low++h.top.done)))=true then 0 else 8))):=by
 have hset:=fun{x:Lv} (hx:x.ok)=>Ch.zp4 hk0 hx
 have ht0:=Ch.zp5 hk0
 clear hk0
 revert hn1 hset ht0 hdl hst hgood
 revert h
 refine Ch.lt fun h=>?_
 cases h
 case one=>intro g hn1;exact absurd rfl hn1
 all_goals
  intro g hn1 hdl hst hgood hset ht0
  clear hn1
  have hwa:=zgy au
  have hlb:au.states.length≤1000000000:=by have:=zaB staT 6 au.states;omega
  clear hwa hw
  unfold zdL
  generalize au.states=l at*
  have hml:(l.map staT).length=l.length:=qab _
  have hrl:(l.map (stS p seen node F g.vis (g.low++g.top.done))).length=l.length:=qab _
  have hnl:(l.map Sta.name).length=l.length:=qab _
  have hz:orE (dupE [] (l.map Sta.name)) (orE (zac Prod.snd (l.map (stS p seen node F g.vis (g.low++g.top.done)))) (if zc3 (l.map (stS p seen node F g.vis (g.low++g.top.done)))=true then 0 else 8))=orE (dupE [] (l.map Sta.name)) (orE (zac Prod.snd (l.map (stS p seen node F g.vis (g.low++g.top.done)))) (if zc3 (l.map (stS p seen node F g.vis (g.low++g.top.done)))=true then 0 else 8)):=rfl
  conv at hz=>rhs;simp only[orE]
  generalize hzz:orE (dupE [] (l.map Sta.name)) (orE (zac Prod.snd (l.map (stS p seen node F g.vis (g.low++g.top.done)))) (if zc3 (l.map (stS p seen node F g.vis (g.low++g.top.done)))=true then 0 else 8))=z at hz⊢
  clear hzz
  refine Sound.err rfl (fun _=>rfl) ?_
  refine so Tryz.func71 ?_
  refine TR.dead ?_
  repeat' (first|refine wu ?_|exact wkc|intro hc|refine wk2 ?_ ?_|fail)
  refine TR.zaA l.length (fun k=>dupE [] ((l.map Sta.name).take k)=0) (fun k=>[(0,.ref 0 0),(1,.i node),(2,.ref g.id 0),(7,.cp [.sl 6 (l.map staT)] 0),(18,.t (.sl 6 (l.map staT))),(19,.i (l.map staT).length),(20,.i k)]) (fun _=>full p n q seen g) rfl (fun k hlt ha=>?_) (fun ha=>?_)
  ·have hx:=zmU hlt
   have hkn:k<(l.map Sta.name).length:=by omega
   have hcon:=zig 105 [.cp (staC l[k]) 0] rfl (fun y=>y.name == l[k].name) (l.take k) (by simp;omega) (fun y=>zit y l[k])
   rw[zoK,qbH,qbH]at hcon
   have g1:=zrE hkn ha
   have g2:=ztQ hkn ha
   rw[qcB]at g1 g2
   generalize l[k]=x at*
   unfold staC at hx hcon
   clear hst hgood
   by_cases hm:x.name∈(l.map Sta.name).take k
   ·rw[decide_eq_true hm]at hcon
    repeat' (first|refine wkt ?_|refine wka ?_|refine wkD ?_|refine wk ?_|exact wkc|intro hc|refine wk2 ?_ ?_|refine wsx ?_|refine wms ?_|refine wsy ?_ ?_|(apply TO.zfH zaf;(iterate 5 exact rfl);omega)|(apply TO.zhh hcon;(iterate 3 exact rfl);exact Les.refl _;exact rfl;exact rfl)|fail)
    (repeat' (first|refine zab.panic ?_|refine wk ?_|fail));apply retS
    ·decide
    ·rw[hz,g2 hm];rfl
    ·exact leB
   ·rw[decide_eq_false hm]at hcon
    repeat' (first|refine wkt ?_|refine wka ?_|refine wkD ?_|refine wk ?_|exact wkc|intro hc|refine wk2 ?_ ?_|refine wsx ?_|refine wms ?_|refine wsy ?_ ?_|(apply TO.zfH zaf;(iterate 5 exact rfl);omega)|(apply TO.zhh hcon;(iterate 3 exact rfl);exact Les.refl _;exact rfl;exact rfl)|fail)
    exact zab.zaI hlt (g1 hm)
  have ed:dupE [] (l.map Sta.name)=0:=by rw[<-hnl,qap]at ha;exact ha
  rw[ed]at hz
  refine wk ?_
  repeat' (first|refine wu ?_|exact wkc|intro hc|refine wk2 ?_ ?_|fail)
  refine TR.less 10 (v':=.t (.sl 1 [])) rfl (Le.nil 1) ?_
  have hgd:∀k (hk:k<l.length) r,(l.map (stS p seen node F g.vis (g.low++g.top.done)))[k]?=some r->stS p seen node F g.vis (g.low++g.top.done) l[k]=r:=fun k hk r hr=>by
   rw[qar,qac hk]at hr
   exact qcJ hr
  have hf1:zac Prod.snd (l.map (stS p seen node F g.vis (g.low++g.top.done)))=0->(zaT (l.map (stS p seen node F g.vis (g.low++g.top.done)))).length≤1000000000/\∀x∈zaT (l.map (stS p seen node F g.vis (g.low++g.top.done))),x.length≤1000000000:=by
   intro h0
   cases l with
   | nil=>exact⟨by simp[zaT],by simp[zaT]⟩
   | cons s r=>
     have:(stS p seen node F g.vis (g.low++g.top.done) s).2=0:=by
      rw[qah,zac]at h0
      split at h0
      ·assumption
      ·exact h0
     exact hgood s (by simp) this
  have hrg:∀k (hk:k<l.length),((stS p seen node F g.vis (g.low++g.top.done) l[k])).2=0->(stS p seen node F g.vis (g.low++g.top.done) l[k]).1.length≤1000000000:=fun k hk h0=>(hgood _ (qaf hk) h0).1
  have hss:∀k (hk:k<l.length),Sound Tryz.prog 106 [.ref 0 0,.i node,.ref g.id 0,.t (.ag (staC l[k]))] (full p n q seen g) (Err (stS p seen node F g.vis (g.low++g.top.done) l[k]).2 (.t (.sl 1 ((stS p seen node F g.vis (g.low++g.top.done) l[k]).1.map T.s))) (zcp n q (stS p seen node F g.vis (g.low++g.top.done) l[k]).2) (full p n q seen g)):=fun k hk=>hst _ (qaf hk)
  have hfl0:∀k,0<k->zac Prod.snd ((l.map (stS p seen node F g.vis (g.low++g.top.done))).take k)=0->(zaT ((l.map (stS p seen node F g.vis (g.low++g.top.done))).take k)).length≤1000000000:=by
   intro k hk h0
   cases l with
   | nil=>simp[zaT]
   | cons s r=>
     obtain⟨k,rfl⟩:∃j,k=j+1:=⟨k-1,by omega⟩
     have:(stS p seen node F g.vis (g.low++g.top.done) s).2=0:=by
      rw[qah,qaL,zac]at h0
      split at h0
      ·assumption
      ·exact h0
     exact(hgood s (by simp) this).1
  clear hst hgood
  generalize hrs:l.map (stS p seen node F g.vis (g.low++g.top.done))=rs at*
  refine TR.zaA l.length (fun k=>zac Prod.snd (rs.take k)=0) (fun k=>[(0,.ref 0 0),(1,.i node),(2,.ref g.id 0),(7,.cp [.sl 6 (l.map staT)] 0),(10,.t (.sl 1 ((zaT (rs.take k)).map T.s))),(11,.b (zc3 (rs.take k))),(36,.t (.sl 6 (l.map staT))),(37,.i (l.map staT).length),(38,.i k)]) (fun _=>full p n q seen g) rfl (fun k hlt ha=>?_) (fun ha=>?_)
  ·have hx:=zmU hlt
   have hkr:k<rs.length:=by omega
   have g1:=zaJ (f:=Prod.snd) hkr ha
   have g2:=zaz (f:=Prod.snd) hkr ha
   have g3:=zqx hkr
   have hs:=hss k hlt
   have hg:=hrg k hlt
   rw[hgd k hlt _ (qac hkr)]at hs hg
   have hfk:=hfl0 k
   have hfk1:k=0->zaT (rs.take (k+1))=rs[k].1:=fun h0=>by
    subst h0
    cases rs with
    | nil=>simp at hkr
    | cons r rr=>rfl
   have hfk2:k≠0->zaT (rs.take (k+1))=zaT (rs.take k):=fun h0=>by rw[zde (qcM k),zde (by omega)]
   clear hss hrg hgd hfl0
   generalize rs[k]=r at*
   generalize l[k]=x at*
   generalize zaT (rs.take k)=fs at*
   generalize hfs1:zaT (rs.take (k+1))=fs1 at*
   obtain⟨r1,r2⟩:=r
   simp only at hs hg g1 g2 g3 hfk1
   by_cases hr2:r2=0
   ·subst hr2
    have hrl1:=hg rfl
    have hal:=zlD r1 fs1 hrl1 (by
     by_cases h0:k=0
     ·rw[hfk1 h0];exact hrl1
     ·rw[hfk2 h0];exact hfk (by omega) ha)
    unfold staC at hx hs
    generalize zc3 (rs.take k)=sm at*
    by_cases h0:k=0
    ·have hf:=hfk1 h0
     exact zwl
    ·have hf:=hfk2 h0
     exact zwl
   ·unfold staC at hx hs
    repeat' (first|refine wkt ?_|refine wka ?_|refine wkD ?_|refine wk ?_|exact wkc|intro hc|refine wk2 ?_ ?_|refine wsx ?_|refine wms ?_|refine wsy ?_ ?_|refine wss hs ?_ ?_|fail)
    all_goals first
     | exact absurd hc hr2
     | ((repeat' (first|refine zab.panic ?_|refine wk ?_|fail));apply retS;(first|assumption|decide);(clear hs hx;first|grind|grind [orE]);(first|exact leB|exact Nat.le_refl _|(simp[Ch.len];done)|(simp[Ch.len];omega)))
  have e1:zac Prod.snd rs=0:=by rw[<-hrl,qap]at ha;exact ha
  rw[<-hrl,qap]
  rw[e1]at hz
  obtain⟨hfl,hfs⟩:=hf1 e1
  clear hss hrg hgd hfl0 hf1
  generalize zaT rs=fs at*
  generalize zc3 rs=sm at*
  clear hrs
  cases sm
  ·repeat' (first|refine wkt ?_|refine wka ?_|refine wkD ?_|refine wk ?_|exact wkc|intro hc|refine wk2 ?_ ?_|refine wsx ?_|refine wms ?_|refine wsy ?_ ?_|fail)
   all_goals((repeat' (first|refine zab.panic ?_|refine wk ?_|fail));apply retS;(first|assumption|decide);(clear hml;first|grind|grind [orE]);(first|exact leB|exact Nat.le_refl _|(simp[Ch.len];done)|(simp[Ch.len];omega)))
  ·rw[if_pos rfl]at hz
   repeat' (first|refine wkt ?_|refine wka ?_|refine wkD ?_|refine wk ?_|exact wkc|intro hc|refine wk2 ?_ ?_|refine wsx ?_|refine wms ?_|refine wsy ?_ ?_|fail)
   have hml2:(fs.map T.s).length=fs.length:=qab _
   have hins:∀(l:List Str) (d:List Str),zbd d->(∀x∈l,x.length≤1000000000)->zbd (l.foldl ins d):=by
    exact zwcl
   refine TR.zaA fs.length (fun _=>True) (fun k=>[(0,.ref 0 0),(1,.i node),(2,.ref g.id 0),(7,.cp [.sl 6 (l.map staT)] 0),(10,.t (.sl 1 (fs.map T.s))),(61,.t (.sl 1 (fs.map T.s))),(62,.i (fs.map T.s).length),(63,.i k)]) (fun k=>full p n q seen (g.set ⟨g.top.own,(fs.take k).foldl ins g.top.done,g.top.defs⟩)) trivial (fun k hlt _=>?_) (fun _=>?_)
   ·have hx:=at_s hlt
    have hno:=hfs _ (qaf hlt)
    have hdn:=hins (fs.take k) g.top.done ht0.done (fun x hx=>hfs x (qaN hx))
    have g2:(fs.take (k+1)).foldl ins g.top.done=ins ((fs.take k).foldl ins g.top.done) fs[k]:=by rw[qax hlt,qbA];rfl
    generalize (fs.take k).foldl ins g.top.done=dn at*
    generalize fs[k]=x at*
    repeat' (first|refine wkt ?_|refine wka ?_|refine wkD ?_|refine wk ?_|exact wkc|intro hc|refine wk2 ?_ ?_|refine wsx ?_|refine wms ?_|refine wsy ?_ ?_|fail)
    refine zab.zaI hlt trivial ?_ (by rw[g2];rfl)
    repeat' (first|exact trivial|refine qai rfl ?_|fail)
   ·rw[qap]
    have hl1:(g.top.defs.map T.s).length=g.top.defs.length:=qab _
    have hma:(g.top.defs++fs).map T.s=g.top.defs.map T.s++fs.map T.s:=qaH
    generalize fs.foldl ins g.top.done=dn at*
    have hone:(fs.map T.s).all T.one=true:=by simp[T.one]
    repeat' (first|refine wkt ?_|refine wka ?_|refine wkD ?_|refine wk ?_|exact wkc|intro hc|refine wk2 ?_ ?_|refine wsx ?_|refine wms ?_|refine wsy ?_ ?_|(apply TO.zix zaf;(iterate 9 exact rfl);(exact qcH _);exact rfl;exact rfl;exact hone;exact rfl;(show(g.top.defs.map T.s).length+(fs.map T.s).length≤_;omega);exact rfl)|fail)
    refine zk7 (H1:=full p n q seen (g.set ⟨g.top.own,dn,g.top.defs++fs⟩)) hz rfl rfl ?_ rfl
    show _=full p n q seen (g.set ⟨g.top.own,dn,g.top.defs++fs⟩)
    simp only[g,full,Ch.set,Ch.top,Ch.heap,nmB,rowB,qaH]
    rfl
def exA:Nat->Auto->Prop
 | 0,_=>True
 | k+1,a=>∀s∈a.states,(∀u∈s.eqs,∀x∈flat u.right,ExOk x)/\(∀t∈s.unl,∀x∈flat t.cond,ExOk x)/\(∀t∈s.unt,∀x∈flat t.cond,ExOk x)/\∀b∈s.autos,exA k b
section
variable (p:Prog)(hp:zgg p)(n q:Int)(seen:List (Int×Str×Int))(hse:zaW seen)(hsn:zcl p seen)(node:Int)
include hp hse hsn
theorem auc:∀(k:Nat) (h:Ch) (hin:h.N+4*k=19) (hk:h.ok) (hd:h.top.defs.length≤1000000000) (au:Auto) (hw:(zar au).w≤1000000000) (hn:zkQ k au) (hx:exA k au),
  SS 71 [.i node,.ref h.id 0,.t (.ag (zdL au))] p n q seen h (h.set (zcU p seen node k h.vis0 h.low h.top au).1) (zcU p seen node k h.vis0 h.low h.top au).2
 | 0,h,hin,hk,hd,au,hw,hn,hx=>hn.elim
 | k+1,h,hin,hk,hd,au,hw,hn,hx=>by
   have hws:∀s∈au.states,(staT s).w≤1000000000:=fun s hs=>by have:=zaN (f:=staT) (sz:=6) hs;have:=zgy au;omega
   have hwa:∀s∈au.states,∀bb∈s.autos,(zar bb).w≤1000000000:=fun s hs bb hb=>by have:=zaN (f:=zar) (sz:=1) hb;have:=zlw s;have:=hws s hs;omega
   have hgd:=fun s (hs:s∈au.states) own B tt bb (hb:bb∈s.autos)=>zg9 (p:=p) (seen:=seen) (node:=node) k (vis0:=h.vis) (low:=h.low++h.top.done) (own:=own) (B:=B) (t:=tt) (a:=bb) (hwa s hs bb hb)
   refine zrn p n q seen node h (by omega) hk hd (zcU p seen node k) au hw (fun s hs=>?_) (fun s hs hz=>?_)
   ·refine zso p hp n q seen hse hsn node h (by omega) (by omega) hk (zcU p seen node k) s (hws s hs) (hgd s hs) (fun bb hb x hxo hxd hxs=>?_) (hx s hs).1 (hx s hs).2.1 (hx s hs).2.2.1
    have ih:=fun h1 h2 h3=>auc k (h.push x) h1 h2 h3 bb (hwa s hs bb hb) (hn s hs bb hb) ((hx s hs).2.2.2 bb hb)
    cases h
    case one=>simp[Ch.N]at hin;omega
    case c1=>exact ih (by simp[Ch.N,Ch.push]at *;omega) ⟨hk.1,hk.2,hxo⟩ hxd
    case c2=>exact ih (by simp[Ch.N,Ch.push]at *;omega) ⟨hk.1,hk.2.1,hk.2.2,hxo⟩ hxd
    case c3=>exact ih (by simp[Ch.N,Ch.push]at *;omega) ⟨hk.1,hk.2.1,hk.2.2.1,hk.2.2.2,hxo⟩ hxd
    case c4=>simp[Ch.N]at hin
   ·have:=zqK (F:=zcU p seen node k) (hws s hs) (hgd s hs) hz
    have h2:=hws s hs
    exact⟨by omega,this.2⟩
end
end Go.Proofs.YthmbhfgflijapaaGreatDoor
