import Derived.Test.YtddaclniamlmbaaGreatDoorPk31
set_option linter.unusedSimpArgs false
set_option linter.unusedVariables false
namespace Go.Proofs.YtddaclniamlmbaaGreatDoor
open Go Go.TL
attribute [local irreducible] TR TO Then InBlock RetK Sound LoopK Kf GG ThenL
theorem declS_one(seen:List (Int×Str×Int))(vis0:List Str)(a:Lv)(d:Decl):declS seen vis0 a [d]=declF seen vis0 a d:=by
 unfold declS
 simp only[foldS]
 split
 ·rename_i h
  generalize declF seen vis0 a d=z at*
  obtain⟨z1,z2⟩:=z
  simp only at h;subst h;rfl
 ·rfl
theorem retSR{env:Env}{H H1:Heap}{n q c:Int}{N:Nat}{rs:List ResultVar}{vs:List SV}{v:SV}(hc:c=0)(hr:resAll tab env H rs=some vs)(hl:Le (pack vs) v)(hN:Nat.ble N H1.length=true)(hk:Nat.ble H1.length H.length=true)(hu:v.under H1.length=true)(ht:H.take H1.length=H1)(hb:blksUnder H1.length H1=true):
  DeadK (RetK tab rs N (Err0 c v (failS n q c) H1 N)) .ret env H:=RetK.errV hc hr hl hN hk hu ht hb
theorem del_none:Pure Tryz.prog 285 [.t (.sl 1 []),.any] (.t (.sl 1 [])):=by
 have hi:Pure Tryz.prog 333 [.t (.sl 1 []),.any] (.i (-1)):=by
  refine so Tryz.func333 ?_
  repeat' (first|refine wk ?_|exact wkc|intro hc|refine wk2 ?_ ?_|fail)
  refine TR.loopN 0 (fun _=>True) (fun k=>[(0,.t (.sl 1 [])),(7,.i 0),(8,.i k)]) (fun _=>[]) trivial (fun k hlt _=>?_) (fun _=>?_) ⟨rfl,rfl,rfl,trivial⟩
  ·omega
  ·repeat' (first|refine wk ?_|exact wkc|intro hc|refine wk2 ?_ ?_|fail)
   exact wkr
 refine so Tryz.func285 ?_
 repeat' (first|refine wu ?_|exact wkc|intro hc|refine wk2 ?_ ?_|refine wv hi ?_|fail)
 exact wkr
theorem sum_w{α:Type}(f:α->T)(sz:Nat)(l:List α):(l.map fun x=>(f x).w).sum<(T.sl sz (l.map f)).w:=by
 rw[w_sl,List.map_map];simp only[Function.comp_def];omega
theorem sum_take_le'{α:Type}(w:α->Nat):∀(l:List α) (k:Nat),((l.take k).map w).sum≤(l.map w).sum
 | [],k=>by simp
 | x::l,0=>by simp
 | x::l,k+1=>by
   have:=sum_take_le' w l k
   simp only[List.take_succ_cons,List.map_cons,List.sum_cons];omega
set_option maxHeartbeats 4000000 in
theorem st_sound (p:Prog) (hp:SmallC p) (n q:Int) (seen:List (Int×Str×Int)) (hse:SeenOk seen) (hsn:SeenN p seen) (node:Int) (h:Ch) (hn1:h.N≠5) (hn2:h.N≠19) (hk0:h.ok) (F:List Str->List Str->Lv->Auto->Lv×Int) (s:Sta) (hw:(staT s).w≤1000000000)
  (hF:∀own B tt bb,bb∈s.autos->Good own B tt->(F h.vis (h.low++h.top.done) tt bb).2=0->Good own (B+(autoT bb).w) (F h.vis (h.low++h.top.done) tt bb).1)
  (hau:∀bb,bb∈s.autos->∀x:Lv,x.ok->x.defs.length≤1000000000->(∀y∈x.defs,y.length≤1000000000)->SS 141 [.i node,.ref (h.push x).id 0,.t (.ag (autoC bb))] p n q seen (h.push x) (h.push (F h.vis (h.low++h.top.done) x bb).1) (F h.vis (h.low++h.top.done) x bb).2)
  (hxe:∀u∈s.eqs,∀x∈flat u.right,ExOk x) (hxu:∀t∈s.unl,∀x∈flat t.cond,ExOk x) (hxv:∀t∈s.unt,∀x∈flat t.cond,ExOk x):
  Sound Tryz.prog 208 [.ref 0 0,.i node,.ref h.id 0,.t (.ag (staC s))] (full p n q seen h)
   (Err (stS p seen node F h.vis (h.low++h.top.done) s).2 (.t (.sl 1 ((stS p seen node F h.vis (h.low++h.top.done) s).1.map T.s))) (failS n q (stS p seen node F h.vis (h.low++h.top.done) s).2) (full p n q seen h)):=by
 revert hn1 hn2 hk0 hF hau
 revert h
 refine Ch.lt fun h=>?_
 cases h
 case one=>intro g hn1;exact absurd rfl hn1
 case c4=>intro g hn1 hn2;exact absurd rfl hn2
 all_goals
  intro g hn1 hn2 hk0 hF hau
  clear hn1 hn2
  have pv:∀x,(g.push x).vis0=g.vis:=fun _=>rfl
  have pl:∀x,(g.push x).low=g.low++g.top.done:=fun _=>rfl
  have pt:∀x,(g.push x).top=x:=fun _=>rfl
  have pw:∀x,(g.push x).vis=g.vis++x.own:=fun _=>rfl
  have ps:∀x y,(g.push x).set y=g.push y:=fun _ _=>rfl
  have pn:∀x,(g.push x).N≠5:=fun _=>Nat.ne_of_beq_eq_false rfl
  have pm:∀x,8≤(g.push x).N:=fun x=>Nat.le_of_ble_eq_true rfl
  have hpush:∀x:Lv,x.ok->(g.push x).ok:=by
   first
   | exact fun x hx=>⟨hk0.1,hk0.2,hx⟩
   | exact fun x hx=>⟨hk0.1,hk0.2.1,hk0.2.2,hx⟩
   | exact fun x hx=>⟨hk0.1,hk0.2.1,hk0.2.2.1,hk0.2.2.2,hx⟩
  have hws:=w_sta s
  have m1:(s.locals.map declT).length=s.locals.length:=List.length_map _
  have m2:(s.eqs.map equT).length=s.eqs.length:=List.length_map _
  have m3:(s.autos.map autoT).length=s.autos.length:=List.length_map _
  have b1:=w_lenM declT 3 s.locals
  have b2:=w_lenM equT 7 s.eqs
  have b3:=w_lenM autoT 1 s.autos
  have hdT:(declsT s.locals).w=(T.sl 3 (s.locals.map declT)).w:=rfl
  have e1:=sum_w equT 7 s.eqs
  have e2:=sum_w autoT 1 s.autos
  have ek1:=fun k=>sum_take_le' (fun u=>(equT u).w) s.eqs k
  have ek2:=fun k=>sum_take_le' (fun u=>(autoT u).w) s.autos k
  have hz:(stS p seen node F g.vis (g.low++g.top.done) s).2=(stS p seen node F g.vis (g.low++g.top.done) s).2:=rfl
  conv at hz=>rhs;unfold stS
  have hz1:(stS p seen node F g.vis (g.low++g.top.done) s).1=(stS p seen node F g.vis (g.low++g.top.done) s).1:=rfl
  conv at hz1=>rhs;unfold stS
  simp only at hz hz1
  generalize stS p seen node F g.vis (g.low++g.top.done) s=Z at*
  unfold staC
  refine Sound.err rfl (fun _=>rfl) ?_
  refine so Tryz.func208 ?_
  refine TR.dead ?_
  repeat' (first|refine wkt ?_|(apply TO.callW (inner_ref p n q seen g);exact rfl;exact rfl;exact rfl;exact Les.refl _;apply TO.row_cell 9 (g.N+2) 4;exact rfl;exact rfl;exact rfl)|refine wk ?_|fail)
  refine TR.loopN s.locals.length (fun k=>(foldS (declF seen g.vis) lv0 (s.locals.take k)).2=0/\(foldS (declF seen g.vis) lv0 (s.locals.take k)).1.ok/\(foldS (declF seen g.vis) lv0 (s.locals.take k)).1.defs=[]) (fun k=>[(0,.ref 0 0),(1,.i node),(2,.ref g.id 0),(7,.cp [.s s.name,declsT s.locals,.sl 7 (s.eqs.map equT),.sl 1 (s.autos.map autoT),.sl 8 (s.unl.map tranT),.sl 8 (s.unt.map tranT)] 0),(9,.ref (g.N+4) 0),(21,.t (declsT s.locals)),(22,.i (s.locals.map declT).length),(23,.i k)]) (fun k=>full p n q seen (g.push (foldS (declF seen g.vis) lv0 (s.locals.take k)).1)++[.cells [.ref (g.N+2) 0]]) ⟨rfl,⟨SetOk.nil,SetOk.nil⟩,rfl⟩ (fun k hlt ha=>?_) (fun ha=>?_)
  ·have hx:=at_decl hlt
   have hno:s.locals[k].name.length≤1000000000:=by have:=(name_decl (List.getElem_mem hlt)).1;omega
   have hwd:(declsT [s.locals[k]]).w≤1000000000:=by
    have:=w_inM (f:=declT) (sz:=3) (List.getElem_mem hlt)
    rw[show declsT [s.locals[k]]= .sl 3 [declT s.locals[k]] from rfl,w_sl]
    simp only[List.map_cons,List.map_nil,List.sum_cons,List.sum_nil];omega
   have g1:=foldS_at (f:=declF seen g.vis) hlt ha.1
   have g2:=foldS_next (f:=declF seen g.vis) hlt ha.1
   obtain⟨ha1,ha2,ha3⟩:=ha
   generalize (foldS (declF seen g.vis) lv0 (s.locals.take k)).1=st at*
   generalize s.locals[k]=x at*
   have hs:=declare_sound p n q seen hse (g.push st) (hpush st ha2) [x] hwd
   simp only[pv,pt,ps,declS_one]at hs
   have hok:(declF seen g.vis st x).1.ok:=ha2.addOwn hno
   have hdf:(declF seen g.vis st x).1.defs=[]:=ha3
   generalize declF seen g.vis st x=fx at*
   rw[show declsT [x]= .sl 3 [.ag (declC x)] from rfl]at hs
   unfold declC at hx hs
   clear hau hF
   repeat' (first|refine wkt ?_|refine wka ?_|refine wkD ?_|refine wk ?_|exact wkc|intro hc|refine wk2 ?_ ?_|refine wsx ?_|refine wms ?_|refine wsy ?_ ?_|refine wss hs ?_ ?_|fail)
   ·refine LoopK.nextN hlt ⟨by rw[g2];exact hc,by rw[g2];exact hok,by rw[g2];exact hdf⟩ ?_ (by rw[g2];rfl)
    repeat' (first|exact trivial|refine And.intro rfl ?_|fail)
   ·((repeat' (first|refine LoopK.panic ?_|refine wk ?_|fail));apply retS;(first|assumption|decide);(clear hs hx;first|grind|grind [orE]);(first|exact Nat.le_of_ble_eq_true rfl|exact Nat.le_refl _|(simp[Ch.len];done)|(simp[Ch.len];omega)))
  obtain⟨hd1,hd2,hd3⟩:=ha
  rw[List.take_length]at hd1 hd2 hd3
  rw[List.take_length]
  rw[hd1]at hz
  generalize hL1:(foldS (declF seen g.vis) lv0 s.locals).1=L1 at*
  have hsm:=sampl_sound p n q seen (g.push L1) (hpush L1 hd2) s.locals (by omega)
  simp only[pw]at hsm
  repeat' (first|refine wkt ?_|refine wka ?_|refine wkD ?_|refine wk ?_|exact wkc|intro hc|refine wk2 ?_ ?_|refine wsx ?_|refine wms ?_|refine wsy ?_ ?_|refine wss hsm ?_ ?_|fail)
  all_goals first
   | ((repeat' (first|refine LoopK.panic ?_|refine wk ?_|fail));apply retS;(first|assumption|decide);(clear hsm hau hF;first|grind|grind [orE]);(first|exact Nat.le_of_ble_eq_true rfl|exact Nat.le_refl _|(simp[Ch.len];done)|(simp[Ch.len];omega)))
   | skip
  clear hsm
  have G1:Good L1.own 0 L1:=⟨hd2,rfl,by rw[hd3];exact Nat.le_refl _,by rw[hd3];simp⟩
  have ge:=fun k hz=>fold_takeM (f:=equS p seen node g.vis (g.low++g.top.done)) (G:=Good L1.own) (w:=fun u=>(equT u).w) s.eqs (fun B a x hx h hz=>equ_good (by have:=w_inM (f:=equT) (sz:=7) hx;omega) h hz) 0 L1 G1 (k:=k) hz
  refine TR.loopN s.eqs.length (fun k=>(foldS (equS p seen node g.vis (g.low++g.top.done)) L1 (s.eqs.take k)).2=0) (fun k=>[(0,.ref 0 0),(1,.i node),(2,.ref g.id 0),(7,.cp [.s s.name,declsT s.locals,.sl 7 (s.eqs.map equT),.sl 1 (s.autos.map autoT),.sl 8 (s.unl.map tranT),.sl 8 (s.unt.map tranT)] 0),(9,.ref (g.N+4) 0),(39,.t (.sl 7 (s.eqs.map equT))),(40,.i (s.eqs.map equT).length),(41,.i k)]) (fun k=>full p n q seen (g.push (foldS (equS p seen node g.vis (g.low++g.top.done)) L1 (s.eqs.take k)).1)++[.cells [.ref (g.N+2) 0]]) rfl (fun k hlt ha=>?_) (fun ha=>?_)
  ·have hx:=at_equ hlt
   have g1:=foldS_at (f:=equS p seen node g.vis (g.low++g.top.done)) hlt ha
   have g2:=foldS_next (f:=equS p seen node g.vis (g.low++g.top.done)) hlt ha
   have hwu:(equT s.eqs[k]).w≤1000000000:=by have:=w_inM (f:=equT) (sz:=7) (List.getElem_mem hlt);omega
   have gk:=ge k ha
   have gk2:=ek1 k
   have hxk:=hxe _ (List.getElem_mem hlt)
   have hlw:=left_equ (q:=s.eqs[k])
   generalize (foldS (equS p seen node g.vis (g.low++g.top.done)) L1 (s.eqs.take k)).1=st at*
   generalize s.eqs[k]=x at*
   have hs:=equ_sound p hp n q seen hse hsn node (g.push st) (pn st) (hpush st gk.ok) x hwu (by have:=gk.len;simp only[pt];omega) hxk
   simp only[pv,pl,pt,ps]at hs
   generalize equS p seen node g.vis (g.low++g.top.done) st x=fx at*
   unfold equC at hx hs
   clear hau hF ge
   repeat' (first|refine wkt ?_|refine wka ?_|refine wkD ?_|refine wk ?_|exact wkc|intro hc|refine wk2 ?_ ?_|refine wsx ?_|refine wms ?_|refine wsy ?_ ?_|refine wss hs ?_ ?_|fail)
   ·refine LoopK.nextN hlt (by rw[g2];exact hc) ?_ (by rw[g2];rfl)
    repeat' (first|exact trivial|refine And.intro rfl ?_|fail)
   ·((repeat' (first|refine LoopK.panic ?_|refine wk ?_|fail));apply retS;(first|assumption|decide);(clear hs hx;first|grind|grind [orE]);(first|exact Nat.le_of_ble_eq_true rfl|exact Nat.le_refl _|(simp[Ch.len];done)|(simp[Ch.len];omega)))
  have ge1:=ge s.eqs.length ha
  rw[List.take_length]at ha ge1
  rw[List.take_length]
  rw[ha]at hz
  generalize (foldS (equS p seen node g.vis (g.low++g.top.done)) L1 s.eqs).1=L2 at*
  clear ge
  refine wk ?_
  repeat' (first|refine wu ?_|exact wkc|intro hc|refine wk2 ?_ ?_|fail)
  have ga:=fun k hz=>fold_takeM (f:=F g.vis (g.low++g.top.done)) (G:=Good L1.own) (w:=fun b=>(autoT b).w) s.autos (fun B a x hx h hz=>hF _ B a x hx h hz) _ L2 ge1 (k:=k) hz
  refine TR.loopN s.autos.length (fun k=>(foldS (F g.vis (g.low++g.top.done)) L2 (s.autos.take k)).2=0) (fun k=>[(0,.ref 0 0),(1,.i node),(2,.ref g.id 0),(7,.cp [.s s.name,declsT s.locals,.sl 7 (s.eqs.map equT),.sl 1 (s.autos.map autoT),.sl 8 (s.unl.map tranT),.sl 8 (s.unt.map tranT)] 0),(9,.ref (g.N+4) 0),(52,.t (.sl 1 (s.autos.map autoT))),(53,.i (s.autos.map autoT).length),(54,.i k)]) (fun k=>full p n q seen (g.push (foldS (F g.vis (g.low++g.top.done)) L2 (s.autos.take k)).1)++[.cells [.ref (g.N+2) 0]]) rfl (fun k hlt ha=>?_) (fun ha=>?_)
  ·have hx:=at_auto hlt
   have g1:=foldS_at (f:=F g.vis (g.low++g.top.done)) hlt ha
   have g2:=foldS_next (f:=F g.vis (g.low++g.top.done)) hlt ha
   have gk:=ga k ha
   have gk2:=ek2 k
   have gk3:=sum_take_le' (fun u=>(equT u).w) s.eqs s.eqs.length
   generalize (foldS (F g.vis (g.low++g.top.done)) L2 (s.autos.take k)).1=st at*
   have hs:=hau _ (List.getElem_mem hlt) st gk.ok (by have:=gk.len;omega) gk.short
   generalize s.autos[k]=x at*
   generalize F g.vis (g.low++g.top.done) st x=fx at*
   unfold autoC at hx hs
   clear hau hF ga
   repeat' (first|refine wkt ?_|refine wka ?_|refine wkD ?_|refine wk ?_|exact wkc|intro hc|refine wk2 ?_ ?_|refine wsx ?_|refine wms ?_|refine wsy ?_ ?_|refine wss hs ?_ ?_|fail)
   ·refine LoopK.nextN hlt (by rw[g2];exact hc) ?_ (by rw[g2];rfl)
    repeat' (first|exact trivial|refine And.intro rfl ?_|fail)
   ·((repeat' (first|refine LoopK.panic ?_|refine wk ?_|fail));apply retS;(first|assumption|decide);(clear hs hx;first|grind|grind [orE]);(first|exact Nat.le_of_ble_eq_true rfl|exact Nat.le_refl _|(simp[Ch.len];done)|(simp[Ch.len];omega)))
  have ga1:=ga s.autos.length ha
  rw[List.take_length]at ha ga1
  rw[List.take_length]
  rw[ha]at hz
  have gk2:=ek2 s.autos.length
  have gk3:=sum_take_le' (fun u=>(equT u).w) s.eqs s.eqs.length
  rw[List.take_length]at gk2 gk3
  generalize (foldS (F g.vis (g.low++g.top.done)) L2 s.autos).1=L3 at*
  clear ga hau hF
  refine wk ?_
  repeat' (first|refine wu ?_|exact wkc|intro hc|refine wk2 ?_ ?_|fail)
  have hcu:=cond_sound p hp n q seen hse hsn node g hk0 s.unl (by omega) hxu
  have hcv:=cond_sound p hp n q seen hse hsn node (g.push L3) (hpush L3 ga1.ok) s.unt (by omega) hxv
  simp only[pw]at hcv
  repeat' (first|refine wkt ?_|refine wka ?_|refine wkD ?_|refine wk ?_|exact wkc|intro hc|refine wk2 ?_ ?_|refine wsx ?_|refine wms ?_|refine wsy ?_ ?_|refine wss hcu ?_ ?_|refine wss hcv ?_ ?_|fail)
  all_goals first
   | ((repeat' (first|refine LoopK.panic ?_|refine wk ?_|fail));apply retS;(first|assumption|decide);(clear hcu hcv;first|grind|grind [orE]);(first|exact Nat.le_of_ble_eq_true rfl|exact Nat.le_refl _|(simp[Ch.len];done)|(simp[Ch.len];omega)))
   | skip
  clear hcu hcv
  refine TR.loopN s.locals.length (fun k=>firstE (fun d:Decl=>if d.name∈L3.done then 0 else 8) (s.locals.take k)=0) (fun k=>[(0,.ref 0 0),(1,.i node),(2,.ref g.id 0),(7,.cp [.s s.name,declsT s.locals,.sl 7 (s.eqs.map equT),.sl 1 (s.autos.map autoT),.sl 8 (s.unl.map tranT),.sl 8 (s.unt.map tranT)] 0),(9,.ref (g.N+4) 0),(77,.t (declsT s.locals)),(78,.i (s.locals.map declT).length),(79,.i k)]) (fun k=>full p n q seen (g.push L3)++[.cells [.ref (g.N+2) 0]]) rfl (fun k hlt ha=>?_) (fun ha=>?_)
  ·have hx:=at_decl hlt
   have hno:s.locals[k].name.length≤1000000000:=by have:=(name_decl (List.getElem_mem hlt)).1;omega
   have g1:=firstE_at (f:=fun d:Decl=>if d.name∈L3.done then 0 else 8) hlt ha
   have g2:=firstE_next (f:=fun d:Decl=>if d.name∈L3.done then 0 else 8) hlt ha
   have hdn:=ga1.ok.done
   generalize s.locals[k]=x at*
   unfold declC at hx
   repeat' (first|refine wkt ?_|refine wka ?_|refine wkD ?_|refine wk ?_|exact wkc|intro hc|refine wk2 ?_ ?_|refine wsx ?_|refine wms ?_|refine wsy ?_ ?_|fail|fail)
   ·exact LoopK.nextN hlt (g2 (by rw[if_pos hc]))
   ·((repeat' (first|refine LoopK.panic ?_|refine wk ?_|fail));apply retS;(first|assumption|decide);(clear hx;first|grind|grind [orE]);(first|exact Nat.le_of_ble_eq_true rfl|exact Nat.le_refl _|(simp[Ch.len];done)|(simp[Ch.len];omega)))
  have el:=firstE_all ha
  rw[el]at hz
  refine wk ?_
  repeat' (first|refine wu ?_|exact wkc|intro hc|refine wk2 ?_ ?_|fail)
  have hz2:Z.2=0:=by rw[hz];simp only[orE];grind
  have hdl:=ga1.len
  have hsh:=ga1.short
  have hown:=ga1.ok.own
  obtain⟨z1,z2⟩:=Z
  simp only at hz1 hz2
  subst hz1 hz2
  by_cases hnil:L3.defs=[]
  ·have hk:keepS L3.own L3.defs=[]:=by rw[hnil];rfl
   have hr:(L3.defs.map T.s)=[]:=by rw[hnil];rfl
   rw[hk]
   refine TO.rw_nil 96 1 (R:=g.N+3) (e:=9) ?_ ?_ ?_
   ·show some (SV.rw (g.N+3) (L3.defs.map T.s).length)=_
    rw[hr];rfl
   ·show some (Blk.row 9 (L3.defs.map T.s))=_
    rw[hr]
   repeat' (first|refine wu ?_|exact wkc|intro hc|refine wk2 ?_ ?_|(apply TO.callV del_none;exact rfl;exact rfl;exact rfl;exact⟨Le.refl _,Le.any _,trivial⟩;exact rfl;exact rfl)|fail)
   exact retSR rfl rfl (Le.refl _) rfl rfl rfl rfl rfl
  ·have hml:(L3.defs.map T.s).length=L3.defs.length:=List.length_map _
   have hdel:=del_sound p n q seen (g.push L3) (pm L3) (by rw[pt];exact hown) L3.defs (by omega) hsh
   rw[<-hml]at hdel
   simp only[pt]at hdel
   refine TO.fix 96 (R:=g.N+3) (e:=9) (ts:=L3.defs.map T.s) rfl rfl rfl (by rw[hml];exact List.length_pos_iff.2 hnil) rfl ?_
   have hkl:=keepS_le L3.own L3.defs
   have hlen2:((keepS L3.own L3.defs).map T.s).length=(keepS L3.own L3.defs).length:=List.length_map _
   refine TO.callD (g.N+6) hdel rfl rfl rfl (Les.refl _) rfl rfl rfl (cellU rfl _) rfl rfl (cellU rfl _) (forceL_self _) ?_
   refine TO.freezeP 98 1 (g.N+5) (keepS L3.own L3.defs).length (es:=(keepS L3.own L3.defs).map T.s) rfl rfl ?_ ?_ hlen2.symm (fun e he=>by obtain⟨x,_,rfl⟩:=List.mem_map.1 he;rfl) rfl rfl ?_
   ·simp only[List.length_map,List.length_append,List.length_replicate];omega
   ·intro j c hj
    have hfl:((keepS L3.own L3.defs).map T.s).map T.cells=((keepS L3.own L3.defs).map T.s).map fun t=>[t]:=by
     rw[List.map_map,List.map_map];rfl
    have hfl2:∀l:List T,(l.map fun t=>[t]).flatten=l:=by
     intro l
     induction l with
     | nil=>rfl
     | cons a l ih=>simp[ih]
    rw[hfl,hfl2]at hj
    rw[List.map_append,List.map_append,List.getElem?_append_left (List.getElem?_eq_some_iff.1 hj).1]
    exact hj
   repeat' (first|refine wu ?_|exact wkc|intro hc|refine wk2 ?_ ?_|fail)
   exact retSR rfl rfl (Le.refl _) rfl rfl rfl rfl rfl
theorem dup_append:∀(a b pre:List Str),dupE pre (a++b)=if dupE pre a=0 then dupE (pre++a) b else dupE pre a
 | [],b,pre=>by simp[dupE]
 | s::a,b,pre=>by
   simp only[List.cons_append,dupE]
   by_cases h:s∈pre
   ·simp[h]
   ·simp only[h,if_false]
    rw[dup_append a b (pre++[s])]
    simp
theorem dup_next{l:List Str}{k:Nat}(hk:k<l.length)(h:dupE [] (l.take k)=0)(hn:l[k] ∉ l.take k):dupE [] (l.take (k+1))=0:=by
 rw[List.take_succ_eq_append_getElem hk,dup_append,if_pos h,List.nil_append,dupE,if_neg hn];rfl
theorem dup_bad{l:List Str}{k:Nat}(hk:k<l.length)(h:dupE [] (l.take k)=0)(hn:l[k]∈l.take k):dupE [] l=7:=by
 conv=>lhs;rw[<-List.take_append_drop k l]
 rw[dup_append,if_pos h,List.drop_eq_getElem_cons hk,List.nil_append,dupE,if_pos hn]
theorem firstOf_take{l:List (List Str×Int)}{k:Nat}(h:0<k):firstOf (l.take k)=firstOf l:=by
 cases l with
 | nil=>simp[firstOf]
 | cons x l=>
   obtain⟨k,rfl⟩:∃j,k=j+1:=⟨k-1,by omega⟩
   simp[firstOf]
theorem same_take{l:List (List Str×Int)}{k:Nat}(hk:k<l.length):sameAll (l.take (k+1))=(sameAll (l.take k) && alikeB l[k].1 (firstOf (l.take (k+1)))):=by
 unfold sameAll
 rw[firstOf_take (Nat.succ_pos k),List.take_succ_eq_append_getElem hk,List.all_append]
 cases k with
 | zero=>simp
 | succ k=>rw[firstOf_take (Nat.succ_pos k)];simp
theorem states_any(l:List Sta)(x:Sta):(l.any fun y=>y.name == x.name)=decide (x.name∈l.map Sta.name):=by
 rw[Bool.eq_iff_iff]
 simp only[List.any_eq_true,decide_eq_true_eq,List.mem_map,beq_iff_eq]
set_option maxHeartbeats 4000000 in
theorem au_sound (p:Prog) (n q:Int) (seen:List (Int×Str×Int)) (node:Int) (h:Ch) (hn1:h.N≠5) (hk0:h.ok) (hdl:h.top.defs.length≤1000000000) (F:List Str->List Str->Lv->Auto->Lv×Int) (au:Auto) (hw:(autoT au).w≤1000000000)
  (hst:∀s∈au.states,Sound Tryz.prog 208 [.ref 0 0,.i node,.ref h.id 0,.t (.ag (staC s))] (full p n q seen h) (Err (stS p seen node F h.vis (h.low++h.top.done) s).2 (.t (.sl 1 ((stS p seen node F h.vis (h.low++h.top.done) s).1.map T.s))) (failS n q (stS p seen node F h.vis (h.low++h.top.done) s).2) (full p n q seen h)))
  (hgood:∀s∈au.states,(stS p seen node F h.vis (h.low++h.top.done) s).2=0->(stS p seen node F h.vis (h.low++h.top.done) s).1.length≤1000000000/\∀x∈(stS p seen node F h.vis (h.low++h.top.done) s).1,x.length≤1000000000):
  SS 141 [.i node,.ref h.id 0,.t (.ag (autoC au))] p n q seen h (h.set ⟨h.top.own,(firstOf (au.states.map (stS p seen node F h.vis (h.low++h.top.done)))).foldl ins h.top.done,h.top.defs++firstOf (au.states.map (stS p seen node F h.vis (h.low++h.top.done)))⟩)
   (orE (dupE [] (au.states.map Sta.name)) (orE (firstE Prod.snd (au.states.map (stS p seen node F h.vis (h.low++h.top.done)))) (if sameAll (au.states.map (stS p seen node F h.vis (h.low++h.top.done)))=true then 0 else 8))):=by
 have hset:=fun{x:Lv} (hx:x.ok)=>Ch.ok_set hk0 hx
 have ht0:=Ch.ok_top hk0
 clear hk0
 revert hn1 hset ht0 hdl hst hgood
 revert h
 refine Ch.lt fun h=>?_
 cases h
 case one=>intro g hn1;exact absurd rfl hn1
 all_goals
  intro g hn1 hdl hst hgood hset ht0
  clear hn1
  have hwa:=w_auto au
  have hlb:au.states.length≤1000000000:=by have:=w_lenM staT 6 au.states;omega
  clear hwa hw
  unfold autoC
  generalize au.states=l at*
  have hml:(l.map staT).length=l.length:=List.length_map _
  have hrl:(l.map (stS p seen node F g.vis (g.low++g.top.done))).length=l.length:=List.length_map _
  have hnl:(l.map Sta.name).length=l.length:=List.length_map _
  have hz:orE (dupE [] (l.map Sta.name)) (orE (firstE Prod.snd (l.map (stS p seen node F g.vis (g.low++g.top.done)))) (if sameAll (l.map (stS p seen node F g.vis (g.low++g.top.done)))=true then 0 else 8))=orE (dupE [] (l.map Sta.name)) (orE (firstE Prod.snd (l.map (stS p seen node F g.vis (g.low++g.top.done)))) (if sameAll (l.map (stS p seen node F g.vis (g.low++g.top.done)))=true then 0 else 8)):=rfl
  conv at hz=>rhs;simp only[orE]
  generalize hzz:orE (dupE [] (l.map Sta.name)) (orE (firstE Prod.snd (l.map (stS p seen node F g.vis (g.low++g.top.done)))) (if sameAll (l.map (stS p seen node F g.vis (g.low++g.top.done)))=true then 0 else 8))=z at hz⊢
  clear hzz
  refine Sound.err rfl (fun _=>rfl) ?_
  refine so Tryz.func141 ?_
  refine TR.dead ?_
  repeat' (first|refine wu ?_|exact wkc|intro hc|refine wk2 ?_ ?_|fail)
  refine TR.loopN l.length (fun k=>dupE [] ((l.map Sta.name).take k)=0) (fun k=>[(0,.ref 0 0),(1,.i node),(2,.ref g.id 0),(7,.cp [.sl 6 (l.map staT)] 0),(18,.t (.sl 6 (l.map staT))),(19,.i (l.map staT).length),(20,.i k)]) (fun _=>full p n q seen g) rfl (fun k hlt ha=>?_) (fun ha=>?_)
  ·have hx:=at_sta hlt
   have hkn:k<(l.map Sta.name).length:=by omega
   have hcon:=conState_sound 207 [.cp (staC l[k]) 0] rfl (fun y=>y.name == l[k].name) (l.take k) (by simp;omega) (fun y=>staNamed_sound y l[k])
   rw[states_any,List.map_take,List.map_take]at hcon
   have g1:=dup_next hkn ha
   have g2:=dup_bad hkn ha
   rw[List.getElem_map]at g1 g2
   generalize l[k]=x at*
   unfold staC at hx hcon
   clear hst hgood
   by_cases hm:x.name∈(l.map Sta.name).take k
   ·rw[decide_eq_true hm]at hcon
    repeat' (first|refine wkt ?_|refine wka ?_|refine wkD ?_|refine wk ?_|exact wkc|intro hc|refine wk2 ?_ ?_|refine wsx ?_|refine wms ?_|refine wsy ?_ ?_|(apply TO.slice_hi tabOk;exact rfl;exact rfl;exact rfl;exact rfl;exact rfl;omega)|(apply TO.callV hcon;exact rfl;exact rfl;exact rfl;exact Les.refl _;exact rfl;exact rfl)|fail)
    (repeat' (first|refine LoopK.panic ?_|refine wk ?_|fail));apply retS
    ·decide
    ·rw[hz,g2 hm];rfl
    ·exact Nat.le_of_ble_eq_true rfl
   ·rw[decide_eq_false hm]at hcon
    repeat' (first|refine wkt ?_|refine wka ?_|refine wkD ?_|refine wk ?_|exact wkc|intro hc|refine wk2 ?_ ?_|refine wsx ?_|refine wms ?_|refine wsy ?_ ?_|(apply TO.slice_hi tabOk;exact rfl;exact rfl;exact rfl;exact rfl;exact rfl;omega)|(apply TO.callV hcon;exact rfl;exact rfl;exact rfl;exact Les.refl _;exact rfl;exact rfl)|fail)
    exact LoopK.nextN hlt (g1 hm)
  have ed:dupE [] (l.map Sta.name)=0:=by rw[<-hnl,List.take_length]at ha;exact ha
  rw[ed]at hz
  refine wk ?_
  repeat' (first|refine wu ?_|exact wkc|intro hc|refine wk2 ?_ ?_|fail)
  refine TR.less 10 (v':=.t (.sl 1 [])) rfl (Le.nil 1) ?_
  have hgd:∀k (hk:k<l.length) r,(l.map (stS p seen node F g.vis (g.low++g.top.done)))[k]?=some r->stS p seen node F g.vis (g.low++g.top.done) l[k]=r:=fun k hk r hr=>by
   rw[List.getElem?_map,List.getElem?_eq_getElem hk]at hr
   exact Option.some.inj hr
  have hf1:firstE Prod.snd (l.map (stS p seen node F g.vis (g.low++g.top.done)))=0->(firstOf (l.map (stS p seen node F g.vis (g.low++g.top.done)))).length≤1000000000/\∀x∈firstOf (l.map (stS p seen node F g.vis (g.low++g.top.done))),x.length≤1000000000:=by
   intro h0
   cases l with
   | nil=>exact⟨by simp[firstOf],by simp[firstOf]⟩
   | cons s r=>
     have:(stS p seen node F g.vis (g.low++g.top.done) s).2=0:=by
      rw[List.map_cons,firstE]at h0
      split at h0
      ·assumption
      ·exact h0
     exact hgood s (by simp) this
  have hrg:∀k (hk:k<l.length),((stS p seen node F g.vis (g.low++g.top.done) l[k])).2=0->(stS p seen node F g.vis (g.low++g.top.done) l[k]).1.length≤1000000000:=fun k hk h0=>(hgood _ (List.getElem_mem hk) h0).1
  have hss:∀k (hk:k<l.length),Sound Tryz.prog 208 [.ref 0 0,.i node,.ref g.id 0,.t (.ag (staC l[k]))] (full p n q seen g) (Err (stS p seen node F g.vis (g.low++g.top.done) l[k]).2 (.t (.sl 1 ((stS p seen node F g.vis (g.low++g.top.done) l[k]).1.map T.s))) (failS n q (stS p seen node F g.vis (g.low++g.top.done) l[k]).2) (full p n q seen g)):=fun k hk=>hst _ (List.getElem_mem hk)
  have hfl0:∀k,0<k->firstE Prod.snd ((l.map (stS p seen node F g.vis (g.low++g.top.done))).take k)=0->(firstOf ((l.map (stS p seen node F g.vis (g.low++g.top.done))).take k)).length≤1000000000:=by
   intro k hk h0
   cases l with
   | nil=>simp[firstOf]
   | cons s r=>
     obtain⟨k,rfl⟩:∃j,k=j+1:=⟨k-1,by omega⟩
     have:(stS p seen node F g.vis (g.low++g.top.done) s).2=0:=by
      rw[List.map_cons,List.take_succ_cons,firstE]at h0
      split at h0
      ·assumption
      ·exact h0
     exact(hgood s (by simp) this).1
  clear hst hgood
  generalize hrs:l.map (stS p seen node F g.vis (g.low++g.top.done))=rs at*
  refine TR.loopN l.length (fun k=>firstE Prod.snd (rs.take k)=0) (fun k=>[(0,.ref 0 0),(1,.i node),(2,.ref g.id 0),(7,.cp [.sl 6 (l.map staT)] 0),(10,.t (.sl 1 ((firstOf (rs.take k)).map T.s))),(11,.b (sameAll (rs.take k))),(36,.t (.sl 6 (l.map staT))),(37,.i (l.map staT).length),(38,.i k)]) (fun _=>full p n q seen g) rfl (fun k hlt ha=>?_) (fun ha=>?_)
  ·have hx:=at_sta hlt
   have hkr:k<rs.length:=by omega
   have g1:=firstE_at (f:=Prod.snd) hkr ha
   have g2:=firstE_next (f:=Prod.snd) hkr ha
   have g3:=same_take hkr
   have hs:=hss k hlt
   have hg:=hrg k hlt
   rw[hgd k hlt _ (List.getElem?_eq_getElem hkr)]at hs hg
   have hfk:=hfl0 k
   have hfk1:k=0->firstOf (rs.take (k+1))=rs[k].1:=fun h0=>by
    subst h0
    cases rs with
    | nil=>simp at hkr
    | cons r rr=>rfl
   have hfk2:k≠0->firstOf (rs.take (k+1))=firstOf (rs.take k):=fun h0=>by rw[firstOf_take (Nat.succ_pos k),firstOf_take (by omega)]
   clear hss hrg hgd hfl0
   generalize rs[k]=r at*
   generalize l[k]=x at*
   generalize firstOf (rs.take k)=fs at*
   generalize hfs1:firstOf (rs.take (k+1))=fs1 at*
   obtain⟨r1,r2⟩:=r
   simp only at hs hg g1 g2 g3 hfk1
   by_cases hr2:r2=0
   ·subst hr2
    have hrl1:=hg rfl
    have hal:=alike_sound r1 fs1 hrl1 (by
     by_cases h0:k=0
     ·rw[hfk1 h0];exact hrl1
     ·rw[hfk2 h0];exact hfk (by omega) ha)
    unfold staC at hx hs
    generalize sameAll (rs.take k)=sm at*
    by_cases h0:k=0
    ·have hf:=hfk1 h0
     subst hf
     clear hfk1 hfk2
     cases sm
     all_goals
      repeat' (first|refine wkt ?_|refine wka ?_|refine wkD ?_|refine wk ?_|exact wkc|intro hc|refine wk2 ?_ ?_|refine wsx ?_|refine wms ?_|refine wsy ?_ ?_|refine wss hs ?_ ?_|refine wb hal ?_ ?_|fail)
     all_goals first
      | (exfalso;omega)
      | (refine LoopK.nextN hlt (g2 rfl) ?_
         simp only[Bool.false_and,Bool.true_and]at g3
         first|rw[hc]at g3|skip
         simp only[hfs1,g3]
         repeat' (first|exact trivial|refine And.intro rfl ?_|fail))
    ·have hf:=hfk2 h0
     subst hf
     clear hfk1 hfk2
     cases sm
     all_goals
      repeat' (first|refine wkt ?_|refine wka ?_|refine wkD ?_|refine wk ?_|exact wkc|intro hc|refine wk2 ?_ ?_|refine wsx ?_|refine wms ?_|refine wsy ?_ ?_|refine wss hs ?_ ?_|refine wb hal ?_ ?_|fail)
     all_goals first
      | (exfalso;omega)
      | (refine LoopK.nextN hlt (g2 rfl) ?_
         simp only[Bool.false_and,Bool.true_and]at g3
         first|rw[hc]at g3|skip
         simp only[hfs1,g3]
         repeat' (first|exact trivial|refine And.intro rfl ?_|fail))
   ·unfold staC at hx hs
    repeat' (first|refine wkt ?_|refine wka ?_|refine wkD ?_|refine wk ?_|exact wkc|intro hc|refine wk2 ?_ ?_|refine wsx ?_|refine wms ?_|refine wsy ?_ ?_|refine wss hs ?_ ?_|fail)
    all_goals first
     | exact absurd hc hr2
     | ((repeat' (first|refine LoopK.panic ?_|refine wk ?_|fail));apply retS;(first|assumption|decide);(clear hs hx;first|grind|grind [orE]);(first|exact Nat.le_of_ble_eq_true rfl|exact Nat.le_refl _|(simp[Ch.len];done)|(simp[Ch.len];omega)))
  have e1:firstE Prod.snd rs=0:=by rw[<-hrl,List.take_length]at ha;exact ha
  rw[<-hrl,List.take_length]
  rw[e1]at hz
  obtain⟨hfl,hfs⟩:=hf1 e1
  clear hss hrg hgd hfl0 hf1
  generalize firstOf rs=fs at*
  generalize sameAll rs=sm at*
  clear hrs
  cases sm
  ·repeat' (first|refine wkt ?_|refine wka ?_|refine wkD ?_|refine wk ?_|exact wkc|intro hc|refine wk2 ?_ ?_|refine wsx ?_|refine wms ?_|refine wsy ?_ ?_|fail|fail)
   all_goals((repeat' (first|refine LoopK.panic ?_|refine wk ?_|fail));apply retS;(first|assumption|decide);(clear hml;first|grind|grind [orE]);(first|exact Nat.le_of_ble_eq_true rfl|exact Nat.le_refl _|(simp[Ch.len];done)|(simp[Ch.len];omega)))
  ·rw[if_pos rfl]at hz
   repeat' (first|refine wkt ?_|refine wka ?_|refine wkD ?_|refine wk ?_|exact wkc|intro hc|refine wk2 ?_ ?_|refine wsx ?_|refine wms ?_|refine wsy ?_ ?_|fail|fail)
   have hml2:(fs.map T.s).length=fs.length:=List.length_map _
   have hins:∀(l:List Str) (d:List Str),SetOk d->(∀x∈l,x.length≤1000000000)->SetOk (l.foldl ins d):=by
    intro l
    induction l with
    | nil=>intro d hd _;exact hd
    | cons y l ih=>intro d hd hl;exact ih _ (hd.ins (hl y (by simp))) (fun x hx=>hl x (by simp[hx]))
   refine TR.loopN fs.length (fun _=>True) (fun k=>[(0,.ref 0 0),(1,.i node),(2,.ref g.id 0),(7,.cp [.sl 6 (l.map staT)] 0),(10,.t (.sl 1 (fs.map T.s))),(61,.t (.sl 1 (fs.map T.s))),(62,.i (fs.map T.s).length),(63,.i k)]) (fun k=>full p n q seen (g.set ⟨g.top.own,(fs.take k).foldl ins g.top.done,g.top.defs⟩)) trivial (fun k hlt _=>?_) (fun _=>?_)
   ·have hx:=at_s hlt
    have hno:=hfs _ (List.getElem_mem hlt)
    have hdn:=hins (fs.take k) g.top.done ht0.done (fun x hx=>hfs x (List.mem_of_mem_take hx))
    have g2:(fs.take (k+1)).foldl ins g.top.done=ins ((fs.take k).foldl ins g.top.done) fs[k]:=by rw[List.take_succ_eq_append_getElem hlt,List.foldl_append];rfl
    generalize (fs.take k).foldl ins g.top.done=dn at*
    generalize fs[k]=x at*
    repeat' (first|refine wkt ?_|refine wka ?_|refine wkD ?_|refine wk ?_|exact wkc|intro hc|refine wk2 ?_ ?_|refine wsx ?_|refine wms ?_|refine wsy ?_ ?_|fail|fail)
    refine LoopK.nextN hlt trivial ?_ (by rw[g2];rfl)
    repeat' (first|exact trivial|refine And.intro rfl ?_|fail)
   ·rw[List.take_length]
    have hl1:(g.top.defs.map T.s).length=g.top.defs.length:=List.length_map _
    have hma:(g.top.defs++fs).map T.s=g.top.defs.map T.s++fs.map T.s:=List.map_append
    generalize fs.foldl ins g.top.done=dn at*
    have hone:(fs.map T.s).all T.one=true:=by simp[T.one]
    repeat' (first|refine wkt ?_|refine wka ?_|refine wkD ?_|refine wk ?_|exact wkc|intro hc|refine wk2 ?_ ?_|refine wsx ?_|refine wms ?_|refine wsy ?_ ?_|(apply TO.append_row tabOk;exact rfl;exact rfl;exact rfl;exact rfl;exact rfl;exact rfl;exact rfl;exact rfl;exact rfl;(exact Nat.beq_refl _);exact rfl;exact rfl;exact hone;exact rfl;(show(g.top.defs.map T.s).length+(fs.map T.s).length≤_;omega);exact rfl)|fail)
    refine retSN (H1:=full p n q seen (g.set ⟨g.top.own,dn,g.top.defs++fs⟩)) hz rfl rfl ?_ rfl
    show _=full p n q seen (g.set ⟨g.top.own,dn,g.top.defs++fs⟩)
    simp only[g,full,Ch.set,Ch.top,Ch.heap,nmB,rowB,List.map_append]
    rfl
end Go.Proofs.YtddaclniamlmbaaGreatDoor
