import Derived.Test.YtlocalghkiepmaaGreatPk30
import Derived.Test.YtlocalghkiepmaaGreatPk32
import Derived.Test.YtlocalghkiepmaaGreatPk38
import Derived.Test.YtlocalghkiepmaaGreatPk39
set_option linter.unusedSimpArgs false
set_option linter.unusedVariables false
namespace Go.Proofs.YtlocalghkiepmaaGreat
open Go Go.TL
attribute [local irreducible] TR TO Then InBlock RetK Sound LoopK Kf GG ThenL
attribute [local irreducible] WeakK
set_option maxHeartbeats 4000000 in
theorem auts11_sound:∀(k:Nat) (w:Plc),SmallW w->∀(l:List Auto),l.length≤1000000000->(∀a∈l,nestOk k a/\tyA k a/\(autoT a).w+w.env.length≤1000000000)->
  Pure Tryz.prog 79 [.t (.ag (progC w.p)),.i w.node.1,.t (declsT w.env),.t (.sl 1 (l.map autoT))] (.i (firstE (autoTy k w) l)):=by
 intro k
 induction k with
 | zero=>
   intro w hw l hl ha
   obtain rfl:l=[]:=by
    cases l with
    | nil=>rfl
    | cons a l=>exact(ha a (by simp)).1.elim
   unfold progC
   refine Sound.of tabOk Tryz.func79 (by kernel_rfl) rfl rfl ?_
   repeat' (first|refine wkt ?_|refine wk ?_|fail)
   refine TR.loopN 0 (fun _=>True) (fun j=>[(3,.t (.sl 1 [])),(9,.i j)]) (fun _=>[]) trivial (fun j h _=>absurd h (Nat.not_lt_zero j)) (fun _=>?_)
   repeat' (first|refine wkt ?_|refine wk ?_|exact wkc|intro hc|refine wk2 ?_ ?_|fail)
   exact wkr
 | succ k ih=>
   intro w hw l hl ha
   have hml:(l.map autoT).length=l.length:=List.length_map _
   unfold progC
   refine Sound.of tabOk Tryz.func79 (by kernel_rfl) rfl rfl ?_
   repeat' (first|refine wkt ?_|refine wk ?_|fail)
   refine TR.loopN l.length (fun j=>firstE (autoTy (k+1) w) (l.take j)=0) (fun j=>[(1,.i w.node.1),(2,.t (declsT w.env)),(3,.t (.sl 1 (l.map autoT))),(4,.cp [.sl 2 (w.p.enums.map enT),nodesT w.p.nodes] 0),(9,.i j)]) (fun _=>[]) rfl (fun j hlj hj=>?_) (fun hj=>?_)
   ·have hx:=at_auto hlj
    have htk:=firstE_take hlj hj
    have hat:=firstE_at hlj hj
    obtain⟨hn,hty,hwa⟩:=ha _ (List.getElem_mem hlj)
    generalize l[j]=a at*
    have hwa2:=w_auto a
    have hls:=w_lenM staT 6 a.states
    have hms:(a.states.map staT).length=a.states.length:=List.length_map _
    unfold autoC at hx
    rw[show autoTy (k+1) w a=firstE (stTy w (autoTy k)) a.states from rfl]at htk hat
    generalize firstE (autoTy (k+1) w) l=R at*
    repeat' (first|refine wkt ?_|refine wk ?_|exact wkc|intro hc|refine wk2 ?_ ?_|fail)
    refine TR.loopN a.states.length (fun i=>firstE (stTy w (autoTy k)) (a.states.take i)=0) (fun i=>[(1,.i w.node.1),(2,.t (declsT w.env)),(3,.t (.sl 1 (l.map autoT))),(4,.cp [.sl 2 (w.p.enums.map enT),nodesT w.p.nodes] 0),(9,.i j),(10,.i i)]) (fun _=>[]) rfl (fun i hli hi=>?_) (fun hi=>?_)
    ·have hy:=at_sta hli
     have htk2:=firstE_take hli hi
     have hat2:=firstE_at hli hi
     have hwx:=w_inM (f:=staT) (sz:=6) (List.getElem_mem hli)
     obtain⟨e1,e2,e3,e4⟩:=hty _ (List.getElem_mem hli)
     have hnb:=hn _ (List.getElem_mem hli)
     generalize a.states[i]=x at*
     have hws:=w_sta x
     have b1:=w_lenM declT 3 x.locals
     have b2:=w_lenM equT 7 x.eqs
     have b3:=w_lenM autoT 1 x.autos
     have b4:=w_lenM tranT 8 x.unl
     have b5:=w_lenM tranT 8 x.unt
     have hdl:(declsT x.locals).w=(T.sl 3 (x.locals.map declT)).w:=rfl
     have hwi:SmallW ⟨w.p,w.node,x.locals++w.env⟩:=hw.more (by omega)
     have t1:=trans11_sound w hw x.unl (by omega) e2
     have t2:=eqs11_sound ⟨w.p,w.node,x.locals++w.env⟩ hwi x.eqs (by omega) e1
     have t3:=ih ⟨w.p,w.node,x.locals++w.env⟩ hwi x.autos (by omega) (fun b hb=>⟨hnb b hb,e4 b hb,by
      have:=w_inM (f:=autoT) (sz:=1) hb
      simp only[List.length_append];omega⟩)
     have t4:=trans11_sound ⟨w.p,w.node,x.locals++w.env⟩ hwi x.unt (by omega) e3
     have hz:stTy w (autoTy k) x=orE (firstE (fun t:Tran=>condT w t.cond) x.unl) (orE (firstE (eqnT ⟨w.p,w.node,x.locals++w.env⟩) x.eqs) (orE (firstE (autoTy k ⟨w.p,w.node,x.locals++w.env⟩) x.autos) (firstE (fun t:Tran=>condT ⟨w.p,w.node,x.locals++w.env⟩ t.cond) x.unt))):=rfl
     rw[<-firstI_snd (eqnT ⟨w.p,w.node,x.locals++w.env⟩)]at hz
     rw[show declsT (x.locals++w.env)= .sl 3 (x.locals.map declT++w.env.map declT) from by simp[declsT]]at t2 t3 t4
     generalize stTy w (autoTy k) x=z at*
     generalize firstE (fun t:Tran=>condT w t.cond) x.unl=z1 at*
     generalize firstI (eqnT ⟨w.p,w.node,x.locals++w.env⟩) x.eqs=z2 at*
     generalize firstE (autoTy k ⟨w.p,w.node,x.locals++w.env⟩) x.autos=z3 at*
     generalize firstE (fun t:Tran=>condT ⟨w.p,w.node,x.locals++w.env⟩ t.cond) x.unt=z4 at*
     obtain⟨z2a,z2⟩:=z2
     simp only at t2 hz
     unfold staC at hy
     unfold progC at t1 t2 t3 t4
     have m1:(x.locals.map declT).length=x.locals.length:=List.length_map _
     have m2:(w.env.map declT).length=w.env.length:=List.length_map _
     have hret:z≠0->R=z:=fun h=>by rw[hat2 h]at hat;exact hat h
     clear ih ha hat hat2 hwi e1 e2 e3 e4
     repeat' (first|refine wkt ?_|refine wk ?_|fail)
     refine wk2 ?_ ?_ <;> intro hlt' <;> try(exfalso;omega)
     repeat' (first|refine wkt ?_|refine wv t1 ?_|refine wk ?_|fail)
     refine wk2 (fun hc=>?_) (fun hc=>?_)
     ·repeat' (first|refine wkt ?_|refine wk ?_|fail)
      have hzz:z=z1:=by clear t1 t2 t3 t4;grind [orE]
      rw[hret (by rw[hzz];exact hc),hzz];exact wkr
     ·repeat' (first|(apply TO.build0 tabOk;exact rfl;exact rfl;exact rfl;exact rfl;exact rfl)|(apply TO.append0 tabOk;exact rfl;exact rfl;exact rfl;exact rfl;exact rfl;exact rfl;exact rfl;exact rfl;exact rfl;exact rfl;exact rfl;exact rfl;exact rfl;(first|omega|(simp only[List.length_map];omega));exact rfl)|refine Go.TL.TR.region ?_|(apply Go.TL.TO.go tabOk 1 true;exact rfl;(first|apply Go.TL.GG.to|apply Go.TL.GG.stop|apply Go.TL.GG.tr0|apply Go.TL.GG.tr|apply Go.TL.GG.ex))|(apply Go.TL.TR.go0 tabOk 1 true;exact rfl;(first|apply Go.TL.GG.to|apply Go.TL.GG.stop|apply Go.TL.GG.tr0|apply Go.TL.GG.tr|apply Go.TL.GG.ex))|(apply Go.TL.TR.go tabOk 1 true;exact rfl;(first|apply Go.TL.GG.to|apply Go.TL.GG.stop|apply Go.TL.GG.tr0|apply Go.TL.GG.tr|apply Go.TL.GG.ex))|(apply Go.TL.TExit.go tabOk 1 true;exact rfl;(first|apply Go.TL.GG.to|apply Go.TL.GG.stop|apply Go.TL.GG.tr0|apply Go.TL.GG.tr|apply Go.TL.GG.ex))|fail)
      repeat' (first|refine wkt ?_|refine wv t2 ?_|refine wv t3 ?_|refine wv t4 ?_|refine wk ?_|exact wkc|intro hc|refine wk2 ?_ ?_|fail)
      ·have hzz:z=z2:=by clear t1 t2 t3 t4;grind [orE]
       rw[hret (by rw[hzz];assumption),hzz];exact wkr
      ·have hzz:z=z3:=by clear t1 t2 t3 t4;grind [orE]
       rw[hret (by rw[hzz];assumption),hzz];exact wkr
      ·have hzz:z=z4:=by clear t1 t2 t3 t4;grind [orE]
       rw[hret (by rw[hzz];assumption),hzz];exact wkr
      ·have hzz:z=0:=by clear t1 t2 t3 t4;grind [orE]
       exact LoopK.nextC 0 hli (by rw[htk2];exact hzz) rfl rfl rfl rfl rfl
    ·rw[List.take_length]at hi
     repeat' (first|refine wkt ?_|refine wk ?_|exact wkc|intro hc|refine wk2 ?_ ?_|fail)
     exact LoopK.nextN hlj (by rw[htk];exact hi)
   ·rw[List.take_length]at hj
    rw[hj]
    repeat' (first|refine wkt ?_|refine wk ?_|exact wkc|intro hc|refine wk2 ?_ ?_|fail)
    exact wkr
end Go.Proofs.YtlocalghkiepmaaGreat
namespace Go.Proofs.YtlocalghkiepmaaGreat
open Go Go.TL
attribute [local irreducible] TR TO Then InBlock RetK Sound LoopK Kf GG ThenL
theorem nI_val'{k:Nat}(h:(k:Int)≤9223372036854775807):(nI k).1=k:=by unfold nI;rw[dif_pos h]
set_option maxHeartbeats 4000000 in
theorem rest11_sound (w:Plc) (hw:SmallW w) (k:Nat) (hk:k<w.p.nodes.length) (hnk:w.node.1=k) (hT:NodTy w.p.nodes[k]) (hwe:w.env.length≤300000000):Pure Tryz.prog 40 [.t (.ag (progC w.p)),.i w.node.1,.t (declsT w.env)] (.i (restTy w w.p.nodes[k])):=by
 have hx:=at_nod hk
 have hml:(w.p.nodes.map nodT).length=w.p.nodes.length:=List.length_map _
 generalize w.p.nodes[k]=n at*
 have hok2:=hT.w
 have hwn:=w_nod n
 have b2:=w_lenM autoT 1 n.autos
 have b3:=w_lenM exT 6 n.assume
 have b4:=w_lenM exT 6 n.ensure
 have m4:(n.assume.map exT).length=n.assume.length:=List.length_map _
 have m5:(n.ensure.map exT).length=n.ensure.length:=List.length_map _
 have hau:=auts11_sound 3 w hw n.autos (by omega) (fun a ha=>⟨hT.nest a ha,hT.tyA a ha,by have:=w_inM (f:=autoT) (sz:=1) ha;omega⟩)
 have has:=fun(e:Ex) (he:e∈n.assume)=>cond11_sound w hw e (hT.assume e he)
 have hen:=fun(e:Ex) (he:e∈n.ensure)=>cond11_sound w hw e (hT.ensure e he)
 have hz:restTy w n=orE (firstE (autoTy 3 w) n.autos) (orE (firstE (condT w) n.assume) (firstE (condT w) n.ensure)):=rfl
 generalize restTy w n=z at*
 generalize firstE (autoTy 3 w) n.autos=z1 at*
 unfold progC nodC at*
 rw[show(w.p.nodes.map nodT)[k]?=(w.p.nodes.map nodT)[w.node.1.toNat]? from by rw[hnk,Int.toNat_natCast]]at hx
 have hn1:0≤w.node.1:=by omega
 have hn2:w.node.1<w.p.nodes.length:=by omega
 refine Sound.of tabOk Tryz.func40 (by kernel_rfl) rfl rfl ?_
 repeat' (first|refine wkt ?_|refine wka ?_|refine wv hau ?_|refine wk ?_|exact wkc|intro hc|refine wk2 ?_ ?_|fail)
 ·have hzz:z=z1:=by clear hau has hen;grind [orE]
  rw[hzz];exact wkr
 have hz1:z1=0:=Decidable.not_not.1 hc
 subst hz1
 rw[show ∀b,orE 0 b=b from fun b=>if_pos rfl]at hz
 refine TR.loopN n.assume.length (fun j=>firstE (condT w) (n.assume.take j)=0) (fun j=>[(1,.i w.node.1),(2,.t (declsT w.env)),(3,.cp [.sl 2 (w.p.enums.map enT),nodesT w.p.nodes] 0),(7,.cp [.s n.name,declsT n.ins,declsT n.outs,declsT n.locals,.sl 7 (n.eqs.map equT),.sl 1 (n.autos.map autoT),.sl 6 (n.assume.map exT),.sl 6 (n.ensure.map exT)] 0),(9,.i j)]) (fun _=>[]) rfl (fun j hlj hj=>?_) (fun hj=>?_)
 ·have hxj:=at_exT hlj
  have hi:=has _ (List.getElem_mem hlj)
  have htk:=firstE_take hlj hj
  have hat:=firstE_at hlj hj
  generalize n.assume[j]=x at*
  generalize condT w x=r at*
  unfold exC at hxj hi
  clear hau has hen
  repeat' (first|refine wkt ?_|refine wka ?_|refine rg [.t (.ag [.sl 2 (w.p.enums.map enT),nodesT w.p.nodes]),.i w.node.1,.t (declsT w.env),.cp [.s n.name,declsT n.ins,declsT n.outs,declsT n.locals,.sl 7 (n.eqs.map equT),.sl 1 (n.autos.map autoT),.sl 6 (n.assume.map exT),.sl 6 (n.ensure.map exT)] 6,.t (.sl 6 (n.assume.map exT)),.i j,.cp [T.n x.kind,T.n x.op,T.n x.t,T.n x.v,.s x.name,.sl 6 (x.args.map exT)] 0,.t (.ag [T.n x.kind,T.n x.op,T.n x.t,T.n x.v,.s x.name,.sl 6 (x.args.map exT)]),.i r,.i r] ?_ ?_|refine wv hi ?_|exact trivial|exact And.intro rfl rfl|refine And.intro (fun H env=>?_) ?_|refine And.intro (fun env=>?_) ?_|refine wk ?_|exact wkc|intro hc|refine wk2 ?_ ?_|fail)
  ·rw[hat hc]at hz
   have hzz:z=r:=by clear hi;grind [orE]
   rw[hzz];exact wkr
  ·exact LoopK.nextN hlj (by rw[htk];exact Decidable.not_not.1 hc)
 rw[List.take_length]at hj
 rw[hj]at hz
 rw[show ∀b,orE 0 b=b from fun b=>if_pos rfl]at hz
 repeat' (first|refine wkt ?_|refine wk ?_|exact wkc|intro hc|refine wk2 ?_ ?_|fail)
 refine TR.loopN n.ensure.length (fun j=>firstE (condT w) (n.ensure.take j)=0) (fun j=>[(1,.i w.node.1),(2,.t (declsT w.env)),(3,.cp [.sl 2 (w.p.enums.map enT),nodesT w.p.nodes] 0),(7,.cp [.s n.name,declsT n.ins,declsT n.outs,declsT n.locals,.sl 7 (n.eqs.map equT),.sl 1 (n.autos.map autoT),.sl 6 (n.assume.map exT),.sl 6 (n.ensure.map exT)] 0),(10,.i j)]) (fun _=>[]) rfl (fun j hlj hj=>?_) (fun hj=>?_)
 ·have hxj:=at_exT hlj
  have hi:=hen _ (List.getElem_mem hlj)
  have htk:=firstE_take hlj hj
  have hat:=firstE_at hlj hj
  generalize n.ensure[j]=x at*
  generalize condT w x=r at*
  unfold exC at hxj hi
  clear hau has hen
  repeat' (first|refine wkt ?_|refine wka ?_|refine rg [.t (.ag [.sl 2 (w.p.enums.map enT),nodesT w.p.nodes]),.i w.node.1,.t (declsT w.env),.cp [.s n.name,declsT n.ins,declsT n.outs,declsT n.locals,.sl 7 (n.eqs.map equT),.sl 1 (n.autos.map autoT),.sl 6 (n.assume.map exT),.sl 6 (n.ensure.map exT)] 7,.t (.sl 6 (n.ensure.map exT)),.i j,.cp [T.n x.kind,T.n x.op,T.n x.t,T.n x.v,.s x.name,.sl 6 (x.args.map exT)] 0,.t (.ag [T.n x.kind,T.n x.op,T.n x.t,T.n x.v,.s x.name,.sl 6 (x.args.map exT)]),.i r,.i r] ?_ ?_|refine wv hi ?_|exact trivial|exact And.intro rfl rfl|refine And.intro (fun H env=>?_) ?_|refine And.intro (fun env=>?_) ?_|refine wk ?_|exact wkc|intro hc|refine wk2 ?_ ?_|fail)
  ·rw[hat hc]at hz
   have hzz:z=r:=by clear hi;grind [orE]
   rw[hzz];exact wkr
  ·exact LoopK.nextN hlj (by rw[htk];exact Decidable.not_not.1 hc)
 rw[List.take_length]at hj
 rw[hj]at hz
 subst hz
 repeat' (first|refine wkt ?_|refine wk ?_|exact wkc|intro hc|refine wk2 ?_ ?_|fail)
 exact wkr
def typesR(p:Prog):(Int×Int)×Int:=if(chk10 p).2≠0 then chk10 p else tyNods p p.nodes.zipIdx
set_option maxHeartbeats 4000000 in
theorem check11_sound (p:Prog) (hw:(T.ag (progC p)).w≤100000000) (hsn:(chk10 p).2=0->(shapeX p).2=0):Pure Tryz.prog 12 [.t (.ag (progC p))] (.tup [.t (.ag [T.i (typesR p).1.1,T.i (typesR p).1.2]),.i (typesR p).2]):=by
 have hsh:=check10_sound p hw
 obtain⟨hP,hln,hpl⟩:=smallP_of hw
 have hml:(p.nodes.map nodT).length=p.nodes.length:=List.length_map _
 have hzn:p.nodes.zipIdx.length=p.nodes.length:=by simp
 have hR:typesR p=typesR p:=rfl
 conv at hR=>rhs;unfold typesR
 generalize typesR p=R at hR⊢
 by_cases hs0:(chk10 p).2≠0
 ·rw[if_pos hs0]at hR
  generalize chk10 p=z at*
  obtain⟨⟨z1,z2⟩,z3⟩:=z
  simp only at hs0 hsh
  unfold progC at*
  refine Sound.of tabOk Tryz.func12 (by kernel_rfl) rfl rfl ?_
  repeat' (first|refine wkb ?_|refine wv hsh ?_|(apply TO.store tabOk;exact rfl;exact rfl;exact rfl;exact rfl;exact rfl;exact rfl;exact Nat.le_of_ble_eq_true rfl;exact rfl;exact Nat.le_of_ble_eq_true rfl;exact rfl)|exact trivial|exact And.intro rfl rfl|refine And.intro (fun H env=>?_) ?_|refine And.intro (fun env=>?_) ?_|refine wk ?_|exact wkc|intro hc|refine wk2 ?_ ?_|fail)
  all_goals first
   | (exfalso;omega)
   | (rw[hR];exact wkr)
 rw[if_neg hs0]at hR
 have hs1:(chk10 p).2=0:=Decidable.not_not.1 hs0
 have hty:=fun(n:Nod) (hn:n∈p.nodes)=>node_ty (shape_nodes (hsn hs1) n hn) (hln n hn)
 rw[hs1]at hsh
 generalize (chk10 p).1=z at*
 obtain⟨w1,w2⟩:=z
 have hvars:=fun(n:Nod) (hn:n∈p.nodes)=>varsR_sound n (hP.each n hn)
 have hvl:=fun(n:Nod) (hn:n∈p.nodes)=>(show(varsL n).length≤300000000 by have:=(hP.each n hn);have h1:=this.ins;have h2:=this.outs;have h3:=this.locals;simp[varsL];omega)
 have hwk:∀k (hk:k<p.nodes.length),SmallW ⟨p,nI k,varsL p.nodes[k]⟩:=fun k hk=>⟨hP.nodes,hP.each,by have:=hvl _ (List.getElem_mem hk);show(varsL p.nodes[k]).length≤_;omega⟩
 have heqs:=fun k (hk:k<p.nodes.length)=>eqs11_sound ⟨p,nI k,varsL p.nodes[k]⟩ (hwk k hk) p.nodes[k].eqs (by
  have h1:=(hty _ (List.getElem_mem hk)).w
  have h2:=w_nod p.nodes[k]
  have h3:=w_lenM equT 7 p.nodes[k].eqs
  omega) (hty _ (List.getElem_mem hk)).eqs
 have hrest:=fun k (hk:k<p.nodes.length)=>rest11_sound ⟨p,nI k,varsL p.nodes[k]⟩ (hwk k hk) k hk (nI_val' (by omega)) (hty _ (List.getElem_mem hk)) (hvl _ (List.getElem_mem hk))
 unfold progC at*
 simp only at hsh heqs hrest
 refine Sound.of tabOk Tryz.func12 (by kernel_rfl) rfl rfl ?_
 repeat' (first|refine wkb ?_|refine wv hsh ?_|(apply TO.store tabOk;exact rfl;exact rfl;exact rfl;exact rfl;exact rfl;exact rfl;exact Nat.le_of_ble_eq_true rfl;exact rfl;exact Nat.le_of_ble_eq_true rfl;exact rfl)|exact trivial|exact And.intro rfl rfl|refine And.intro (fun H env=>?_) ?_|refine And.intro (fun env=>?_) ?_|refine wk ?_|exact wkc|intro hc|refine wk2 ?_ ?_|fail)
 all_goals try(exfalso;omega)
 refine TR.loopN p.nodes.length (fun k=>firstE (fun x=>(nodG p x).2) (p.nodes.zipIdx.take k)=0) (fun k=>[(1,.cp [.sl 2 (p.enums.map enT),nodesT p.nodes] 0),(2,.ref 0 0),(6,.i k)]) (fun _=>[.cells [.i 0,.i 0],.cells [.i w1,.i w2]]) rfl (fun k hlt ha=>?_) (fun ha=>?_)
 ·have hx:=at_nod hlt
  have hzi:p.nodes.zipIdx[k]'(by rw[hzn];exact hlt)=(p.nodes[k],k):=by simp
  have g1:=tyNods_at p (by rw[hzn];exact hlt) ha
  have g2:=firstE_next (f:=fun x=>(nodG p x).2) (by rw[hzn];exact hlt) ha
  rw[hzi]at g1 g2
  have hv:=hvars _ (List.getElem_mem hlt)
  have he:=heqs k hlt
  have hr:=hrest k hlt
  have hk63:(k:Int)≤9223372036854775807:=by omega
  rw[nI_val' hk63]at he hr
  have hng:nodG p (p.nodes[k],k)=if(firstI (eqnT ⟨p,nI k,varsL p.nodes[k]⟩) p.nodes[k].eqs).2≠0 then firstI (eqnT ⟨p,nI k,varsL p.nodes[k]⟩) p.nodes[k].eqs else(-1,restTy ⟨p,nI k,varsL p.nodes[k]⟩ p.nodes[k]):=by
   rw[firstI_snd];rfl
  generalize firstI (eqnT ⟨p,nI k,varsL p.nodes[k]⟩) p.nodes[k].eqs=q at*
  generalize restTy ⟨p,nI k,varsL p.nodes[k]⟩ p.nodes[k]=r at*
  generalize nodG p (p.nodes[k],k)=g at*
  generalize p.nodes[k]=n at*
  obtain⟨q1,q2⟩:=q
  simp only at he hng
  clear hvars heqs hrest hwk hty hvl hsh
  unfold nodC at hx hv
  repeat' (first|refine wkb ?_|refine rg [.t (.ag [.sl 2 (p.enums.map enT),nodesT p.nodes]),.i k,.t (declsT (varsL n)),.cp [.sl 2 (p.enums.map enT),nodesT p.nodes] 1,.t (nodesT p.nodes),.i k,.cp [.s n.name,declsT n.ins,declsT n.outs,declsT n.locals,.sl 7 (n.eqs.map equT),.sl 1 (n.autos.map autoT),.sl 6 (n.assume.map exT),.sl 6 (n.ensure.map exT)] 0,.cp [.s n.name,declsT n.ins,declsT n.outs,declsT n.locals,.sl 7 (n.eqs.map equT),.sl 1 (n.autos.map autoT),.sl 6 (n.assume.map exT),.sl 6 (n.ensure.map exT)] 4,.t (.sl 7 (n.eqs.map equT)),.tup [.i q1,.i q2],.tup [.i q1,.i q2],.i q1,.i q2,.i q1,.i q2] ?_ ?_|refine wv hv ?_|refine wv he ?_|refine wv hr ?_|(apply TO.store tabOk;exact rfl;exact rfl;exact rfl;exact rfl;exact rfl;exact rfl;exact Nat.le_of_ble_eq_true rfl;exact rfl;exact Nat.le_of_ble_eq_true rfl;exact rfl)|exact trivial|exact And.intro rfl rfl|refine And.intro (fun H env=>?_) ?_|refine And.intro (fun env=>?_) ?_|refine wk ?_|exact wkc|intro hc|refine wk2 ?_ ?_|fail)
  ·rw[if_pos hc]at hng
   subst hng
   rw[g1 hc]at hR
   rw[hR];exact wkr
  ·rename_i c1
   rw[if_neg c1]at hng
   subst hng
   rw[g1 hc]at hR
   rw[hR];exact wkr
  ·rename_i c1
   rw[if_neg c1]at hng
   subst hng
   exact LoopK.nextN hlt (g2 (Decidable.not_not.1 hc))
 ·rw[<-hzn,List.take_length]at ha
  rw[tyNods_zero p ha]at hR
  clear hvars heqs hrest hwk hty hvl hsh
  repeat' (first|refine wkb ?_|(apply TO.store tabOk;exact rfl;exact rfl;exact rfl;exact rfl;exact rfl;exact rfl;exact Nat.le_of_ble_eq_true rfl;exact rfl;exact Nat.le_of_ble_eq_true rfl;exact rfl)|exact trivial|exact And.intro rfl rfl|refine And.intro (fun H env=>?_) ?_|refine And.intro (fun env=>?_) ?_|refine wk ?_|exact wkc|intro hc|refine wk2 ?_ ?_|fail)
  all_goals first
   | (exfalso;omega)
   | (rw[hR];exact wkr)
structure SeenAt (p:Prog) (tags:List Str) (i:Nat) (seen:List (Int×Str×Int)):Prop where
 t:∀x,(seenGet seen 0 x).isSome=true ↔ x∈tags
 n:∀nm,(seenGet seen 1 nm=none/\nm ∉ (p.nodes.take i).map Nod.name)\/(∃k:Nat,seenGet seen 1 nm=some (k:Int)/\k<i/\∃n,p.nodes[k]?=some n/\(p.nodes.take i).find? (fun n=>decide (n.name=nm))=some n)
theorem seen_app(a b:List (Int×Str×Int))(k:Int)(s:Str):seenGet (a++b) k s=(seenGet a k s).or (seenGet b k s):=by
 unfold seenGet
 rw[List.find?_append]
 cases List.find? (fun e=>decide (e.1=k/\e.2.1=s)) a <;> simp
theorem seen_one(k v:Int)(s:Str)(j:Int)(x:Str):seenGet [(k,s,v)] j x=if k=j/\s=x then some v else none:=by
 unfold seenGet
 by_cases h:k=j/\s=x
 ·rw[if_pos h];simp[h]
 ·rw[if_neg h,List.find?_cons,decide_eq_false h];rfl
theorem find_none{l:List Nod}{nm:Str}:l.find? (fun n=>decide (n.name=nm))=none ↔ nm ∉ l.map Nod.name:=by
 simp[List.find?_eq_none]
theorem find_some{l:List Nod}{nm:Str}{n:Nod}(h:l.find? (fun n=>decide (n.name=nm))=some n):nm∈l.map Nod.name:=by
 have h1:=List.mem_of_find?_eq_some h
 have h2:=List.find?_some h
 exact List.mem_map.2 ⟨n,h1,by simpa using h2⟩
theorem SeenAt.isSome{p:Prog}{tags:List Str}{i:Nat}{seen:List (Int×Str×Int)}(h:SeenAt p tags i seen)(nm:Str):(seenGet seen 1 nm).isSome=true ↔ nm∈(p.nodes.take i).map Nod.name:=by
 rcases h.n nm with ⟨h1,h2⟩|⟨k,h1,_,n,_,h4⟩
 ·rw[h1];simp only[Option.isSome_none,Bool.false_eq_true,false_iff];exact h2
 ·rw[h1];simp only[Option.isSome_some,true_iff];exact find_some h4
def CallOk(p:Prog)(seen:List (Int×Str×Int))(node:Int):Prop:=∀nm,(seenGet seen 1 nm=none/\calleeR p node nm=none)\/(∃i,seenGet seen 1 nm=some i/\((i<node/\∃n,p.nodes[i.toNat]?=some n/\calleeR p node nm=some n)\/(¬i<node/\calleeR p node nm=none)))
theorem one_eq{p:Prog}{seen:List (Int×Str×Int)}{node:Int}(hC:CallOk p seen node){s:Plr}(hp:s.p=p)(hn:s.node=node){vis:List Str}(hv:∀x,x∈vis ↔ x∈s.vis)(left:Int)(x:Ex):oneS p seen node vis left x=oneRf s left x:=by
 unfold oneS oneRf
 have hv':=hv x.name
 rw[hp,hn]
 have hcall:callE p seen node left x=(match calleeR p node x.name with
  | none=>6
  | some n=>if(x.args.length:Int)≠n.ins.length+x.v.1\/(n.outs.length:Int)≠left then 9 else 0):=by
  unfold callE
  rcases hC x.name with ⟨h1,h2⟩|⟨i,h1,⟨h2,n,h3,h4⟩|⟨h2,h3⟩⟩
  ·rw[h1,h2]
  ·rw[h1,h4]
   simp only[if_pos h2,h3]
   by_cases a1:(x.args.length:Int)≠n.ins.length+x.v.1
   ·rw[if_pos a1,if_pos (.inl a1)]
   ·by_cases a2:(n.outs.length:Int)≠left
    ·rw[if_neg a1,if_pos a2,if_pos (.inr a2)]
    ·rw[if_neg a1,if_neg a2,if_neg (fun h=>h.elim a1 a2)]
  ·rw[h1,h3]
   simp only[if_neg h2]
 rw[hcall]
 by_cases hk:x.kind.1=2\/x.kind.1=8\/x.kind.1=9
 ·rw[if_pos hk]
  by_cases hm:x.name∈vis
  ·rw[if_pos hm,if_neg (fun h=>h.2 (hv'.1 hm)),if_neg (by rcases hk with h|h|h <;> rw[h] <;> decide)]
  ·rw[if_neg hm,if_pos ⟨hk,fun h=>hm (hv'.2 h)⟩]
 ·rw[if_neg hk]
  exact(if_neg (show ¬((x.kind.1=2\/x.kind.1=8\/x.kind.1=9)/\x.name ∉ s.vis) from fun h=>hk h.1)).symm
theorem expr_eq{p:Prog}{seen:List (Int×Str×Int)}{node:Int}(hC:CallOk p seen node){s:Plr}(hp:s.p=p)(hn:s.node=node){vis:List Str}(hv:∀x,x∈vis ↔ x∈s.vis)(left:Int)(e:Ex):exprS p seen node vis left e=exprRf s left e:=by
 unfold exprS exprRf
 rw[one_eq hC hp hn hv,show oneS p seen node vis 1=oneRf s 1 from funext fun x=>one_eq hC hp hn hv 1 x]
theorem foldN_inv{A B X:Type}{f:A->X->A×Int}{g:B->X->B×Int}(R:A->B->Prop):∀(l:List X),(∀x∈l,∀a b,R a b->(f a x).2=(g b x).2/\((g b x).2=0->R (f a x).1 (g b x).1))->∀a b,R a b->foldN f a l=foldN g b l
 | [],_,a,b,h=>rfl
 | x::l,hs,a,b,h=>by
   obtain⟨h1,h2⟩:=hs x (by simp) a b h
   simp only[foldN]
   by_cases h0:(g b x).2=0
   ·rw[if_pos h0,if_pos (h1.trans h0),foldN_inv R l (fun y hy=>hs y (by simp[hy])) _ _ (h2 h0)]
   ·rw[if_neg h0,if_neg (by rw[h1];exact h0)]
theorem sampl_app(V:List Str)(a b:List Decl):samplE V (a++b)=orE (samplE V a) (samplE V b):=by
 unfold samplE
 rw[firstE_append];rfl
theorem sampl_nil{V:List Str}:∀ {a:List Decl},(∀d∈a,d.clock=[])->samplE V a=0
 | [],_=>rfl
 | d::a,h=>by
   unfold samplE
   rw[firstE,h d (by simp)]
   exact sampl_nil (V:=V) (a:=a) fun d hd=>h d (by simp[hd])
set_option maxHeartbeats 1000000 in
theorem node_eq {p:Prog} {tags:List Str} {i:Nat} {seen:List (Int×Str×Int)} (h:SeenAt p tags i seen) {n:Nod} (hports:∀d∈n.ins++n.outs,d.clock=[]):(nodeT' p seen i n).2=(nodR p i tags n).2/\((nodR p i tags n).2≠0->(nodeT' p seen i n).1=(nodR p i tags n).1):=by
 unfold nodeT' nodR
 by_cases hd:n.name∈(p.nodes.take i).map Nod.name
 ·rw[if_pos hd,if_pos ((h.isSome _).2 hd)];exact⟨rfl,fun _=>rfl⟩
 rw[if_neg hd,if_neg (fun hh=>hd ((h.isSome _).1 hh))]
 have hC:CallOk p (seen++[(1,n.name,(i:Int))]) i:=by
  intro nm
  rw[seen_app,seen_one]
  have hcr:calleeR p (i:Int) nm=(p.nodes.take i).find? (fun n=>decide (n.name=nm)):=rfl
  rcases h.n nm with ⟨h1,h2⟩|⟨k,h1,h2,m,h3,h4⟩
  ·rw[h1,hcr,find_none.2 h2]
   by_cases he:n.name=nm
   ·rw[if_pos ⟨rfl,he⟩];exact .inr ⟨i,rfl,.inr ⟨by omega,rfl⟩⟩
   ·rw[if_neg (fun hh=>he hh.2)];exact .inl ⟨rfl,rfl⟩
  ·rw[h1,hcr,h4];exact .inr ⟨k,rfl,.inl ⟨by omega,m,h3,rfl⟩⟩
 have ht:∀x,(seenGet (seen++[(1,n.name,(i:Int))]) 0 x).isSome=true ↔ x∈tags:=by
  intro x
  rw[seen_app,seen_one,if_neg (by rintro⟨h,_⟩;cases h),Option.or_none]
  exact h.t x
 generalize seen++[(1,n.name,(i:Int))]=seen' at*
 unfold nodeS
 simp only[]
 obtain⟨d1,d2⟩:=decl_inv ht [] (varsL n)
 have hsam:∀V,samplE V (varsL n)=samplE V n.locals:=fun V=>by
  unfold varsL
  rw[sampl_app,sampl_app,sampl_nil (fun d hd=>hports d (by simp[hd])),sampl_nil (fun d hd=>hports d (by simp[hd])),List.append_nil]
  rfl
 have hdR:(declR [] tags (varsL n)).2=orE (foldS (declF10 tags) [] (varsL n)).2 (samplE (foldS (declF10 tags) [] (varsL n)).1 n.locals)/\((declR [] tags (varsL n)).2=0->(declR [] tags (varsL n)).1=(foldS (declF10 tags) [] (varsL n)).1):=by
  unfold declR
  rw[hsam]
  split
  ·rename_i h0;exact⟨by simp only[orE,if_neg h0],fun hh=>absurd hh h0⟩
  ·rename_i h0
   have h0':=Decidable.not_not.1 h0
   split
   ·rename_i h1;exact⟨by simp only[orE,h0',if_true],fun hh=>absurd hh h1⟩
   ·rename_i h1;exact⟨by simp only[orE,h0',if_true];exact(Decidable.not_not.1 h1).symm,fun _=>rfl⟩
 unfold declS
 generalize foldS (declF seen' []) lv0 (varsL n)=r1 at*
 generalize foldS (declF10 tags) [] (varsL n)=q1 at*
 generalize declR [] tags (varsL n)=Q1 at*
 obtain⟨hd1,hd2⟩:=hdR
 by_cases z1:q1.2=0
 case neg=>
  have e2:Q1.2=q1.2:=by rw[hd1];simp only[orE,if_neg z1]
  rw[if_pos (show r1.2≠0 by rw[d1];exact z1),if_pos (show Q1.2≠0 by rw[e2];exact z1)]
  exact⟨d1.trans e2.symm,fun _=>rfl⟩
 obtain⟨v1,v2,v3⟩:=d2 z1
 rw[List.nil_append]at v1
 rw[if_neg (show ¬r1.2≠0 by rw[d1,z1];decide),<-v1]
 by_cases z2:samplE q1.1 n.locals=0
 case neg=>
  have e2:Q1.2=samplE q1.1 n.locals:=by rw[hd1];simp only[orE,z1,if_true]
  rw[if_pos z2,if_pos (show Q1.2≠0 by rw[e2];exact z2)]
  exact⟨e2.symm,fun _=>rfl⟩
 have eQ:Q1.2=0:=by rw[hd1];simp only[orE,z1,if_true];exact z2
 have hQ1:=hd2 eQ
 rw[if_neg (show ¬samplE q1.1 n.locals≠0 by simp[z2]),if_neg (show ¬Q1.2≠0 by simp[eQ]),hQ1]
 have hE:∀vis left e,exprS p seen' i vis left e=exprRf ((⟨p,i,q1.1,n.ins.map Decl.name,tags⟩:Plr).at vis) left e:=fun vis left e=>expr_eq hC (s:=(⟨p,i,q1.1,n.ins.map Decl.name,tags⟩:Plr).at vis) rfl rfl (fun x=>Iff.rfl) left e
 have hI:Inv ⟨p,i,q1.1,n.ins.map Decl.name,tags⟩ [] ((n.ins.map Decl.name).foldl ins []) [] [] r1.1:=⟨by rw[List.nil_append];exact v1,fun y=>by
  rw[mem_insL,v2];simp,by rw[v3];rfl,fun y=>by rw[v2,v3],by rw[v3];exact List.nodup_nil,fun y hy=>by rw[v3]at hy;cases hy⟩
 have hclA:claimE p seen' i n.ins n.assume=firstE (exprRf ⟨p,i,n.ins.map Decl.name,n.ins.map Decl.name,tags⟩ 1) n.assume:=by
  unfold claimE
  congr 1;funext e
  exact expr_eq hC rfl rfl (fun x=>by unfold seeL;rw[mem_insL];simp) 1 e
 have hclE:claimE p seen' i (n.ins++n.outs) n.ensure=firstE (exprRf ⟨p,i,n.ins.map Decl.name++n.outs.map Decl.name,n.ins.map Decl.name,tags⟩ 1) n.ensure:=by
  unfold claimE
  congr 1;funext e
  exact expr_eq hC rfl rfl (fun x=>by unfold seeL;rw[mem_insL];simp) 1 e
 rw[hclA,hclE]
 have hT:(⟨p,i,q1.1,n.ins.map Decl.name,tags⟩:Plr).tags=tags:=rfl
 generalize (⟨p,i,q1.1,n.ins.map Decl.name,tags⟩:Plr)=s at*
 have hstep:∀x∈n.eqs,∀(a':Lv) (d:List Str),Inv s [] ((n.ins.map Decl.name).foldl ins []) [] d a'->(equS p seen' i [] ((n.ins.map Decl.name).foldl ins []) a' x).2=(equR s d x).2/\((equR s d x).2=0->Inv s [] ((n.ins.map Decl.name).foldl ins []) [] (equR s d x).1 (equS p seen' i [] ((n.ins.map Decl.name).foldl ins []) a' x).1):=fun u _ b d hb=>equ_inv hE hb u
 obtain⟨f1,f2⟩:=foldS_inv (fun(a':Lv) (d:List Str)=>Inv s [] ((n.ins.map Decl.name).foldl ins []) [] d a') n.eqs hstep r1.1 [] hI
 have f3:=foldN_inv (fun(a':Lv) (d:List Str)=>Inv s [] ((n.ins.map Decl.name).foldl ins []) [] d a') n.eqs hstep r1.1 [] hI
 rw[f3]
 generalize foldN (equR s) [] n.eqs=N at*
 generalize foldS (equS p seen' i [] ((n.ins.map Decl.name).foldl ins [])) r1.1 n.eqs=r2 at*
 generalize foldS (equR s) [] n.eqs=q2 at*
 by_cases z3:q2.2=0
 case neg=>
  rw[if_pos (show r2.2≠0 by rw[f1];exact z3),if_pos z3]
  exact⟨f1,fun _=>rfl⟩
 rw[if_neg (show ¬r2.2≠0 by rw[f1,z3];decide),if_neg (show ¬q2.2≠0 by simp[z3])]
 obtain⟨k1,k2⟩:=foldS_inv (fun(a':Lv) (d:List Str)=>Inv s [] ((n.ins.map Decl.name).foldl ins []) [] d a') n.autos (f:=autoS p seen' i 3 [] ((n.ins.map Decl.name).foldl ins [])) (g:=autF (autR 3) s) (fun A _ b d hb=>aut_inv 3 hE (fun x=>by rw[hT];exact ht x) hb A) r2.1 q2.1 (f2 z3)
 generalize foldS (autoS p seen' i 3 [] ((n.ins.map Decl.name).foldl ins [])) r2.1 n.autos=r3 at*
 generalize foldS (autF (autR 3) s) q2.1 n.autos=q3 at*
 by_cases z4:q3.2=0
 case neg=>
  rw[if_pos z4]
  exact⟨by simp only[orE,if_neg (show ¬r3.2=0 from fun hh=>z4 (k1.symm.trans hh))];exact k1,fun _=>rfl⟩
 rw[if_neg (show ¬q3.2≠0 by simp[z4])]
 have e4:r3.2=0:=k1.trans z4
 have hI3:=k2 z4
 generalize firstE (exprRf ⟨p,i,n.ins.map Decl.name,n.ins.map Decl.name,tags⟩ 1) n.assume=cA at*
 generalize firstE (exprRf ⟨p,i,n.ins.map Decl.name++n.outs.map Decl.name,n.ins.map Decl.name,tags⟩ 1) n.ensure=cE at*
 by_cases z5:cA=0
 case neg=>
  rw[if_pos z5]
  exact⟨by simp only[orE,e4,if_true,if_neg z5],fun _=>rfl⟩
 rw[if_neg (show ¬cA≠0 by simp[z5])]
 by_cases z6:cE=0
 case neg=>
  rw[if_pos z6]
  exact⟨by simp only[orE,e4,z5,if_true,if_neg z6],fun _=>rfl⟩
 rw[if_neg (show ¬cE≠0 by simp[z6])]
 rw[locals_done,List.map_append,wo_congr (b:=r3.1.done) (c:=q3.1) (fun x=>by rw[hI3.dd x,hI3.dfs];rfl)]
 by_cases z7:wo (n.outs.map Decl.name++n.locals.map Decl.name) q3.1=[]
 ·simp only[ne_eq,z7,not_true_eq_false,if_true,if_false]
  exact⟨by simp only[orE,e4,z5,z6,if_true],fun hh=>hh.elim⟩
 ·simp only[ne_eq,z7,not_false_eq_true,if_true,if_false]
  exact⟨by simp only[orE,e4,z5,z6,if_true],fun _=>trivial⟩
theorem SeenAt.next{p:Prog}{tags:List Str}{i:Nat}{seen:List (Int×Str×Int)}(h:SeenAt p tags i seen){n:Nod}(hi:p.nodes[i]?=some n)(hd:n.name ∉ (p.nodes.take i).map Nod.name):SeenAt p tags (i+1) (seen++[(1,n.name,(i:Int))]):=by
 have htk:p.nodes.take (i+1)=p.nodes.take i++[n]:=by rw[List.take_add_one,hi];rfl
 refine⟨fun x=>?_,fun nm=>?_⟩
 ·rw[seen_app,seen_one,if_neg (by rintro⟨h,_⟩;cases h),Option.or_none]
  exact h.t x
 ·rw[seen_app,seen_one,htk,List.find?_append]
  rcases h.n nm with ⟨h1,h2⟩|⟨k,h1,h2,m,h3,h4⟩
  ·by_cases he:n.name=nm
   ·refine .inr ⟨i,by rw[h1,if_pos ⟨rfl,he⟩];rfl,by omega,n,hi,?_⟩
    rw[find_none.2 h2]
    simp[List.find?_cons,he]
   ·refine .inl ⟨by rw[h1,if_neg (fun hh=>he hh.2)];rfl,?_⟩
    rw[List.map_append]
    simp only[List.mem_append,not_or]
    refine⟨h2,?_⟩
    simp only[List.map_cons,List.map_nil,List.mem_singleton]
    exact fun e=>he e.symm
  ·exact .inr ⟨k,by rw[h1];rfl,by omega,m,h3,by rw[h4];rfl⟩
theorem nodes_eq{p:Prog}{tags:List Str}(hports:∀n∈p.nodes,∀d∈n.ins++n.outs,d.clock=[]):∀(l:List Nod) (b:Nat) (seen:List (Int×Str×Int)),p.nodes.drop b=l->SeenAt p tags b seen->(if(foldS (nodF p) seen (l.zipIdx b)).2=0 then((0,0),0) else(placeN p seen (l.zipIdx b),(foldS (nodF p) seen (l.zipIdx b)).2))=nods10 p tags b l
 | [],b,seen,_,_=>rfl
 | n::l,b,seen,hl,h=>by
   have hi:p.nodes[b]?=some n:=by
    have:(p.nodes.drop b)[0]?=some n:=by rw[hl];rfl
    rw[List.getElem?_drop]at this;simpa using this
   have hl':p.nodes.drop (b+1)=l:=by
    rw[<-List.drop_drop,hl];rfl
   obtain⟨h1,h2⟩:=node_eq h (n:=n) (hports n (List.mem_of_getElem? hi))
   rw[List.zipIdx_cons,foldS,placeN,nods10]
   have hF:(nodF p seen (n,b)).2=(nodR p b tags n).2:=h1
   rw[hF]
   by_cases h0:(nodR p b tags n).2=0
   ·rw[if_pos h0,if_pos h0,if_pos h0]
    have hd:n.name ∉ (p.nodes.take b).map Nod.name:=fun hh=>by
     unfold nodR at h0
     rw[if_pos hh]at h0;cases h0
    exact nodes_eq hports l (b+1) _ hl' (h.next hi hd)
   ·rw[if_neg h0,if_neg h0,if_neg h0,hF,if_neg h0,h2 h0]
structure EnAt (seen:List (Int×Str×Int)) (st:List Str×List Str):Prop where
 e:∀x,(seenGet seen 2 x).isSome=true ↔ x∈st.1
 t:∀x,(seenGet seen 0 x).isSome=true ↔ x∈st.2
 n:∀x,seenGet seen 1 x=none
theorem tags_eq(k:Int)(en:List Str):∀(l:List Str) (seen:List (Int×Str×Int)) (tg:List Str),EnAt seen (en,tg)->(foldS addF seen (l.map fun s=>((0:Int),s,k))).2=(foldS tagF10 tg l).2/\((foldS tagF10 tg l).2=0->EnAt (foldS addF seen (l.map fun s=>((0:Int),s,k))).1 (en,(foldS tagF10 tg l).1))
 | [],seen,tg,h=>⟨rfl,fun _=>h⟩
 | s::l,seen,tg,h=>by
   simp only[List.map_cons,foldS]
   have ht:(seenGet seen 0 s).isSome=true ↔ s∈tg:=h.t s
   by_cases hs:s∈tg
   ·have e1:(addF seen (0,s,k)).2=7:=if_pos (ht.2 hs)
    have e2:(tagF10 tg s).2=7:=if_pos hs
    rw[if_neg (by rw[e1];decide),if_neg (by rw[e2];decide),e1,e2]
    exact⟨rfl,fun hh=>absurd hh (by decide)⟩
   ·have e1:(addF seen (0,s,k)).2=0:=if_neg (fun hh=>hs (ht.1 hh))
    have e2:(tagF10 tg s).2=0:=if_neg hs
    rw[if_pos e1,if_pos e2]
    refine tags_eq k en l _ _ ⟨fun x=>?_,fun x=>?_,fun x=>?_⟩
    ·show(seenGet (seen++[(0,s,k)]) 2 x).isSome=true ↔ _
     rw[seen_app,seen_one,if_neg (by rintro⟨h,_⟩;cases h),Option.or_none];exact h.e x
    ·show(seenGet (seen++[(0,s,k)]) 0 x).isSome=true ↔ x∈tg++[s]
     rw[seen_app,seen_one]
     have:=h.t x
     simp only[List.mem_append,List.mem_singleton,Option.isSome_or,Bool.or_eq_true]
     rw[this]
     by_cases hx:s=x
     ·simp[hx]
     ·simp only[hx,and_false,if_false,Option.isSome_none,Bool.false_eq_true,or_false]
      exact⟨.inl,fun h=>h.elim id (fun e=>absurd e.symm hx)⟩
    ·show seenGet (seen++[(0,s,k)]) 1 x=none
     rw[seen_app,seen_one,if_neg (by rintro⟨h,_⟩;cases h),Option.or_none];exact h.n x
theorem ens_eq:∀(l:List En) (b:Nat) (seen:List (Int×Str×Int)) (st:List Str×List Str),EnAt seen st->(foldS enF seen (l.zipIdx b)).2=(foldS enF10 st l).2/\((foldS enF10 st l).2=0->EnAt (foldS enF seen (l.zipIdx b)).1 (foldS enF10 st l).1)
 | [],b,seen,st,h=>⟨rfl,fun _=>h⟩
 | u::l,b,seen,st,h=>by
   rw[List.zipIdx_cons]
   simp only[foldS]
   have he:=h.e u.name
   have key:(enF seen (u,b)).2=(enF10 st u).2/\((enF10 st u).2=0->EnAt (enF seen (u,b)).1 (enF10 st u).1):=by
    show(foldS addF seen ((2,u.name,(b:Int))::u.tags.map fun s=>((0:Int),s,(b:Int)))).2=(if u.name∈st.1 then 7 else(foldS tagF10 st.2 u.tags).2)/\((if u.name∈st.1 then 7 else(foldS tagF10 st.2 u.tags).2)=0->EnAt (foldS addF seen ((2,u.name,(b:Int))::u.tags.map fun s=>((0:Int),s,(b:Int)))).1 (st.1++[u.name],(foldS tagF10 st.2 u.tags).1))
    simp only[foldS]
    by_cases hs:u.name∈st.1
    ·have e1:(addF seen (2,u.name,(b:Int))).2=7:=if_pos (he.2 hs)
     rw[if_neg (by rw[e1];decide),if_pos hs,e1]
     exact⟨rfl,fun hh=>absurd hh (by decide)⟩
    ·have e1:(addF seen (2,u.name,(b:Int))).2=0:=if_neg (fun hh=>hs (he.1 hh))
     rw[if_pos e1,if_neg hs]
     refine tags_eq b (st.1++[u.name]) u.tags _ st.2 ⟨fun x=>?_,fun x=>?_,fun x=>?_⟩
     ·show(seenGet (seen++[(2,u.name,(b:Int))]) 2 x).isSome=true ↔ x∈st.1++[u.name]
      rw[seen_app,seen_one]
      have:=h.e x
      simp only[List.mem_append,List.mem_singleton,Option.isSome_or,Bool.or_eq_true]
      rw[this]
      by_cases hx:u.name=x
      ·simp[hx]
      ·simp only[hx,and_false,if_false,Option.isSome_none,Bool.false_eq_true,or_false]
       exact⟨.inl,fun h=>h.elim id (fun e=>absurd e.symm hx)⟩
     ·show(seenGet (seen++[(2,u.name,(b:Int))]) 0 x).isSome=true ↔ _
      rw[seen_app,seen_one,if_neg (by rintro⟨h,_⟩;cases h),Option.or_none];exact h.t x
     ·show seenGet (seen++[(2,u.name,(b:Int))]) 1 x=none
      rw[seen_app,seen_one,if_neg (by rintro⟨h,_⟩;cases h),Option.or_none];exact h.n x
   by_cases h0:(enF10 st u).2=0
   ·rw[if_pos h0,if_pos (key.1.trans h0)]
    exact ens_eq l (b+1) _ _ (key.2 h0)
   ·rw[if_neg h0,if_neg (by rw[key.1];exact h0)]
    exact⟨key.1,fun hh=>absurd hh h0⟩
theorem chk10_eq(p:Prog):chk10 p=scopeX p:=by
 unfold chk10 scopeX
 by_cases hs:(shapeX p).2=0
 case neg=>rw[if_pos hs,if_pos hs]
 rw[if_neg (show ¬(shapeX p).2≠0 by simp[hs]),if_neg (show ¬(shapeX p).2≠0 by simp[hs])]
 obtain⟨h1,h2⟩:=ens_eq p.enums 0 [] ([],[]) ⟨fun x=>by simp[seenGet],fun x=>by simp[seenGet],fun x=>by simp[seenGet]⟩
 rw[h1]
 by_cases h0:(foldS enF10 ([],[]) p.enums).2=0
 case neg=>rw[if_pos h0,if_pos h0]
 rw[if_neg (show ¬(foldS enF10 ([],[]) p.enums).2≠0 by simp[h0]),if_neg (show ¬(foldS enF10 ([],[]) p.enums).2≠0 by simp[h0])]
 have h2:=h2 h0
 exact(nodes_eq (fun n hn=>(shapeN_of hs n hn).ports) p.nodes 0 _ rfl ⟨h2.t,fun nm=>.inl ⟨h2.n nm,by simp⟩⟩).symm
theorem typesR_eq(p:Prog):typesR p=typesX p:=by
 unfold typesR typesX
 rw[chk10_eq]
end Go.Proofs.YtlocalghkiepmaaGreat
