import Derived.Test.YtddaclniamlmbaaGreatDoorPk14
import Derived.Test.YtddaclniamlmbaaGreatDoorPk19
import Derived.Test.YtddaclniamlmbaaGreatDoorPk28
import Derived.Test.YtddaclniamlmbaaGreatDoorPk33
set_option linter.unusedSimpArgs false
set_option linter.unusedVariables false
namespace Go.Proofs.YtddaclniamlmbaaGreatDoor
open Go Go.TL
attribute [local irreducible] TR TO Then InBlock RetK Sound LoopK Kf GG ThenL
theorem flat_name:∀(m:Nat) (e:Ex),wEx e≤m->∀x∈flat e,x.name.length≤(exT e).w
 | 0,e,h=>by have:=wEx_pos e;omega
 | m+1,e,h=>by
   intro x hx
   have he:(exT e).w=(T.ag (exC e)).w:=by rw[exT_eq]
   have h1:e.name.length+(T.sl 6 (e.args.map exT)).w≤(exT e).w:=by
    rw[he,w_ag];simp only[exC,List.map_cons,List.map_nil,List.sum_cons,List.sum_nil,w_s];omega
   rw[flat_eq]at hx
   rcases List.mem_cons.1 hx with rfl|hx
   ·omega
   ·unfold flats at hx
    obtain⟨l,hl,hxl⟩:=List.mem_flatten.1 hx
    obtain⟨y,hy,rfl⟩:=List.mem_map.1 hl
    have:=flat_name m y (by have:=wEx_arg hy;omega) x hxl
    have:=w_inM (f:=exT) (sz:=6) hy
    omega
theorem exOk_of{es:List En}{e:Ex}(h:exprX es e=0)(hw:(exT e).w≤1000000000):∀x∈flat e,ExOk x:=fun x hx=>
 ⟨(arity_flat h x hx).v,Nat.le_trans (flat_name _ e (Nat.le_refl _) x hx) hw⟩
theorem orE_zero{a b:Int}(h:orE a b=0):a=0/\b=0:=by
 unfold orE at h;split at h
 ·exact⟨by assumption,h⟩
 ·rename_i ha;exact absurd h ha
theorem equE_ex{es:List En}{u:Equ}(h:equE es u=0):exprX es u.right=0:=by
 unfold equE at h
 exact(orE_zero (orE_zero (orE_zero (orE_zero h).2).2).2).1
theorem tranE_ex{es:List En}{n:Int}{s:Bool}{t:Tran}(h:tranE es n s t=0):exprX es t.cond=0:=by
 unfold tranE at h
 exact(orE_zero (orE_zero h).2).1
theorem equ_ex_w(u:Equ):(exT u.right).w≤(equT u).w:=by
 rw[exT_eq,w_ag,show equT u= .ag (.sl 1 (u.left.map T.s)::exC u.right) from rfl,w_ag,List.map_cons,List.sum_cons];omega
theorem tran_ex_w(t:Tran):(exT t.cond).w≤(tranT t).w:=by
 rw[exT_eq,w_ag,show tranT t= .ag (tranC t) from rfl,w_ag]
 simp only[exC,tranC,List.map_cons,List.map_nil,List.sum_cons,List.sum_nil];omega
theorem auto_ok{es:List En}:∀(k:Nat) (a:Auto),(autoT a).w≤1000000000->autoE es k a=0->nestOk k a/\exA k a
 | 0,a,hw,h=>by simp[autoE]at h
 | k+1,a,hw,h=>by
   unfold autoE at h
   have hst:=firstE_zero (orE_zero (orE_zero h).2).2
   have hwa:=w_auto a
   have key:∀s∈a.states,(∀b∈s.autos,nestOk k b/\exA k b)/\(∀u∈s.eqs,∀x∈flat u.right,ExOk x)/\(∀t∈s.unl,∀x∈flat t.cond,ExOk x)/\(∀t∈s.unt,∀x∈flat t.cond,ExOk x):=by
    intro s hs
    have h1:=hst s hs
    have hws:=w_inM (f:=staT) (sz:=6) hs
    have hw2:=w_sta s
    unfold stE at h1
    have h3:=(orE_zero (orE_zero (orE_zero h1).2).2).2
    have he:=firstE_zero (orE_zero h3).1
    have h4:=(orE_zero h3).2
    have ha:=firstE_zero (orE_zero h4).1
    have h5:=(orE_zero h4).2
    have hu:=firstE_zero (orE_zero h5).1
    have hv:=firstE_zero (orE_zero h5).2
    refine⟨fun b hb=>auto_ok k b (by have:=w_inM (f:=autoT) (sz:=1) hb;omega) (ha b hb),fun u hu'=>exOk_of (equE_ex (he u hu')) (by have:=equ_ex_w u;have:=w_inM (f:=equT) (sz:=7) hu';omega),fun t ht=>exOk_of (tranE_ex (hu t ht)) (by have:=tran_ex_w t;have:=w_inM (f:=tranT) (sz:=8) ht;omega),fun t ht=>exOk_of (tranE_ex (hv t ht)) (by have:=tran_ex_w t;have:=w_inM (f:=tranT) (sz:=8) ht;omega)⟩
   exact⟨fun s hs b hb=>((key s hs).1 b hb).1,fun s hs=>⟨(key s hs).2.1,(key s hs).2.2.1,(key s hs).2.2.2,fun b hb=>((key s hs).1 b hb).2⟩⟩
theorem node_ok{es:List En}{n:Nod}(h:(nodeX es n).2=0)(hw:(nodT n).w≤100000000):NodOk n:=by
 have hwn:=w_nod n
 unfold nodeX at h
 have h1:headE es n=0:=Classical.byContradiction fun hh=>by rw[if_pos hh]at h;exact hh h
 rw[if_neg (by simp[h1])]at h
 have h2:firstE (equE es) n.eqs=0:=Classical.byContradiction fun hh=>by rw[if_pos hh,firstI_snd]at h;exact hh h
 rw[if_neg (by simp[h2])]at h
 simp only at h
 unfold tailE at h
 have ha:=firstE_zero (orE_zero h).1
 have hs:=firstE_zero (orE_zero (orE_zero h).2).1
 have he:=firstE_zero (orE_zero (orE_zero h).2).2
 have hq:=firstE_zero h2
 refine⟨hw,fun a h=>(auto_ok 3 a (by have:=w_inM (f:=autoT) (sz:=1) h;omega) (ha a h)).1,fun a h=>(auto_ok 3 a (by have:=w_inM (f:=autoT) (sz:=1) h;omega) (ha a h)).2,fun u hu=>exOk_of (equE_ex (hq u hu)) (by have:=equ_ex_w u;have:=w_inM (f:=equT) (sz:=7) hu;omega),fun e h=>exOk_of (hs e h) (by have:=w_inM (f:=exT) (sz:=6) h;omega),fun e h=>exOk_of (he e h) (by have:=w_inM (f:=exT) (sz:=6) h;omega)⟩
theorem shape_nodes{p:Prog}(h:(shapeX p).2=0):∀n∈p.nodes,(nodeX p.enums n).2=0:=by
 unfold shapeX at h
 have h1:limE p=0:=Classical.byContradiction fun hh=>by rw[if_pos hh]at h;exact hh h
 rw[if_neg (by simp[h1])]at h
 have h2:firstE enumE p.enums=0:=Classical.byContradiction fun hh=>by rw[if_pos hh]at h;exact hh h
 rw[if_neg (by simp[h2])]at h
 have h3:firstE (fun n=>(nodeX p.enums n).2) p.nodes=0:=Classical.byContradiction fun hh=>by rw[if_neg hh]at h;exact hh h
 exact firstE_zero h3
def addF(seen:List (Int×Str×Int))(e:Int×Str×Int):List (Int×Str×Int)×Int:=(seen++[e],if(seenGet seen e.1 e.2.1).isSome=true then 7 else 0)
def tagsE(u:En)(i:Int):List (Int×Str×Int):=u.tags.map fun s=>(0,s,i)
def enF(seen:List (Int×Str×Int))(x:En×Nat):List (Int×Str×Int)×Int:=foldS addF seen ((2,x.1.name,(x.2:Int))::tagsE x.1 x.2)
def nodF(p:Prog)(seen:List (Int×Str×Int))(x:Nod×Nat):List (Int×Str×Int)×Int:=(seen++[(1,x.1.name,(x.2:Int))],(nodeT' p seen x.2 x.1).2)
def placeN(p:Prog):List (Int×Str×Int)->List (Nod×Nat)->Int×Int
 | _,[]=>(0,0)
 | st,x::l=>if(nodF p st x).2=0 then placeN p (nodF p st x).1 l else((x.2:Int),(nodeT' p st x.2 x.1).1)
theorem placeN_at(p:Prog):∀ {l:List (Nod×Nat)} {a:List (Int×Str×Int)} {k:Nat} (hk:k<l.length),(foldS (nodF p) a (l.take k)).2=0->(nodF p (foldS (nodF p) a (l.take k)).1 l[k]).2≠0->placeN p a l=((l[k].2:Int),(nodeT' p (foldS (nodF p) a (l.take k)).1 l[k].2 l[k].1).1)
 | x::l,a,0,hk,h,hn=>by
   simp only[List.take_zero,foldS,List.getElem_cons_zero]at hn⊢
   rw[placeN,if_neg hn]
 | x::l,a,k+1,hk,h,hn=>by
   rw[List.take_succ_cons,foldS]at h
   by_cases h0:(nodF p a x).2=0
   ·rw[if_pos h0]at h
    have hn':(nodF p (foldS (nodF p) (nodF p a x).1 (l.take k)).1 (l[k]'(by simpa using hk))).2≠0:=by
     rw[List.take_succ_cons,foldS,if_pos h0]at hn
     simpa using hn
    rw[placeN,if_pos h0,placeN_at p (by simpa using hk) h hn',List.take_succ_cons,foldS,if_pos h0]
    simp
   ·rw[if_neg h0]at h;exact absurd h h0
def scopeX(p:Prog):(Int×Int)×Int:=
 if(shapeX p).2≠0 then shapeX p else
 if(foldS enF [] p.enums.zipIdx).2≠0 then((-1,-1),(foldS enF [] p.enums.zipIdx).2) else
 if(foldS (nodF p) (foldS enF [] p.enums.zipIdx).1 p.nodes.zipIdx).2=0 then((0,0),0) else(placeN p (foldS enF [] p.enums.zipIdx).1 p.nodes.zipIdx,(foldS (nodF p) (foldS enF [] p.enums.zipIdx).1 p.nodes.zipIdx).2)
end Go.Proofs.YtddaclniamlmbaaGreatDoor
namespace Go.Proofs.YtddaclniamlmbaaGreatDoor
open Go Go.TL
attribute [local irreducible] TR TO Then InBlock RetK Sound LoopK Kf GG ThenL
theorem closeS_some(n q c:Int)(a b d:SV)(Hr:Heap)(hb:blksUnder (Hr.length+2) Hr=true):
  DSound Tryz.prog 66 [.ref 0 0,.ref 1 0] (.cells [a,b]:: .cells [d]::Hr) (some (failS n q c)) (fun H3=>H3= .cells [.i n,.i q]:: .cells [.i c]::Hr):=by
 refine DSound.of (tab:=tab) Tryz.func66 (by kernel_rfl) rfl rfl rfl rfl ?_
 repeat' (first|refine wu ?_|exact wkc|intro hc|refine wk2 ?_ ?_|(apply TO.assert_ok tabOk;exact rfl;exact rfl;exact rfl;exact rfl)|fail)
 refine Then.normal ?_
 repeat' (first|refine wkt ?_|fail)
 refine TR.regionM (envF:=?envF) (HF:=.cells [.i n,.i q]:: .cells [.i c]::Hr) [(.cp [T.i n,T.i q,T.i c] 0,false),(.t (.ag [T.i n,T.i q]),false),(.cp [T.i n,T.i q,T.i c] 2,false),(.i c,false),(.any,true),(.any,true)] [.cells [a,b]:: .cells [d]::Hr,.cells [.i n,.i q]:: .cells [d]::Hr,.cells [.i n,.i q]:: .cells [.i c]::Hr] hmix ?hB ?h0 ?hp ?hF ?hE ?hK
 case hB=>(dsimp only[List.map];decide +kernel)
 case h0=>exact rfl
 case hF=>exact rfl
 case hE=>exact rfl
 case hp=>repeat' (first|refine wu ?_|exact trivial|exact And.intro rfl rfl|refine And.intro (fun H env=>?_) ?_|refine And.intro (fun env=>?_) ?_|fail)
 repeat' (first|refine wu ?_|exact wkc|intro hc|refine wk2 ?_ ?_|fail)
 have ht:(Blk.cells [.i n,.i q]::Blk.cells [.i c]::Hr).take (Blk.cells [a,b]::Blk.cells [d]::Hr).length=Blk.cells [.i n,.i q]::Blk.cells [.i c]::Hr:=by simp
 refine⟨Nat.le_refl _,?_,ht⟩
 show blksUnder _ (List.take _ (Blk.cells [.i n,.i q]::Blk.cells [.i c]::Hr))=true
 rw[ht]
 exact hb
theorem closeS_none(H:Heap)(hb:blksUnder H.length H=true):
  DSound Tryz.prog 66 [.ref 0 0,.ref 1 0] H none (fun H3=>H3=H):=by
 refine DSound.of (tab:=tab) Tryz.func66 (by kernel_rfl) rfl rfl rfl rfl ?_
 repeat' (first|refine wu ?_|exact wkc|intro hc|refine wk2 ?_ ?_|(apply TO.assert_nil tabOk;exact rfl;exact rfl;exact rfl;exact rfl)|fail)
 refine Then.normal ?_
 repeat' (first|refine wu ?_|exact wkc|intro hc|refine wk2 ?_ ?_|fail)
 exact⟨Nat.le_refl _,by rw[List.take_of_length_le (Nat.le_refl _)];exact hb,List.take_of_length_le (Nat.le_refl _)⟩
theorem Hands.two{G:Heap}{i j:Nat}{b c:Blk}(hij:Nat.beq i j=false)(h1:G[i]?=some (b.ren (names [i,j] G.length)))(h2:G[j]?=some (c.ren (names [i,j] G.length)))(hb:b.under 2=true)(hc:c.under 2=true):Hands G [i,j] [b,c] where
 nodup:=by
  have:i≠j:=fun e=>by rw[e]at hij;simp at hij
  simp[this]
 lt:=fun x hx=>by
  simp at hx
  rcases hx with rfl|rfl
  ·exact(List.getElem?_eq_some_iff.1 h1).1
  ·exact(List.getElem?_eq_some_iff.1 h2).1
 len:=rfl
 H:=fun a x y ha hy=>by
  match a with
  | 0=>simp at ha hy;subst ha hy;exact h1
  | 1=>simp at ha hy;subst ha hy;exact h2
  | a+2=>simp at ha
 under:=fun a y hy=>by
  match a with
  | 0=>simp at hy;subst hy;exact hb
  | 1=>simp at hy;subst hy;exact hc
  | a+2=>simp at hy
theorem we32{G Q1 Q2:Prop}{f:FuncId}{cargs:List SV}{v pv:SV}{c:Int}{Hc H1:Heap}(hs:Sound Tryz.prog f cargs Hc (Err c v pv H1))(k1:Q1)(k2:Q2)(h:Sound Tryz.prog f cargs Hc (Err c v pv H1)->Hold Q1->Hold Q2->G:=by
  intro hs k1 k2
  (apply Go.TL.TO.callE [3,2] hs;exact rfl;exact rfl;exact rfl;(repeat' (first|exact trivial|exact Go.TL.Le.refl _|refine And.intro ?_ ?_|exact Go.TL.Le.any _|exact Go.TL.Le.nil _|exact Go.TL.Le.own _ _ _|refine Go.TL.Le.tree rfl ?_|exact Go.TL.TLe.refl _|exact Go.TL.TLe.nil _|refine Go.TL.TLe.ags ?_|fail));exact rfl;exact Go.Proofs.YtddaclniamlmbaaGreatDoor.Hands.two rfl rfl rfl rfl rfl;exact rfl;exact rfl;exact rfl;exact rfl;exact k1.p;exact k2.p)):G:=h hs ⟨k1⟩ ⟨k2⟩
theorem tag_w{u:En}:u.name.length≤(enT u).w/\(∀s∈u.tags,s.length≤(enT u).w)/\u.tags.length≤(enT u).w:=by
 rw[enT,w_ag];simp only[List.map_cons,List.map_nil,List.sum_cons,List.sum_nil,w_s]
 refine⟨by omega,fun s hs=>?_,?_⟩
 ·have:=w_inM (f:=T.s) (sz:=1) hs;rw[w_s]at this;omega
 ·have:=w_lenM T.s 1 u.tags;omega
theorem addOk{p:Prog}{st:List (Int×Str×Int)}(h:SeenOk st/\SeenN p st){k v:Int}{s:Str}(hk:0≤k/\k≤2)(h1:k≠1)(hs:s.length≤1000000000)(hz:(addF st (k,s,v)).2=0):SeenOk (addF st (k,s,v)).1/\SeenN p (addF st (k,s,v)).1:=by
 have hn:seenGet st k s=none:=by
  unfold addF at hz
  cases hg:seenGet st k s with
  | none=>rfl
  | some w=>simp[hg]at hz
 exact⟨h.1.add hk hs hn,h.2.add' h1⟩
theorem tagsOk{p:Prog}{u:En}(ht:∀s∈u.tags,s.length≤1000000000){i:Int}{st:List (Int×Str×Int)}(h:SeenOk st/\SeenN p st)(j:Nat)(hz:(foldS addF st ((tagsE u i).take j)).2=0):SeenOk (foldS addF st ((tagsE u i).take j)).1/\SeenN p (foldS addF st ((tagsE u i).take j)).1:=by
 refine fold_goodM (f:=addF) (G:=fun _ st=>SeenOk st/\SeenN p st) (w:=fun _=>0) _ (fun B a x hx h hz=>?_) 0 st h hz
 obtain⟨s,hs,rfl⟩:=List.mem_map.1 (List.mem_of_mem_take hx)
 exact addOk h (by decide) (by decide) (ht s hs) hz
theorem enF_eq(st:List (Int×Str×Int))(u:En)(k:Nat):enF st (u,k)=if(addF st (2,u.name,(k:Int))).2=0 then foldS addF (addF st (2,u.name,(k:Int))).1 (tagsE u k) else addF st (2,u.name,(k:Int)):=rfl
theorem enOk{p:Prog}{u:En}(ht:∀s∈u.tags,s.length≤1000000000)(hn:u.name.length≤1000000000){k:Nat}{st:List (Int×Str×Int)}(h:SeenOk st/\SeenN p st)(hz:(enF st (u,k)).2=0):SeenOk (enF st (u,k)).1/\SeenN p (enF st (u,k)).1:=by
 rw[enF_eq]at hz⊢
 split at hz
 ·rename_i h0
  rw[if_pos h0]
  have:=tagsOk (p:=p) ht (i:=k) (addOk h (by decide) (by decide) hn h0) (tagsE u k).length (by rw[List.take_length];exact hz)
  rw[List.take_length]at this
  exact this
 ·rename_i h0;exact absurd hz h0
theorem ensOk{p:Prog}(ht:∀u∈p.enums,u.name.length≤1000000000/\∀s∈u.tags,s.length≤1000000000)(k:Nat)(hz:(foldS enF [] (p.enums.zipIdx.take k)).2=0):SeenOk (foldS enF [] (p.enums.zipIdx.take k)).1/\SeenN p (foldS enF [] (p.enums.zipIdx.take k)).1:=by
 refine fold_goodM (f:=enF) (G:=fun _ st=>SeenOk st/\SeenN p st) (w:=fun _=>0) _ (fun B a x hx h hz=>?_) 0 [] ⟨SeenOk.nil,fun s i h=>by simp[seenGet]at h⟩ hz
 have hm:=(List.mem_zipIdx (List.mem_of_mem_take hx)).2.2
 obtain⟨u,k⟩:=x
 have hu:u∈p.enums:=by simp only at hm;rw[hm];exact List.getElem_mem _
 exact enOk (ht u hu).2 (ht u hu).1 h hz
theorem nodsOk{p:Prog}(ht:∀u∈p.nodes,u.name.length≤1000000000){st:List (Int×Str×Int)}(h:SeenOk st/\SeenN p st)(k:Nat)(hz:(foldS (nodF p) st (p.nodes.zipIdx.take k)).2=0):SeenOk (foldS (nodF p) st (p.nodes.zipIdx.take k)).1/\SeenN p (foldS (nodF p) st (p.nodes.zipIdx.take k)).1:=by
 refine fold_goodM (f:=nodF p) (G:=fun _ st=>SeenOk st/\SeenN p st) (w:=fun _=>0) _ (fun B a x hx h hz=>?_) 0 st h hz
 have hm:=List.mem_zipIdx (List.mem_of_mem_take hx)
 obtain⟨u,k⟩:=x
 have hu:u∈p.nodes:=by have:=hm.2.2;simp only at this;rw[this];exact List.getElem_mem _
 have hk:k<p.nodes.length:=by have:=hm.2.1;simp only at this;omega
 have hn:seenGet a 1 u.name=none:=by
  unfold nodF nodeT' at hz
  cases hg:seenGet a 1 u.name with
  | none=>rfl
  | some w=>rw[hg]at hz;simp at hz
 exact⟨h.1.add (by decide) (ht u hu) hn,h.2.add hk⟩
abbrev lk3 (p:Prog)(n q:Int):Blk:=.cells [.t (.sl 2 (p.enums.map enT)),.t (nodesT p.nodes),.i n,.i q,.mp 2]
theorem ThenD.ret{P:Program}{n:Nat}{c:Code}{K KD:TK}{gf:FuncId}{cv:List SV}{env:_}{H:Heap}(h:K .ret env H):ThenD P n c K gf cv KD .ret env H:=h
theorem ThenD.normal{P:Program}{n:Nat}{c:Code}{K KD:TK}{gf:FuncId}{cv:List SV}{env:_}{H:Heap}(h:TD P n c env H K gf cv KD):ThenD P n c K gf cv KD .normal env H:=h
attribute [local irreducible] TD ThenD
set_option maxHeartbeats 2000000 in
theorem scopeX_sound (p:Prog) (hw:(T.ag (progC p)).w≤100000000):Pure Tryz.prog 30 [.t (.ag (progC p))] (.tup [.t (.ag [T.i (scopeX p).1.1,T.i (scopeX p).1.2]),.i (scopeX p).2]):=by
 have l1:(T.sl 2 (p.enums.map enT)).w+(nodesT p.nodes).w≤(T.ag (progC p)).w:=by rw[w_ag];simp only[progC,List.map_cons,List.map_nil,List.sum_cons,List.sum_nil];omega
 have hnT:(nodesT p.nodes).w=(T.sl 8 (p.nodes.map nodT)).w:=rfl
 have b1:=w_lenM enT 2 p.enums
 have b2:=w_lenM nodT 8 p.nodes
 have m1:(p.enums.map enT).length=p.enums.length:=List.length_map _
 have m2:(p.nodes.map nodT).length=p.nodes.length:=List.length_map _
 have hsh:=shapeX_sound p (by omega)
 have hz:scopeX p=scopeX p:=rfl
 conv at hz=>rhs;unfold scopeX
 generalize scopeX p=z at hz⊢
 have hpc:progC p=[.sl 2 (p.enums.map enT),nodesT p.nodes]:=rfl
 rw[hpc]at hsh⊢
 have hsn:=shape_nodes (p:=p)
 generalize shapeX p=sx at*
 obtain⟨⟨s1,s2⟩,s3⟩:=sx
 simp only at hz hsh hsn
 refine Sound.ofDefer tabOk Tryz.func30 (by kernel_rfl) rfl rfl (gf:=66) (cv:=[.ref 0 0,.ref 1 0]) ?_
 refine TD.seq ?_
 repeat' (first|refine wu ?_|fail)
 refine ThenD.normal ?_
 refine TD.seq ?_
 refine wk ?_
 repeat' (first|refine wu ?_|exact wkc|intro hc|refine wk2 ?_ ?_|refine wv hsh ?_|fail)
 ·refine ThenD.ret ?_
  rw[if_pos (by simpa using hc)]at hz
  subst hz
  exact wkr
 rw[if_neg (by simpa using hc)]at hz
 have hz0:s3=0:=by simpa using hc
 have hsn:=hsn hz0
 refine ThenD.normal ?_
 refine TD.defer (tz:=0) rfl rfl ?_
 repeat' (first|refine wu ?_|exact wkc|intro hc|refine wk2 ?_ ?_|fail|fail)
 have hze:p.enums.zipIdx.length=p.enums.length:=by simp
 have hzn:p.nodes.zipIdx.length=p.nodes.length:=by simp
 have hle:∀u∈p.enums,u.name.length≤1000000000/\∀s∈u.tags,s.length≤1000000000:=fun u hu=>by
  have h1:=tag_w (u:=u)
  have h2:=w_inM (f:=enT) (sz:=2) hu
  exact⟨by omega,fun s hs=>by have:=h1.2.1 s hs;omega⟩
 have hlt':∀u∈p.enums,u.tags.length≤1000000000:=fun u hu=>by
  have h1:=tag_w (u:=u)
  have h2:=w_inM (f:=enT) (sz:=2) hu
  omega
 have hln:∀u∈p.nodes,(nodT u).w≤100000000:=fun u hu=>by
  have h2:=w_inM (f:=nodT) (sz:=8) hu
  omega
 refine TR.loopN p.enums.length (fun k=>(foldS enF [] (p.enums.zipIdx.take k)).2=0) (fun k=>[(1,.cp [.sl 2 (p.enums.map enT),nodesT p.nodes] 0),(2,.ref 0 0),(3,.ref 1 0),(6,.ref 3 0),(28,.t (.sl 2 (p.enums.map enT))),(29,.i (p.enums.map enT).length),(30,.i k)])
  (fun k=>[.cells [.i 0,.i 0],.cells [.i 0],seenB (foldS enF [] (p.enums.zipIdx.take k)).1,lk3 p (-1) (-1)]) rfl (fun k hlt ha=>?_) (fun ha=>?_)
 ·have hx:(p.enums.map enT)[k]?=some (.ag [.s p.enums[k].name,.sl 1 (p.enums[k].tags.map T.s)]):=at_map enT hlt
  have g1:=foldS_at (f:=enF) (by rw[hze];exact hlt) ha
  have g2:=foldS_next (f:=enF) (by rw[hze];exact hlt) ha
  have hok:=ensOk (p:=p) hle k ha
  have hzi:p.enums.zipIdx[k]'(by rw[hze];exact hlt)=(p.enums[k],k):=by simp
  rw[hzi]at g1 g2
  have hnm:=hle _ (List.getElem_mem hlt)
  have htl:=hlt' _ (List.getElem_mem hlt)
  generalize (foldS enF [] (p.enums.zipIdx.take k)).1=st at*
  generalize p.enums[k]=u at*
  have hmt:(u.tags.map T.s).length=u.tags.length:=List.length_map _
  have hs:Sound Tryz.prog 67 [.ref 0 0,.t (.ag [.i 2,.s u.name]),.i k] [lkB p (-1) (-1),seenB st] (Err (addF st (2,u.name,(k:Int))).2 (.tup []) (failS (-1) (-1) (addF st (2,u.name,(k:Int))).2) [lkB p (-1) (-1),seenB (addF st (2,u.name,(k:Int))).1]):=add_sound p (-1) (-1) st hok.1 2 k (by decide) u.name hnm.1
  have hok1:=fun hz=>addOk (p:=p) hok (k:=2) (v:=k) (by decide) (by decide) hnm.1 hz
  rw[enF_eq]at g1 g2
  generalize addF st (2,u.name,(k:Int))=a1 at*
  clear ha hle hlt' hln hsn
  repeat' (first|refine wkt ?_|refine wka ?_|refine wk ?_|exact wkc|intro hc|refine wk2 ?_ ?_|refine we32 hs ?_ ?_|fail)
  ·rw[if_pos hc]at g1 g2
   have hok2:=hok1 hc
   clear hs
   have hzt:(tagsE u k).length=u.tags.length:=List.length_map _
   refine TR.loopN u.tags.length (fun j=>(foldS addF a1.1 ((tagsE u k).take j)).2=0) (fun j=>[(1,.cp [.sl 2 (p.enums.map enT),nodesT p.nodes] 0),(2,.ref 0 0),(3,.ref 1 0),(6,.ref 3 0),(28,.t (.sl 2 (p.enums.map enT))),(29,.i (p.enums.map enT).length),(30,.i k),(7,.i k),(42,.t (.sl 1 (u.tags.map T.s))),(43,.i (u.tags.map T.s).length),(44,.i j)])
    (fun j=>[.cells [.i 0,.i 0],.cells [.i 0],seenB (foldS addF a1.1 ((tagsE u k).take j)).1,lk3 p (-1) (-1)]) rfl (fun j hlj ha=>?_) (fun ha=>?_)
   ·have hx2:(u.tags.map T.s)[j]?=some (.s u.tags[j]):=at_map T.s hlj
    have r1:=foldS_at (f:=addF) (by rw[hzt];exact hlj) ha
    have r2:=foldS_next (f:=addF) (by rw[hzt];exact hlj) ha
    have hok3:=tagsOk (p:=p) hnm.2 hok2 j ha
    have hzi2:(tagsE u k)[j]'(by rw[hzt];exact hlj)=(0,u.tags[j],(k:Int)):=by simp[tagsE]
    rw[hzi2]at r1 r2
    have hsm:=hnm.2 _ (List.getElem_mem hlj)
    generalize (foldS addF a1.1 ((tagsE u k).take j)).1=st2 at*
    generalize u.tags[j]=tg at*
    have hs:Sound Tryz.prog 67 [.ref 0 0,.t (.ag [.i 0,.s tg]),.i k] [lkB p (-1) (-1),seenB st2] (Err (addF st2 (0,tg,(k:Int))).2 (.tup []) (failS (-1) (-1) (addF st2 (0,tg,(k:Int))).2) [lkB p (-1) (-1),seenB (addF st2 (0,tg,(k:Int))).1]):=add_sound p (-1) (-1) st2 hok3.1 0 k (by decide) tg hsm
    generalize addF st2 (0,tg,(k:Int))=a2 at*
    clear hok1 hok3 hok2
    repeat' (first|refine wkt ?_|refine wka ?_|refine wk ?_|exact wkc|intro hc|refine wk2 ?_ ?_|refine we32 hs ?_ ?_|fail)
    ·refine LoopK.nextN hlj (by rw[r2];exact hc) ?_ (by rw[r2];rfl)
     repeat' (first|exact trivial|refine And.intro rfl ?_|fail)
    ·rw[r1 hc]at g1
     rw[if_pos (by rw[g1 hc];exact hc),g1 hc]at hz
     subst hz
     repeat' (first|refine LoopK.panic ?_|refine wk ?_|fail)
     exact⟨_,closeS_some _ _ _ _ _ _ _ rfl,fun H3 h=>by subst h;exact wkr⟩
   rw[show u.tags.length=(tagsE u k).length from hzt.symm,List.take_length]at ha
   rw[show u.tags.length=(tagsE u k).length from hzt.symm,List.take_length]
   clear hok1
   refine wk ?_
   repeat' (first|refine wu ?_|exact wkc|intro hc|refine wk2 ?_ ?_|fail)
   refine LoopK.nextN hlt (by rw[g2];exact ha) ?_ (by rw[g2])
   repeat' (first|exact trivial|refine And.intro rfl ?_|fail)
  ·rw[if_neg hc]at g1
   rw[if_pos (by rw[g1 hc];exact hc),g1 hc]at hz
   subst hz
   repeat' (first|refine LoopK.panic ?_|refine wk ?_|fail)
   exact⟨_,closeS_some _ _ _ _ _ _ _ rfl,fun H3 h=>by subst h;exact wkr⟩
 have hok:=ensOk (p:=p) hle _ ha
 rw[<-hze,List.take_length]at ha hok
 rw[<-hze,List.take_length]
 rw[if_neg (by simp[ha])]at hz
 generalize (foldS enF [] p.enums.zipIdx).1=st0 at*
 refine wk ?_
 repeat' (first|refine wu ?_|exact wkc|intro hc|refine wk2 ?_ ?_|fail)
 have hp:SmallC p:=⟨by omega,fun u hu=>by
  have h1:=hln u hu
  have h2:=w_nod u
  have h3:=w_lenM declT 3 u.ins
  have h4:=w_lenM declT 3 u.outs
  have d1:(declsT u.ins).w=(T.sl 3 (u.ins.map declT)).w:=rfl
  have d2:(declsT u.outs).w=(T.sl 3 (u.outs.map declT)).w:=rfl
  omega⟩
 have hnn:∀u∈p.nodes,u.name.length≤1000000000:=fun u hu=>by
  have h1:=hln u hu
  have:u.name.length≤(nodT u).w:=by
   rw[show nodT u= .ag (nodC u) from rfl,w_ag]
   simp only[nodC,List.map_cons,List.map_nil,List.sum_cons,List.sum_nil,w_s];omega
  omega
 have hno:∀(a b:Int) (st:List (Int×Str×Int)) (k:Nat) (hk:k<p.nodes.length),SeenOk st->SeenN p st->Sound Tryz.prog 68 [.ref 0 0,.i k] [lkB p a b,seenB st] (Err (nodF p st (p.nodes[k],k)).2 (.tup []) (failS k (nodeT' p st k p.nodes[k]).1 (nodF p st (p.nodes[k],k)).2) [lkB p k (-1),seenB (nodF p st (p.nodes[k],k)).1]):=fun a b st k hk h1 h2=>
  node_sound p hp a b st h1 h2 k hk p.nodes[k] (List.getElem?_eq_getElem hk) (node_ok (hsn _ (List.getElem_mem hk)) (hln _ (List.getElem_mem hk)))
 clear hle hlt' hsh hsn
 refine TR.loopN p.nodes.length (fun k=>(foldS (nodF p) st0 (p.nodes.zipIdx.take k)).2=0) (fun k=>[(2,.ref 0 0),(3,.ref 1 0),(6,.ref 3 0),(56,.t (nodesT p.nodes)),(57,.i (p.nodes.map nodT).length),(58,.i k)])
  (fun k=>[.cells [.i 0,.i 0],.cells [.i 0],seenB (foldS (nodF p) st0 (p.nodes.zipIdx.take k)).1,lk3 p ((k:Int)-1) (-1)]) rfl (fun k hlt ha=>?_) (fun ha=>?_)
 ·have g1:=foldS_at (f:=nodF p) (by rw[hzn];exact hlt) ha
  have g2:=foldS_next (f:=nodF p) (by rw[hzn];exact hlt) ha
  have g3:=placeN_at p (by rw[hzn];exact hlt) ha
  have hok2:=nodsOk (p:=p) hnn hok k ha
  have hzi:p.nodes.zipIdx[k]'(by rw[hzn];exact hlt)=(p.nodes[k],k):=by simp
  rw[hzi]at g1 g2 g3
  generalize (foldS (nodF p) st0 (p.nodes.zipIdx.take k)).1=st at*
  have hs:=hno ((k:Int)-1) (-1) st k hlt hok2.1 hok2.2
  generalize nodF p st (p.nodes[k],k)=a1 at*
  generalize nodeT' p st k p.nodes[k]=a2 at*
  clear hno hok2
  repeat' (first|refine wkt ?_|refine wka ?_|refine wk ?_|exact wkc|intro hc|refine wk2 ?_ ?_|refine we32 hs ?_ ?_|fail)
  ·refine LoopK.nextN hlt (by rw[g2];exact hc) ?_ (by rw[g2,show((k+1:Nat):Int)-1=k from by omega];rfl)
   repeat' (first|exact trivial|refine And.intro rfl ?_|fail)
  ·rw[if_neg (by rw[g1 hc];exact hc),g1 hc,g3 hc]at hz
   subst hz
   repeat' (first|refine LoopK.panic ?_|refine wk ?_|fail)
   exact⟨_,closeS_some _ _ _ _ _ _ _ rfl,fun H3 h=>by subst h;exact wkr⟩
 rw[<-hzn,List.take_length]at ha
 rw[if_pos ha]at hz
 subst hz
 refine wk ?_
 repeat' (first|refine wu ?_|exact wkc|intro hc|refine wk2 ?_ ?_|fail)
 exact⟨_,closeS_none _ rfl,fun H3 h=>by subst h;exact wkr⟩
end Go.Proofs.YtddaclniamlmbaaGreatDoor
namespace Go.Proofs.YtddaclniamlmbaaGreatDoor
open Go Go.TL
attribute [local irreducible] TR TO Then InBlock RetK Sound LoopK Kf GG ThenL
theorem innerT_sound(w:Plc)(l:List Decl)(hl:l.length+w.env.length≤3000000000):
  Pure Tryz.prog 212 [.t (plcT w),.t (declsT l)] (.t (plcT ⟨w.p,w.node,l++w.env⟩)):=by
 obtain⟨p,nd,env⟩:=w
 have m1:(l.map declT).length=l.length:=List.length_map _
 have m2:(env.map declT).length=env.length:=List.length_map _
 unfold plcT plcC at*
 simp only at*
 have hc:(((l.map declT).length:Int)+((env.map declT).length:Int))=((l.length+env.length:Nat):Int):=by rw[m1,m2];simp
 have hz:zerosOf zD (l.length+env.length)=mixC [] zD (l.length+env.length):=by simp[mixC]
 have hsp1:splice (zerosOf zD (l.length+env.length)) 0 ((((l.map declT).map T.cells).flatten).map .t)=mixC (declCs l) zD env.length:=by
  have e:=mixC_splice [] (declCs l) zD (l.length+env.length) l.length 0 (by omega) rfl (declCs_len _)
  rw[hz];refine e.trans ?_
  rw[List.nil_append];congr 1;omega
 have hsp2:splice (mixC (declCs l) zD env.length) (0+(l.map declT).length*3) ((((env.map declT).map T.cells).flatten).map .t)=(declCs (l++env)).map .t:=by
  have e:=mixC_splice (declCs l) (declCs env) zD env.length env.length (0+(l.map declT).length*3) (by omega) (by rw[declCs_len,m1];omega) (declCs_len _)
  refine e.trans ?_
  rw[Nat.sub_self,mixC_zero,declCs_append]
 have hsz:∀e∈(l++env).map declT,e.cells.length=3:=fun e he=>by
  obtain⟨d,_,rfl⟩:=List.mem_map.1 he;exact declT_cells d
 have hcat:(l++env).length=l.length+env.length:=List.length_append
 have m3:((l++env).map declT).length=l.length+env.length:=by rw[List.length_map,hcat]
 by_cases henv:env.length=0
 ·have:env=[]:=List.eq_nil_of_length_eq_zero henv
  subst this
  have hsp3:splice (zerosOf zD (l.map declT).length) 0 ((((l.map declT).map T.cells).flatten).map .t)=(declCs l).map .t:=by
   have e:=mixC_splice [] (declCs l) zD l.length l.length 0 (by omega) rfl (declCs_len _)
   rw[m1,show zerosOf zD l.length=mixC [] zD l.length from by simp[mixC]]
   refine e.trans ?_
   rw[List.nil_append,Nat.sub_self,mixC_zero]
  rw[List.append_nil]at hsz⊢
  clear hsp1 hsp2 hc
  refine so Tryz.func212 ?_
  repeat' (first|refine wk ?_|exact wkc|intro hc|refine wk2 ?_ ?_|(apply TO.makeSlice (c:=(l.map declT).length) tabOk;exact rfl;exact rfl;exact rfl;exact rfl;exact rfl;exact rfl;(exact Eq.trans (b:=some (.i (((l.map declT).length:Int)+0))) rfl (by rw[Int.add_zero]));(rw[m1];simp at hl;omega);exact rfl)|(apply TO.slice_msEnd (len:=(l.map declT).length) tabOk;exact rfl;exact rfl;exact rfl;exact rfl;exact rfl;exact rfl;exact rfl)|(apply TO.copy_none tabOk;exact rfl;exact rfl;exact rfl;exact rfl;exact rfl;exact rfl;exact rfl;exact rfl;exact rfl;exact rfl;refine TO.freezeP 5 3 2 (l.map declT).length (es:=l.map declT) rfl rfl (by simp[declCs_len]) (fun j c hj=>hj) rfl hsz rfl rfl ?_)|(apply TO.copy_ms (H':=[.cells [.t (.sl 2 (p.enums.map enT)),.t (nodesT p.nodes),.t (T.n nd),.t (declsT [])],.cells [.t (.v (.slice none 0 0)),.t (.v (.slice none 0 0)),.i 0,.t (.v (.slice none 0 0))],.cells ((declCs l).map .t)]) tabOk;exact rfl;exact rfl;exact rfl;exact rfl;exact rfl;exact rfl;exact rfl;exact rfl;exact rfl;exact rfl;exact Nat.le_refl _;(rw[zerosOf_len];show 0+(l.map declT).length*3≤(l.map declT).length*3;omega);(exact congrArg (fun c=>[Blk.cells [.t (.sl 2 (p.enums.map enT)),.t (nodesT p.nodes),.t (T.n nd),.t (declsT [])],.cells [.t (.v (.slice none 0 0)),.t (.v (.slice none 0 0)),.i 0,.t (.v (.slice none 0 0))],.cells c]) hsp3))|fail)
  exact wkr
 refine so Tryz.func212 ?_
 repeat' (first|refine wk ?_|exact wkc|intro hc|refine wk2 ?_ ?_|(apply TO.makeSlice (c:=l.length+env.length) tabOk;exact rfl;exact rfl;exact rfl;exact rfl;exact rfl;exact rfl;(exact Eq.trans (b:=some (.i (((l.map declT).length:Int)+((env.map declT).length:Int)))) rfl (by rw[hc]));omega;exact rfl)|(apply TO.copy_ms (H':=[.cells [.t (.sl 2 (p.enums.map enT)),.t (nodesT p.nodes),.t (T.n nd),.t (declsT env)],.cells [.t (.v (.slice none 0 0)),.t (.v (.slice none 0 0)),.i 0,.t (.v (.slice none 0 0))],.cells (mixC (declCs l) zD env.length)]) tabOk;exact rfl;exact rfl;exact rfl;exact rfl;exact rfl;exact rfl;exact rfl;exact rfl;exact rfl;exact rfl;(rw[m1];omega);(rw[zerosOf_len,m1];show 0+l.length*3≤(l.length+env.length)*3;omega);(exact congrArg (fun c=>[Blk.cells [.t (.sl 2 (p.enums.map enT)),.t (nodesT p.nodes),.t (T.n nd),.t (declsT env)],.cells [.t (.v (.slice none 0 0)),.t (.v (.slice none 0 0)),.i 0,.t (.v (.slice none 0 0))],.cells c]) hsp1))|(apply TO.slice_mslo (b:=(l.map declT).length) tabOk;exact rfl;exact rfl;exact rfl;exact rfl;exact rfl;exact rfl;exact rfl;(rw[m1];omega))|(apply TO.copy_ms (H':=[.cells [.t (.sl 2 (p.enums.map enT)),.t (nodesT p.nodes),.t (T.n nd),.t (declsT env)],.cells [.t (.v (.slice none 0 0)),.t (.v (.slice none 0 0)),.i 0,.t (.v (.slice none 0 0))],.cells ((declCs (l++env)).map .t)]) tabOk;exact rfl;exact rfl;exact rfl;exact rfl;exact rfl;exact rfl;exact rfl;exact rfl;exact rfl;exact rfl;(rw[m1,m2];omega);(rw[mixC_len,declCs_len,m1,m2];show 0+l.length*3+env.length*3≤l.length*3+env.length*3;omega);(exact congrArg (fun c=>[Blk.cells [.t (.sl 2 (p.enums.map enT)),.t (nodesT p.nodes),.t (T.n nd),.t (declsT env)],.cells [.t (.v (.slice none 0 0)),.t (.v (.slice none 0 0)),.i 0,.t (.v (.slice none 0 0))],.cells c]) hsp2);refine TO.freezeP 5 3 2 (l.length+env.length) (es:=(l++env).map declT) rfl rfl (by rw[m3,List.length_map,declCs_len,hcat];exact Nat.le_refl _) (fun j c hj=>hj) m3.symm hsz rfl rfl ?_)|fail)
 exact wkr
end Go.Proofs.YtddaclniamlmbaaGreatDoor
