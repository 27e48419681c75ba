import Derived.Test.YtddaclniamlmbaaGreatDoorPk17
import Derived.Test.YtddaclniamlmbaaGreatDoorPk19
import Derived.Test.YtddaclniamlmbaaGreatDoorPk28
import Derived.Test.YtddaclniamlmbaaGreatDoorPk29
import Derived.Test.YtddaclniamlmbaaGreatDoorPk34
set_option linter.unusedSimpArgs false
set_option linter.unusedVariables false
namespace Go.Proofs.YtddaclniamlmbaaGreatDoor
open Go Go.TL
attribute [local irreducible] TR TO Then InBlock RetK Sound LoopK Kf GG ThenL
def nI(k:Nat):I64:=if h:(k:Int)≤9223372036854775807 then⟨k,⟨by omega,h⟩⟩ else⟨0,by decide⟩
def stTy(w:Plc)(F:Plc->Auto->Int)(s:Sta):Int:=
 orE (firstE (fun t:Tran=>condT w t.cond) s.unl) (orE (firstE (eqnT ⟨w.p,w.node,s.locals++w.env⟩) s.eqs) (orE (firstE (F ⟨w.p,w.node,s.locals++w.env⟩) s.autos) (firstE (fun t:Tran=>condT ⟨w.p,w.node,s.locals++w.env⟩ t.cond) s.unt)))
def autoTy:Nat->Plc->Auto->Int
 | 0,_,_=>0
 | k+1,w,a=>firstE (stTy w (autoTy k)) a.states
def restTy(w:Plc)(n:Nod):Int:=orE (firstE (autoTy 3 w) n.autos) (orE (firstE (condT w) n.assume) (firstE (condT w) n.ensure))
def nodeTy(w:Plc)(n:Nod):Int×Int:=if firstE (eqnT w) n.eqs≠0 then firstI (eqnT w) n.eqs else(-1,restTy w n)
def nodG(p:Prog)(x:Nod×Nat):Int×Int:=nodeTy ⟨p,nI x.2,varsL x.1⟩ x.1
def tyNods(p:Prog):List (Nod×Nat)->(Int×Int)×Int
 | []=>((0,0),0)
 | x::l=>if(nodG p x).2=0 then tyNods p l else(((x.2:Int),(nodG p x).1),(nodG p x).2)
def typesX(p:Prog):(Int×Int)×Int:=if(scopeX p).2≠0 then scopeX p else tyNods p p.nodes.zipIdx
theorem tyNods_at(p:Prog):∀ {l:List (Nod×Nat)} {k:Nat} (hk:k<l.length),firstE (fun x=>(nodG p x).2) (l.take k)=0->(nodG p l[k]).2≠0->tyNods p l=(((l[k].2:Int),(nodG p l[k]).1),(nodG p l[k]).2)
 | x::l,0,hk,h,hn=>by
   simp only[List.getElem_cons_zero]at hn⊢
   rw[tyNods,if_neg hn]
 | x::l,k+1,hk,h,hn=>by
   rw[List.take_succ_cons,firstE]at h
   by_cases h0:(nodG p x).2=0
   ·rw[if_pos h0]at h
    simp only[List.getElem_cons_succ]at hn⊢
    rw[tyNods,if_pos h0,tyNods_at p (by simpa using hk) h hn]
   ·rw[if_neg h0]at h;exact absurd h h0
theorem tyNods_zero(p:Prog):∀ {l:List (Nod×Nat)},firstE (fun x=>(nodG p x).2) l=0->tyNods p l=((0,0),0)
 | [],_=>rfl
 | x::l,h=>by
   rw[firstE]at h
   by_cases h0:(nodG p x).2=0
   ·rw[if_pos h0]at h
    rw[tyNods,if_pos h0,tyNods_zero p h]
   ·rw[if_neg h0]at h;exact absurd h h0
def tyA:Nat->Auto->Prop
 | 0,_=>True
 | k+1,a=>∀s∈a.states,(∀u∈s.eqs,u.left.length≤1000000000/\ExT u.right)/\(∀t∈s.unl,ExT t.cond)/\(∀t∈s.unt,ExT t.cond)/\∀b∈s.autos,tyA k b
theorem exT_of{es:List En}{e:Ex}(h:exprX es e=0)(hw:(exT e).w≤1000000000):ExT e:=⟨by have:=wEx_le e;omega,arity_flat h⟩
theorem auto_ty{es:List En}:∀(k:Nat) (a:Auto),(autoT a).w≤1000000000->autoE es k a=0->nestOk k a/\tyA k a
 | 0,a,hw,h=>by simp[autoE]at h
 | k+1,a,hw,h=>by
   unfold autoE at h
   have hst:=firstE_zero (orE_zero (orE_zero h).2).2
   have hwa:=w_auto a
   have key:∀s∈a.states,(∀b∈s.autos,nestOk k b/\tyA k b)/\(∀u∈s.eqs,u.left.length≤1000000000/\ExT u.right)/\(∀t∈s.unl,ExT t.cond)/\(∀t∈s.unt,ExT t.cond):=by
    intro s hs
    have h1:=hst s hs
    have hws:=w_inM (f:=staT) (sz:=6) hs
    have hw2:=w_sta s
    unfold stE at h1
    have h3:=(orE_zero (orE_zero (orE_zero h1).2).2).2
    have he:=firstE_zero (orE_zero h3).1
    have h4:=(orE_zero h3).2
    have ha:=firstE_zero (orE_zero h4).1
    have h5:=(orE_zero h4).2
    have hu:=firstE_zero (orE_zero h5).1
    have hv:=firstE_zero (orE_zero h5).2
    refine⟨fun b hb=>auto_ty k b (by have:=w_inM (f:=autoT) (sz:=1) hb;omega) (ha b hb),fun u hu'=>⟨?_,exT_of (equE_ex (he u hu')) (by have:=equ_ex_w u;have:=w_inM (f:=equT) (sz:=7) hu';omega)⟩,fun t ht=>exT_of (tranE_ex (hu t ht)) (by have:=tran_ex_w t;have:=w_inM (f:=tranT) (sz:=8) ht;omega),fun t ht=>exT_of (tranE_ex (hv t ht)) (by have:=tran_ex_w t;have:=w_inM (f:=tranT) (sz:=8) ht;omega)⟩
    have:=left_equ (q:=u)
    have:=w_inM (f:=equT) (sz:=7) hu'
    omega
   exact⟨fun s hs b hb=>((key s hs).1 b hb).1,fun s hs=>⟨(key s hs).2.1,(key s hs).2.2.1,(key s hs).2.2.2,fun b hb=>((key s hs).1 b hb).2⟩⟩
structure NodTy (n:Nod):Prop where
 w:(nodT n).w≤100000000
 nest:∀a∈n.autos,nestOk 3 a
 tyA:∀a∈n.autos,tyA 3 a
 eqs:∀u∈n.eqs,u.left.length≤1000000000/\ExT u.right
 assume:∀e∈n.assume,ExT e
 ensure:∀e∈n.ensure,ExT e
theorem node_ty{es:List En}{n:Nod}(h:(nodeX es n).2=0)(hw:(nodT n).w≤100000000):NodTy n:=by
 have hwn:=w_nod n
 unfold nodeX at h
 have h1:headE es n=0:=Classical.byContradiction fun hh=>by rw[if_pos hh]at h;exact hh h
 rw[if_neg (by simp[h1])]at h
 have h2:firstE (equE es) n.eqs=0:=Classical.byContradiction fun hh=>by rw[if_pos hh,firstI_snd]at h;exact hh h
 rw[if_neg (by simp[h2])]at h
 simp only at h
 unfold tailE at h
 have ha:=firstE_zero (orE_zero h).1
 have hs:=firstE_zero (orE_zero (orE_zero h).2).1
 have he:=firstE_zero (orE_zero (orE_zero h).2).2
 have hq:=firstE_zero h2
 refine⟨hw,fun a h=>(auto_ty 3 a (by have:=w_inM (f:=autoT) (sz:=1) h;omega) (ha a h)).1,fun a h=>(auto_ty 3 a (by have:=w_inM (f:=autoT) (sz:=1) h;omega) (ha a h)).2,fun u hu=>⟨?_,exT_of (equE_ex (hq u hu)) (by have:=equ_ex_w u;have:=w_inM (f:=equT) (sz:=7) hu;omega)⟩,fun e h=>exT_of (hs e h) (by have:=w_inM (f:=exT) (sz:=6) h;omega),fun e h=>exT_of (he e h) (by have:=w_inM (f:=exT) (sz:=6) h;omega)⟩
 have:=left_equ (q:=u)
 have:=w_inM (f:=equT) (sz:=7) hu
 omega
theorem scope_shape{p:Prog}(h:(scopeX p).2=0):(shapeX p).2=0:=Classical.byContradiction fun hh=>by
 unfold scopeX at h
 rw[if_pos hh]at h;exact hh h
theorem SmallW.more{w:Plc}(h:SmallW w){l:List Decl}(hl:l.length+w.env.length≤1000000000):SmallW ⟨w.p,w.node,l++w.env⟩:=⟨h.nodes,h.each,by simp only[List.length_append];exact hl⟩
theorem stTy_sound(w:Plc)(hw:SmallW w)(F:Plc->Auto->Int)(s:Sta)(hsw:(staT s).w+w.env.length≤1000000000)(hq:∀u∈s.eqs,u.left.length≤1000000000/\ExT u.right)(hu:∀t∈s.unl,ExT t.cond)(hv:∀t∈s.unt,ExT t.cond)
  (hF:∀b∈s.autos,Pure Tryz.prog 71 [.t (plcT ⟨w.p,w.node,s.locals++w.env⟩),.t (autoT b)] (.i (F ⟨w.p,w.node,s.locals++w.env⟩ b))):
  Pure Tryz.prog 144 [.t (plcT w),.t (staT s)] (.i (stTy w F s)):=by
 have h1:=w_sta s
 have l1:=w_lenM declT 3 s.locals
 have l2:=w_lenM equT 7 s.eqs
 have l3:=w_lenM autoT 1 s.autos
 have l4:=w_lenM tranT 8 s.unl
 have l5:=w_lenM tranT 8 s.unt
 have d1:(declsT s.locals).w=(T.sl 3 (s.locals.map declT)).w:=rfl
 have hw2:SmallW ⟨w.p,w.node,s.locals++w.env⟩:=hw.more (by omega)
 have hi:=innerT_sound w s.locals (by omega)
 have c1:=firstTr_sound 211 (plcT w) (fun t:Tran=>condT w t.cond) s.unl (by omega) (fun t ht=>tranTy_sound w hw t (hu t ht))
 have c2:=firstEq_sound 69 (plcT ⟨w.p,w.node,s.locals++w.env⟩) (eqnT ⟨w.p,w.node,s.locals++w.env⟩) s.eqs (by omega) (fun u h=>eqnT_sound _ hw2 u (hq u h).1 (hq u h).2)
 have c3:=firstAu_sound 71 (plcT ⟨w.p,w.node,s.locals++w.env⟩) (F ⟨w.p,w.node,s.locals++w.env⟩) s.autos (by omega) hF
 have c4:=firstTr_sound 211 (plcT ⟨w.p,w.node,s.locals++w.env⟩) (fun t:Tran=>condT ⟨w.p,w.node,s.locals++w.env⟩ t.cond) s.unt (by omega) (fun t ht=>tranTy_sound _ hw2 t (hv t ht))
 have hz:stTy w F s=stTy w F s:=rfl
 conv at hz=>rhs;unfold stTy orE
 generalize stTy w F s=z at hz⊢
 generalize firstE (fun t:Tran=>condT w t.cond) s.unl=z1 at*
 generalize firstE (eqnT ⟨w.p,w.node,s.locals++w.env⟩) s.eqs=z2 at*
 generalize firstE (F ⟨w.p,w.node,s.locals++w.env⟩) s.autos=z3 at*
 generalize firstE (fun t:Tran=>condT ⟨w.p,w.node,s.locals++w.env⟩ t.cond) s.unt=z4 at*
 unfold plcT plcC at*
 generalize s.locals++w.env=env2 at*
 rw[staT_C]
 unfold staC
 clear hq hu hv hF hw hw2
 refine so Tryz.func144 ?_
 repeat' (first|refine wkt ?_|refine wka ?_|refine wk ?_|exact wkc|intro hc|refine wk2 ?_ ?_|refine wmb ?_|refine wv hi ?_|refine wvb c1 ?_|refine wvb c2 ?_|refine wvb c3 ?_|refine wvb c4 ?_|fail)
 all_goals(refine RetK.pure rfl (Le.of_eq ?_) rfl;refine congrArg (fun z=>SV.t (T.v (Value.int IntKind.i64 z))) ?_;clear c1 c2 c3 c4 hi;grind)
theorem autoTy_sound:∀(k:Nat) (w:Plc) (hw:SmallW w) (a:Auto) (haw:(autoT a).w+w.env.length≤1000000000) (hn:nestOk k a) (hx:tyA k a),
  Pure Tryz.prog 71 [.t (plcT w),.t (autoT a)] (.i (autoTy k w a))
 | 0,w,hw,a,haw,hn,hx=>absurd hn (by simp[nestOk])
 | k+1,w,hw,a,haw,hn,hx=>by
   have h1:=w_auto a
   have l1:=w_lenM staT 6 a.states
   have hst:∀s∈a.states,Pure Tryz.prog 144 [.t (plcT w),.t (staT s)] (.i (stTy w (autoTy k) s)):=fun s hs=>by
    have hws:=w_inM (f:=staT) (sz:=6) hs
    have hw2:=w_sta s
    have l2:=w_lenM declT 3 s.locals
    have d1:(declsT s.locals).w=(T.sl 3 (s.locals.map declT)).w:=rfl
    refine stTy_sound w hw (autoTy k) s (by omega) (hx s hs).1 (hx s hs).2.1 (hx s hs).2.2.1 (fun b hb=>?_)
    have:=w_inM (f:=autoT) (sz:=1) hb
    exact autoTy_sound k _ (hw.more (by omega)) b (by simp only[List.length_append];omega) (hn s hs b hb) ((hx s hs).2.2.2 b hb)
   have c1:=firstSt_sound 144 (plcT w) (stTy w (autoTy k)) a.states (by omega) hst
   unfold autoTy
   generalize firstE (stTy w (autoTy k)) a.states=z at*
   rw[autoT_C]
   unfold autoC
   unfold plcT plcC at*
   clear hst
   refine so Tryz.func71 ?_
   repeat' (first|refine wkt ?_|refine wka ?_|refine wk ?_|exact wkc|intro hc|refine wk2 ?_ ?_|refine wmb ?_|refine wvb c1 ?_|fail)
   exact wkr
theorem smallN_of{n:Nod}(hw:(nodT n).w≤100000000):SmallN n:=by
 have h1:=w_nod n
 have l1:=w_lenM declT 3 n.ins
 have l2:=w_lenM declT 3 n.outs
 have l3:=w_lenM declT 3 n.locals
 have d1:(declsT n.ins).w=(T.sl 3 (n.ins.map declT)).w:=rfl
 have d2:(declsT n.outs).w=(T.sl 3 (n.outs.map declT)).w:=rfl
 have d3:(declsT n.locals).w=(T.sl 3 (n.locals.map declT)).w:=rfl
 exact⟨by omega,by omega,by omega⟩
theorem clocks_of{n:Nod}(hw:(nodT n).w≤100000000):∀d∈varsL n,d.clock.length≤100000000:=fun d hd=>by
 have h1:=w_nod n
 have e1:=w_decls_append n.ins (n.outs++(n.locals++[]))
 have e2:=w_decls_append n.outs (n.locals++[])
 have e3:=w_decls_append n.locals []
 have e4:(declsT ([]:List Decl)).w=1:=by rw[w_sl];rfl
 have h2:=(name_decl hd).2
 have h3:=w_lenM onT 3 d.clock
 unfold varsL at h2
 omega
theorem Kf.nilSeq{P:Program}{n:Nat}{q:Bool}{all:Array Oper}{x y:Code}{s:List Fr1}{K:TK}{env:Go.TL.Env}{H:Heap}(h:TR P n x env H (Kf P n (.thn y::s) K)):TO q P n all [] env H (Kf P n (.thn (.seq x y)::s) K):=by
 refine TO.nil ?_
 rw[Kf]
 refine Then.normal ?_
 refine TR.seq ?_
 rw[Kf]at h
 exact h
theorem nI_of{k:Nat}(h:(k:Int)≤9223372036854775807):nI k=⟨k,⟨by omega,h⟩⟩:=by unfold nI;rw[dif_pos h]
set_option maxHeartbeats 2000000 in
theorem typesX_sound (p:Prog) (hw:(T.ag (progC p)).w≤100000000):Pure Tryz.prog 31 [.t (.ag (progC p))] (.tup [.t (.ag [T.i (typesX p).1.1,T.i (typesX p).1.2]),.i (typesX p).2]):=by
 have l1:(T.sl 2 (p.enums.map enT)).w+(nodesT p.nodes).w≤(T.ag (progC p)).w:=by rw[w_ag];simp only[progC,List.map_cons,List.map_nil,List.sum_cons,List.sum_nil];omega
 have hnT:(nodesT p.nodes).w=(T.sl 8 (p.nodes.map nodT)).w:=rfl
 have b2:=w_lenM nodT 8 p.nodes
 have m2:(p.nodes.map nodT).length=p.nodes.length:=List.length_map _
 have hzn:p.nodes.zipIdx.length=p.nodes.length:=by simp
 have hln:∀u∈p.nodes,(nodT u).w≤100000000:=fun u hu=>by
  have h2:=w_inM (f:=nodT) (sz:=8) hu
  omega
 have hsc:=scopeX_sound p hw
 have hz:typesX p=typesX p:=rfl
 conv at hz=>rhs;unfold typesX
 generalize typesX p=z at hz⊢
 have hsn:=fun h=>shape_nodes (p:=p) (scope_shape h)
 generalize scopeX p=sx at*
 obtain⟨⟨s1,s2⟩,s3⟩:=sx
 simp only at hz hsc hsn
 have hpc:progC p=[.sl 2 (p.enums.map enT),nodesT p.nodes]:=rfl
 rw[hpc]at hsc⊢
 refine so Tryz.func31 ?_
 repeat' (first|refine wu ?_|exact wkc|intro hc|refine wk2 ?_ ?_|refine wv hsc ?_|fail)
 ·rw[if_pos (by simpa using hc)]at hz
  subst hz
  exact wkr
 rw[if_neg (by simpa using hc)]at hz
 have hz0:s3=0:=by simpa using hc
 have hsn:=hsn hz0
 clear hsc hc
 refine TR.loopN p.nodes.length (fun k=>firstE (fun x=>(nodG p x).2) (p.nodes.zipIdx.take k)=0) (fun k=>[(1,.cp [.sl 2 (p.enums.map enT),nodesT p.nodes] 0),(2,.ref 0 0),(23,.t (nodesT p.nodes)),(24,.i (p.nodes.map nodT).length),(25,.i k)])
  (fun k=>[.cells [.i 0,.i 0]]) rfl (fun k hlt ha=>?_) (fun ha=>?_)
 ·have hx:=at_nod hlt
  have hzi:p.nodes.zipIdx[k]'(by rw[hzn];exact hlt)=(p.nodes[k],k):=by simp
  have g1:=tyNods_at p (by rw[hzn];exact hlt) ha
  have g2:=firstE_next (f:=fun x=>(nodG p x).2) (by rw[hzn];exact hlt) ha
  rw[hzi]at g1 g2
  have hnw:=hln _ (List.getElem_mem hlt)
  have hty:=node_ty (hsn _ (List.getElem_mem hlt)) hnw
  have hN:=smallN_of hnw
  have hv:=vars_sound p.nodes[k] hN (clocks_of hnw)
  have hk63:(k:Int)≤9223372036854775807:=by omega
  have hvl:(varsL p.nodes[k]).length≤300000000:=by have:=hN.ins;have:=hN.outs;have:=hN.locals;simp[varsL];omega
  have hW:SmallW ⟨p,nI k,varsL p.nodes[k]⟩:=⟨by simp only;omega,fun u hu=>smallN_of (hln u hu),by simp only;omega⟩
  unfold nodG at g1 g2
  simp only at g1 g2
  generalize hL:varsL p.nodes[k]=L at*
  generalize p.nodes[k]=n at*
  have hwn:=w_nod n
  have heq:=fun(u:Equ) (hu:u∈n.eqs)=>eqnT_sound _ hW u (hty.eqs u hu).1 (hty.eqs u hu).2
  have c1:=firstAu_sound 71 (plcT ⟨p,nI k,L⟩) (autoTy 3 ⟨p,nI k,L⟩) n.autos (by have:=w_lenM autoT 1 n.autos;omega) (fun a h=>autoTy_sound 3 _ hW a (by have:=w_inM (f:=autoT) (sz:=1) h;simp only;omega) (hty.nest a h) (hty.tyA a h))
  have c2:=firstEx_sound 73 (plcT ⟨p,nI k,L⟩) (condT ⟨p,nI k,L⟩) n.assume (by have:=w_lenM exT 6 n.assume;omega) (fun e h=>condT_sound _ hW e (hty.assume e h))
  have c3:=firstEx_sound 73 (plcT ⟨p,nI k,L⟩) (condT ⟨p,nI k,L⟩) n.ensure (by have:=w_lenM exT 6 n.ensure;omega) (fun e h=>condT_sound _ hW e (hty.ensure e h))
  unfold nodeTy restTy at g1 g2
  generalize eqnT ⟨p,nI k,L⟩=EQ at*
  generalize firstE (autoTy 3 ⟨p,nI k,L⟩) n.autos=z1 at*
  generalize firstE (condT ⟨p,nI k,L⟩) n.assume=z2 at*
  generalize firstE (condT ⟨p,nI k,L⟩) n.ensure=z3 at*
  rw[nI_of hk63]at heq c1 c2 c3
  unfold plcT plcC at heq c1 c2 c3
  dsimp only[T.n]at heq c1 c2 c3
  generalize hR:orE z1 (orE z2 z3)=R at g1 g2
  unfold orE at hR
  unfold nodC at hx hv
  have hel:n.eqs.length≤1000000000:=by have:=w_lenM equT 7 n.eqs;omega
  clear hsn hln hty hW hN hnw hwn
  repeat' (first|refine wkt ?_|refine wka ?_|(refine Kf.nilSeq ?_;fail)|exact wkc|intro hc|refine wk2 ?_ ?_|fail)
  refine wk ?_
  refine wkt ?_
  refine wka ?_
  refine Kf.nilSeq ?_
  refine Go.TL.TR.regionM (envF:=?envF) (HF:=[.cells [.i 0,.i 0],.cells [.t (.sl 2 (p.enums.map enT)),.t (nodesT p.nodes),.i k,.t (declsT L)]]) [(.t (.ag [.sl 2 (p.enums.map enT),nodesT p.nodes]),false),(.i k,false),(.t (.ag [.s n.name,declsT n.ins,declsT n.outs,declsT n.locals,.sl 7 (n.eqs.map equT),.sl 1 (n.autos.map autoT),.sl 6 (n.assume.map exT),.sl 6 (n.ensure.map exT)]),false),(.t (declsT L),false),(.t (.ag [.sl 2 (p.enums.map enT),nodesT p.nodes,T.i k,declsT L]),false),(.ref 1 0,true),(.any,true)] [[.cells [.i 0,.i 0]],[.cells [.i 0,.i 0],.cells [.t (.v (.slice none 0 0)),.t (.v (.slice none 0 0)),.i 0,.t (.v (.slice none 0 0))]],[.cells [.i 0,.i 0],.cells [.t (.sl 2 (p.enums.map enT)),.t (nodesT p.nodes),.i k,.t (declsT L)]]] hmix ?hB ?h0 ?hp ?hF ?hE ?hK
  case hB=>(dsimp only[List.map];decide +kernel)
  case h0=>exact rfl
  case hF=>exact rfl
  case hE=>exact rfl
  case hp=>repeat' (first|refine wu ?_|refine wk2 ?_ ?_|exact wkc|intro hc|refine wv hv ?_|exact trivial|exact And.intro rfl rfl|refine And.intro (fun H env=>?_) ?_|refine And.intro (fun env=>?_) ?_|fail)
  repeat' (first|refine wkt ?_|refine wka ?_|refine wk ?_|exact wkc|intro hc|refine wk2 ?_ ?_|fail)
  have hme:(n.eqs.map equT).length=n.eqs.length:=List.length_map _
  refine TR.loopN n.eqs.length (fun j=>firstE EQ (n.eqs.take j)=0) (fun j=>[(1,.cp [.sl 2 (p.enums.map enT),nodesT p.nodes] 0),(2,.ref 0 0),(23,.t (nodesT p.nodes)),(24,.i (p.nodes.map nodT).length),(25,.i k),(6,.i k),(7,.cp [.s n.name,declsT n.ins,declsT n.outs,declsT n.locals,.sl 7 (n.eqs.map equT),.sl 1 (n.autos.map autoT),.sl 6 (n.assume.map exT),.sl 6 (n.ensure.map exT)] 0),(8,.ref 1 0),(36,.t (.sl 7 (n.eqs.map equT))),(37,.i (n.eqs.map equT).length),(38,.i j)]) (fun _=>[.cells [.i 0,.i 0],.cells [.t (.sl 2 (p.enums.map enT)),.t (nodesT p.nodes),.i k,.t (declsT L)]]) rfl (fun j hlj ha=>?_) (fun ha=>?_)
  ·have hxe:=at_equ hlj
   have e1:=firstE_at (f:=EQ) hlj ha
   have e2:=firstE_next (f:=EQ) hlj ha
   have e3:=firstI_at (f:=EQ) hlj ha
   have hd:=heq _ (List.getElem_mem hlj)
   generalize n.eqs[j]=u at*
   generalize EQ u=ue at*
   rw[show equT u= .ag (equC u) from rfl]at hd
   unfold equC at*
   clear heq c1 c2 c3
   repeat' (first|refine wkt ?_|refine wka ?_|refine wk ?_|exact wkc|intro hc|refine wk2 ?_ ?_|refine wv hd ?_|fail)
   ·rw[if_pos (by rw[e1 hc];exact hc),e3 hc]at g1
    rw[g1 hc]at hz
    subst hz
    exact wkr
   ·exact LoopK.nextN hlj (e2 (Decidable.not_not.1 hc))
  have ez:=firstE_all ha
  rw[if_neg (by simp[ez])]at g1 g2
  simp only at g1 g2
  clear heq
  repeat' (first|refine wkt ?_|refine wka ?_|refine wk ?_|exact wkc|intro hc|refine wk2 ?_ ?_|refine wmb ?_|refine wvb c1 ?_|refine wvb c2 ?_|refine wvb c3 ?_|fail)
  all_goals first
   | (refine LoopK.nextC 1 hlt (g2 ?_) rfl rfl rfl rfl rfl;clear c1 c2 c3 g1 g2 hv hz;grind)
   | (have hR0:R≠0:=(by clear c1 c2 c3 g1 g2 hv hz;grind)
      rw[g1 hR0]at hz
      subst hz
      first
       | (have e:R=z1:=(by clear c1 c2 c3 g1 g2 hv;grind);rw[e];exact wkr)
       | (have e:R=z2:=(by clear c1 c2 c3 g1 g2 hv;grind);rw[e];exact wkr)
       | (have e:R=z3:=(by clear c1 c2 c3 g1 g2 hv;grind);rw[e];exact wkr))
 ·rw[<-hzn,List.take_length]at ha
  rw[tyNods_zero p ha]at hz
  subst hz
  refine wk ?_
  repeat' (first|refine wu ?_|exact wkc|intro hc|refine wk2 ?_ ?_|fail)
  exact wkr
end Go.Proofs.YtddaclniamlmbaaGreatDoor
namespace Go.TL
open Go
inductive TLs:T->T->Prop
 | refl (t:T):TLs t t
 | nil (sz:Nat):TLs (.v (.slice none 0 0)) (.sl sz [])
 | ag (cs ds:List T) (h:cs.length=ds.length) (hl:∀(i:Nat) c d,cs[i]?=some c->ds[i]?=some d->TLs c d):TLs (.ag cs) (.ag ds)
 | sl (sz:Nat) (cs ds:List T) (h:cs.length=ds.length) (hl:∀(i:Nat) c d,cs[i]?=some c->ds[i]?=some d->TLs c d):TLs (.sl sz cs) (.sl sz ds)
theorem TLs.both{A:Foot}{w:World}{a b:T}(h:TLs a b):(∀x,TRel A w a x->TRel A w b x)/\a.cells.length=b.cells.length/\∀(j:Nat) c d,a.cells[j]?=some c->b.cells[j]?=some d->∀x,TRel A w c x->TRel A w d x:=by
 have one:∀(a b:T),(∀x,TRel A w a x->TRel A w b x)->∀(j:Nat) c d,[a][j]?=some c->[b][j]?=some d->∀x,TRel A w c x->TRel A w d x:=by
  intro a b h j c d hc hd
  cases j with
  | zero=>simp at hc hd;subst hc;subst hd;exact h
  | succ j=>simp at hc
 induction h with
 | refl t=>exact⟨fun _ h=>h,rfl,fun j c d hc hd=>by rw[hc]at hd;cases hd;exact fun _ h=>h⟩
 | nil sz=>
   have h1:∀x,TRel A w (.v (.slice none 0 0)) x->TRel A w (.sl sz []) x:=by intro x h;cases h;exact .nil sz
   exact⟨h1,rfl,one _ _ h1⟩
 | ag cs ds hl _ ih=>
   refine⟨?_,hl,fun j c d hc hd=>(ih j c d hc hd).1⟩
   intro x h
   cases h with
   | ag _ arr hs h1 hr=>
     refine .ag _ _ (by omega) h1 fun i d y hd hy=>?_
     have hi:=(List.getElem?_eq_some_iff.1 hd).1
     have hc:cs[i]?=some (cs[i]'(by omega)):=List.getElem?_eq_getElem _
     exact(ih i _ d hc hd).1 y (hr i _ y hc hy)
 | sl sz cs ds hl _ ih=>
   have h1:∀x,TRel A w (.sl sz cs) x->TRel A w (.sl sz ds) x:=by
    intro x h
    generalize hq:T.sl sz cs=q at h
    cases h with
    | v x=>cases hq
    | ag=>cases hq
    | nil sz'=>cases hq;have:ds=[]:=List.eq_nil_of_length_eq_zero (by simpa using hl.symm);subst this;exact .nil _
    | empty sz' a=>cases hq;have:ds=[]:=List.eq_nil_of_length_eq_zero (by simpa using hl.symm);subst this;exact .empty _ a
    | sl sz' es b off cap f hcap hsz hA hw h1 hr=>
      cases hq
      rw[hl]
      refine .sl sz ds b off cap f (by omega) (fun i d hd=>?_) (by rw[<-hl];exact hA) (by rw[<-hl];exact hw) (by rw[<-hl];exact h1) (fun i d j c' hd hc'=>?_)
      ·have hi:=(List.getElem?_eq_some_iff.1 hd).1
       have hc:cs[i]?=some (cs[i]'(by omega)):=List.getElem?_eq_getElem _
       rw[<-(ih i _ d hc hd).2.1];exact hsz i _ hc
      ·have hi:=(List.getElem?_eq_some_iff.1 hd).1
       have hc:cs[i]?=some (cs[i]'(by omega)):=List.getElem?_eq_getElem _
       have hj:=(List.getElem?_eq_some_iff.1 hc').1
       have hl2:=(ih i _ d hc hd).2.1
       have hcc:(cs[i]'(by omega)).cells[j]?=some ((cs[i]'(by omega)).cells[j]'(by omega)):=List.getElem?_eq_getElem _
       exact(ih i _ d hc hd).2.2 j _ c' hcc hc' _ (hr i _ j _ hc hcc)
   exact⟨h1,rfl,one _ _ h1⟩
theorem Le.treeS{s:SV}{t u:T}(h:s.toT=some t)(k:TLs t u):Le s (.t u):=fun _ _ hx=>.t _ _ (k.both.1 _ (hx.toT h))
def TLss:List T->List T->Prop
 | [],[]=>True
 | a::aas,b::bs=>TLs a b/\TLss aas bs
 | _,_=>False
theorem TLss.get:∀ {cs ds:List T},TLss cs ds->cs.length=ds.length/\∀(i:Nat) c d,cs[i]?=some c->ds[i]?=some d->TLs c d
 | [],[],_=>⟨rfl,by simp⟩
 | a::aas,b::bs,h=>by
   have ih:=TLss.get h.2
   exact⟨by simp[ih.1],fun i c d hc hd=>by cases i with|zero=>simp at hc hd;subst hc;subst hd;exact h.1|succ i=>exact ih.2 i c d (by simpa using hc) (by simpa using hd)⟩
theorem TLs.agL{cs ds:List T}(h:TLss cs ds):TLs (.ag cs) (.ag ds):=.ag _ _ h.get.1 h.get.2
theorem TLs.slL{sz:Nat}{cs ds:List T}(h:TLss cs ds):TLs (.sl sz cs) (.sl sz ds):=.sl _ _ _ h.get.1 h.get.2
end Go.TL
namespace Go.Proofs.YtddaclniamlmbaaGreatDoor
open Go Go.TL
attribute [local irreducible] TR TO Then InBlock RetK Sound LoopK Kf GG ThenL
def i64(k:Int)(h:-9223372036854775808≤k/\k≤9223372036854775807:=by decide):I64:=⟨k,h⟩
def smplE:Ex:=.mk (i64 1) (i64 0) (i64 2) (i64 1) [] []
def smplN:Nod:=⟨[102],[⟨[97],i64 2,[]⟩],[⟨[120],i64 1,[]⟩],[],[⟨[[120]],smplE⟩],[],[],[]⟩
def smpl:Prog:=⟨[],[smplN]⟩
theorem sample_sound:Pure Tryz.prog 34 [] (.t (.ag (progC smpl))):=by
 refine so Tryz.func34 ?_
 repeat' (first|refine wu ?_|exact wkc|intro hc|refine wk2 ?_ ?_|fail|fail)
 refine RetK.pure rfl (Le.treeS rfl ?_) rfl
 repeat' (first|exact trivial|exact TLs.refl _|exact TLs.nil _|refine TLs.agL ?_|refine TLs.slL ?_|refine And.intro ?_ ?_|fail)
def exA':Ex:=.mk (i64 2) (i64 0) (i64 0) (i64 0) [97] []
def ex1:Ex:=.mk (i64 1) (i64 0) (i64 2) (i64 1) [] []
def exY:Ex:=.mk (i64 1) (i64 0) (i64 1) (i64 1) [] []
def exQ:Ex:=.mk (i64 3) (i64 11) (i64 0) (i64 0) [] [exA',ex1]
def exN:Ex:=.mk (i64 3) (i64 3) (i64 0) (i64 0) [] [exA',exY]
theorem flat_leaf(k o t v:I64)(n:Str):flat (.mk k o t v n [])=[.mk k o t v n []]:=by rw[flat_eq];rfl
theorem wEx_leaf(k o t v:I64)(n:Str):wEx (.mk k o t v n [])=1:=by rw[wEx_eq];rfl
theorem dep_leaf(k o t v:I64)(n:Str):exDepth (.mk k o t v n [])≤32:=by rw[exDepth_eq];show(0:Int)+1≤32;decide
theorem exprX_leaf(es:List En)(k o t v:I64)(n:Str)(h1:oneX (.mk k o t v n [])=0)(h2:insX es (.mk k o t v n [])=0):exprX es (.mk k o t v n [])=0:=by
 have hd:=dep_leaf k o t v n
 unfold exprX checkX
 rw[flat_leaf,wEx_leaf]
 simp[firstE,h1,h2];omega
theorem e0:exprX [] smplE=0:=exprX_leaf _ _ _ _ _ _ (by decide +kernel) (by decide +kernel)
theorem e1:equE [] ⟨[[120]],smplE⟩=0:=by unfold equE;rw[show exprX [] (Equ.mk [[120]] smplE).right=0 from e0];decide +kernel
theorem e2:nodeX [] smplN=(-1,0):=by
 have h:firstE (equE []) smplN.eqs=0:=by show firstE (equE []) [⟨[[120]],smplE⟩]=0;unfold firstE;rw[e1];rfl
 unfold nodeX
 rw[h];decide +kernel
theorem e3:shapeX smpl=((0,0),0):=by
 have h:firstE (fun n=>(nodeX smpl.enums n).2) smpl.nodes=0:=by
  show firstE _ [smplN]=0
  unfold firstE
  rw[show nodeX smpl.enums smplN=(-1,0) from e2];rfl
 unfold shapeX
 rw[h];decide +kernel
theorem e4:scopeX smpl=((0,0),0):=by unfold scopeX;rw[e3];decide +kernel
theorem e5(w:Plc):resT w false smplE=([2],0):=by rw[resT_eq];rfl
theorem e6:eqnT ⟨smpl,nI 0,varsL smplN⟩ ⟨[[120]],smplE⟩=10:=by
 unfold eqnT
 rw[show resT ⟨smpl,nI 0,varsL smplN⟩ false (Equ.mk [[120]] smplE).right=([2],0) from e5 _];decide +kernel
theorem e7:nodG smpl (smplN,0)=(0,10):=by
 have h:firstE (eqnT ⟨smpl,nI 0,varsL smplN⟩) smplN.eqs=10:=by show firstE _ [Equ.mk [[120]] smplE]=10;unfold firstE;rw[e6];rfl
 have h2:firstI (eqnT ⟨smpl,nI 0,varsL smplN⟩) smplN.eqs=(0,10):=by show firstI _ [Equ.mk [[120]] smplE]=(0,10);unfold firstI;rw[e6];rfl
 show nodeTy ⟨smpl,nI 0,varsL smplN⟩ smplN=_
 unfold nodeTy
 rw[h,h2];rfl
theorem tySmpl:typesX smpl=((0,0),10):=by
 unfold typesX
 rw[e4]
 show tyNods smpl [(smplN,0)]=_
 unfold tyNods
 rw[e7];rfl
theorem flat_two(k o t v k1 o1 t1 v1 k2 o2 t2 v2:I64)(n n1 n2:Str):flat (.mk k o t v n [.mk k1 o1 t1 v1 n1 [],.mk k2 o2 t2 v2 n2 []])=[.mk k o t v n [.mk k1 o1 t1 v1 n1 [],.mk k2 o2 t2 v2 n2 []],.mk k1 o1 t1 v1 n1 [],.mk k2 o2 t2 v2 n2 []]:=by
 rw[flat_eq]
 simp[flats,Ex.args,flat_leaf]
theorem wEx_two(k o t v k1 o1 t1 v1 k2 o2 t2 v2:I64)(n n1 n2:Str):wEx (.mk k o t v n [.mk k1 o1 t1 v1 n1 [],.mk k2 o2 t2 v2 n2 []])=3:=by
 rw[wEx_eq];simp[Ex.args,wEx_leaf]
theorem dep_two(k o t v k1 o1 t1 v1 k2 o2 t2 v2:I64)(n n1 n2:Str):exDepth (.mk k o t v n [.mk k1 o1 t1 v1 n1 [],.mk k2 o2 t2 v2 n2 []])≤32:=by
 have h1:=dep_leaf k1 o1 t1 v1 n1
 have h2:=dep_leaf k2 o2 t2 v2 n2
 have e1:exDepth (.mk k1 o1 t1 v1 n1 [])=1:=by rw[exDepth_eq];rfl
 have e2:exDepth (.mk k2 o2 t2 v2 n2 [])=1:=by rw[exDepth_eq];rfl
 rw[exDepth_eq];simp[Ex.args,e1,e2];decide
theorem exprX_two(es:List En)(k o t v k1 o1 t1 v1 k2 o2 t2 v2:I64)(n n1 n2:Str)(h:firstE oneX [.mk k o t v n [.mk k1 o1 t1 v1 n1 [],.mk k2 o2 t2 v2 n2 []],.mk k1 o1 t1 v1 n1 [],.mk k2 o2 t2 v2 n2 []]=0)
  (h2:firstE (insX es) [.mk k o t v n [.mk k1 o1 t1 v1 n1 [],.mk k2 o2 t2 v2 n2 []],.mk k1 o1 t1 v1 n1 [],.mk k2 o2 t2 v2 n2 []]=0):exprX es (.mk k o t v n [.mk k1 o1 t1 v1 n1 [],.mk k2 o2 t2 v2 n2 []])=0:=by
 have hd:=dep_two k o t v k1 o1 t1 v1 k2 o2 t2 v2 n n1 n2
 unfold exprX checkX
 rw[flat_two,wEx_two,h,h2]
 simp;omega
theorem res_leaf(w:Plc)(b:Bool)(k o t v:I64)(n:Str):resT w b (.mk k o t v n [])=kindT w (.mk k o t v n []) [] b:=by rw[resT_eq];rfl
theorem res_two(w:Plc)(b:Bool)(k o t v k1 o1 t1 v1 k2 o2 t2 v2:I64)(n n1 n2:Str):resT w b (.mk k o t v n [.mk k1 o1 t1 v1 n1 [],.mk k2 o2 t2 v2 n2 []])=
  if(heads [kindT w (.mk k1 o1 t1 v1 n1 []) [] true,kindT w (.mk k2 o2 t2 v2 n2 []) [] true]).2≠0 then([],(heads [kindT w (.mk k1 o1 t1 v1 n1 []) [] true,kindT w (.mk k2 o2 t2 v2 n2 []) [] true]).2)
  else kindT w (.mk k o t v n [.mk k1 o1 t1 v1 n1 [],.mk k2 o2 t2 v2 n2 []]) (heads [kindT w (.mk k1 o1 t1 v1 n1 []) [] true,kindT w (.mk k2 o2 t2 v2 n2 []) [] true]).1 b:=by
 rw[resT_eq,show(Ex.mk k o t v n [.mk k1 o1 t1 v1 n1 [],.mk k2 o2 t2 v2 n2 []]).args=[.mk k1 o1 t1 v1 n1 [],.mk k2 o2 t2 v2 n2 []] from rfl]
 simp only[List.map_cons,List.map_nil,res_leaf]
theorem ofQ:ofT smpl (i64 0) exQ=([1],0):=by
 have h:exprX smpl.enums exQ=0:=exprX_two _ _ _ _ _ _ _ _ _ _ _ _ _ _ _ _ (by decide +kernel) (by decide +kernel)
 have h2:resT ⟨smpl,i64 0,varsL smplN⟩ false exQ=([1],0):=by
  show resT _ false (.mk _ _ _ _ _ [.mk _ _ _ _ _ [],.mk _ _ _ _ _ []])=_
  rw[res_two];decide +kernel
 unfold ofT
 rw[if_neg (by decide),h,if_neg (by decide)]
 exact h2
theorem ofN:ofT smpl (i64 0) exN=([],10):=by
 have h:exprX smpl.enums exN=0:=exprX_two _ _ _ _ _ _ _ _ _ _ _ _ _ _ _ _ (by decide +kernel) (by decide +kernel)
 have h2:resT ⟨smpl,i64 0,varsL smplN⟩ false exN=([],10):=by
  show resT _ false (.mk _ _ _ _ _ [.mk _ _ _ _ _ [],.mk _ _ _ _ _ []])=_
  rw[res_two];decide +kernel
 unfold ofT
 rw[if_neg (by decide),h,if_neg (by decide)]
 exact h2
theorem ofA:ofT smpl (i64 1) exA'=([],2):=by decide +kernel
end Go.Proofs.YtddaclniamlmbaaGreatDoor
