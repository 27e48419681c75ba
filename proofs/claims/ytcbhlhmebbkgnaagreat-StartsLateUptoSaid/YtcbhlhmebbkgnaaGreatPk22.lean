import Derived.DeepKeys
import Derived.Test.YtcbhlhmebbkgnaaGreatPk10
import Derived.Test.YtcbhlhmebbkgnaaGreatPk13
import Derived.Test.YtcbhlhmebbkgnaaGreatPk14
import Derived.Test.YtcbhlhmebbkgnaaGreatPk18
import Derived.Test.YtcbhlhmebbkgnaaGreatPk21
set_option linter.unusedSimpArgs false
set_option linter.unusedVariables false
namespace Go.Proofs.YtcbhlhmebbkgnaaGreat
open Go Go.TL
attribute [local irreducible] TR TO Then zaw RetK Sound zab Kf GG zaZ
theorem zmi(w:Plc)(l:List Decl)(hl:l.length+w.env.length≤3000000000):
  Pure Tryz.prog 152 [.t (plcT w),.t (zac l)] (.t (plcT ⟨w.p,w.node,l++w.env⟩)):=by
 obtain⟨p,nd,env⟩:=w
 have m1:(l.map zah).length=l.length:=List.length_map _
 have m2:(env.map zah).length=env.length:=List.length_map _
 unfold plcT plcC at*
 simp only at*
 have hc:(((l.map zah).length:Int)+((env.map zah).length:Int))=((l.length+env.length:Nat):Int):=by rw[m1,m2];simp
 have hz:zaY zD (l.length+env.length)=mixC [] zD (l.length+env.length):=by simp[mixC]
 have hsp1:splice (zaY zD (l.length+env.length)) 0 ((((l.map zah).map T.cells).flatten).map .t)=mixC (zaO l) zD env.length:=by
  have e:=zcB [] (zaO l) zD (l.length+env.length) l.length 0 (by omega) rfl (zbo _)
  rw[hz];refine e.trans ?_
  rw[List.nil_append];congr 1;omega
 have hsp2:splice (mixC (zaO l) zD env.length) (0+(l.map zah).length*3) ((((env.map zah).map T.cells).flatten).map .t)=(zaO (l++env)).map .t:=by
  have e:=zcB (zaO l) (zaO env) zD env.length env.length (0+(l.map zah).length*3) (by omega) (by rw[zbo,m1];omega) (zbo _)
  refine e.trans ?_
  rw[Nat.sub_self,zfW,zfX]
 have hsz:∀e∈(l++env).map zah,e.cells.length=3:=fun e he=>by
  obtain⟨d,_,rfl⟩:=List.mem_map.1 he;exact znx d
 have hcat:(l++env).length=l.length+env.length:=List.length_append
 have m3:((l++env).map zah).length=l.length+env.length:=by rw[List.length_map,hcat]
 by_cases henv:env.length=0
 ·have:env=[]:=List.eq_nil_of_length_eq_zero henv
  subst this
  have hsp3:splice (zaY zD (l.map zah).length) 0 ((((l.map zah).map T.cells).flatten).map .t)=(zaO l).map .t:=by
   have e:=zcB [] (zaO l) zD l.length l.length 0 (by omega) rfl (zbo _)
   rw[m1,show zaY zD l.length=mixC [] zD l.length from by simp[mixC]]
   refine e.trans ?_
   rw[List.nil_append,Nat.sub_self,zfW]
  rw[List.append_nil]at hsz⊢
  clear hsp1 hsp2 hc
  refine so Tryz.func152 ?_
  repeat' (first|refine wk ?_|exact wkc|intro hc|refine wk2 ?_ ?_|(apply TO.makeSlice (c:=(l.map zah).length) zam;(iterate 6 exact rfl);(exact Eq.trans (b:=some (.i (((l.map zah).length:Int)+0))) rfl (by rw[Int.add_zero]));(rw[m1];simp at hl;omega);exact rfl)|(apply TO.znk (len:=(l.map zah).length) zam;(iterate 7 exact rfl))|(apply TO.zrk zam;(iterate 10 exact rfl);refine TO.zh1 5 3 2 (l.map zah).length (es:=l.map zah) rfl rfl (by simp[zbo]) (fun j c hj=>hj) rfl hsz rfl rfl ?_)|(apply TO.zlf (H':=[.cells [.t (.sl 2 (p.enums.map enT)),.t (zag p.nodes),.t (T.n nd),.t (zac [])],.cells [.t (.v (.slice none 0 0)),.t (.v (.slice none 0 0)),.i 0,.t (.v (.slice none 0 0))],.cells ((zaO l).map .t)]) zam;(iterate 10 exact rfl);exact Nat.le_refl _;(rw[zbX];show 0+(l.map zah).length*3≤(l.map zah).length*3;omega);(exact congrArg (fun c=>[Blk.cells [.t (.sl 2 (p.enums.map enT)),.t (zag p.nodes),.t (T.n nd),.t (zac [])],.cells [.t (.v (.slice none 0 0)),.t (.v (.slice none 0 0)),.i 0,.t (.v (.slice none 0 0))],.cells c]) hsp3))|fail)
  exact wkr
 refine so Tryz.func152 ?_
 repeat' (first|refine wk ?_|exact wkc|intro hc|refine wk2 ?_ ?_|(apply TO.makeSlice (c:=l.length+env.length) zam;(iterate 6 exact rfl);(exact Eq.trans (b:=some (.i (((l.map zah).length:Int)+((env.map zah).length:Int)))) rfl (by rw[hc]));omega;exact rfl)|(apply TO.zlf (H':=[.cells [.t (.sl 2 (p.enums.map enT)),.t (zag p.nodes),.t (T.n nd),.t (zac env)],.cells [.t (.v (.slice none 0 0)),.t (.v (.slice none 0 0)),.i 0,.t (.v (.slice none 0 0))],.cells (mixC (zaO l) zD env.length)]) zam;(iterate 10 exact rfl);(rw[m1];omega);(rw[zbX,m1];show 0+l.length*3≤(l.length+env.length)*3;omega);(exact congrArg (fun c=>[Blk.cells [.t (.sl 2 (p.enums.map enT)),.t (zag p.nodes),.t (T.n nd),.t (zac env)],.cells [.t (.v (.slice none 0 0)),.t (.v (.slice none 0 0)),.i 0,.t (.v (.slice none 0 0))],.cells c]) hsp1))|(apply TO.zjs (b:=(l.map zah).length) zam;(iterate 7 exact rfl);(rw[m1];omega))|(apply TO.zlf (H':=[.cells [.t (.sl 2 (p.enums.map enT)),.t (zag p.nodes),.t (T.n nd),.t (zac env)],.cells [.t (.v (.slice none 0 0)),.t (.v (.slice none 0 0)),.i 0,.t (.v (.slice none 0 0))],.cells ((zaO (l++env)).map .t)]) zam;(iterate 10 exact rfl);(rw[m1,m2];omega);(rw[zkC,zbo,m1,m2];show 0+l.length*3+env.length*3≤l.length*3+env.length*3;omega);(exact congrArg (fun c=>[Blk.cells [.t (.sl 2 (p.enums.map enT)),.t (zag p.nodes),.t (T.n nd),.t (zac env)],.cells [.t (.v (.slice none 0 0)),.t (.v (.slice none 0 0)),.i 0,.t (.v (.slice none 0 0))],.cells c]) hsp2);refine TO.zh1 5 3 2 (l.length+env.length) (es:=(l++env).map zah) rfl rfl (by rw[m3,List.length_map,zbo,hcat];exact Nat.le_refl _) (fun j c hj=>hj) m3.symm hsz rfl rfl ?_)|fail)
 exact wkr
def nI(k:Nat):I64:=if h:(k:Int)≤9223372036854775807 then⟨k,⟨by omega,h⟩⟩ else⟨0,by decide⟩
def stTy(w:Plc)(F:Plc->Auto->Int)(s:Sta):Int:=
 orE (zaa (fun t:Tran=>zbS w t.cond) s.unl) (orE (zaa (eqnT ⟨w.p,w.node,s.locals++w.env⟩) s.eqs) (orE (zaa (F ⟨w.p,w.node,s.locals++w.env⟩) s.autos) (zaa (fun t:Tran=>zbS ⟨w.p,w.node,s.locals++w.env⟩ t.cond) s.unt)))
def zb9:Nat->Plc->Auto->Int
 | 0,_,_=>0
 | k+1,w,a=>zaa (stTy w (zb9 k)) a.states
def zgs(w:Plc)(n:Nod):Int:=orE (zaa (zb9 3 w) n.autos) (orE (zaa (zbS w) n.assume) (zaa (zbS w) n.ensure))
def zga(w:Plc)(n:Nod):Int×Int:=if zaa (eqnT w) n.eqs≠0 then za9 (eqnT w) n.eqs else(-1,zgs w n)
def nodG(p:Prog)(x:Nod×Nat):Int×Int:=zga ⟨p,nI x.2,zao x.1⟩ x.1
def zcO(p:Prog):List (Nod×Nat)->(Int×Int)×Int
 | []=>((0,0),0)
 | x::l=>if(nodG p x).2=0 then zcO p l else(((x.2:Int),(nodG p x).1),(nodG p x).2)
def zbi(p:Prog):(Int×Int)×Int:=if(zbx p).2≠0 then zbx p else zcO p p.nodes.zipIdx
theorem zh2(p:Prog):∀ {l:List (Nod×Nat)} {k:Nat} (hk:k<l.length),zaa (fun x=>(nodG p x).2) (l.take k)=0->(nodG p l[k]).2≠0->zcO p l=(((l[k].2:Int),(nodG p l[k]).1),(nodG p l[k]).2)
 | x::l,0,hk,h,hn=>by
   simp only[List.getElem_cons_zero]at hn⊢
   rw[zcO,if_neg hn]
 | x::l,k+1,hk,h,hn=>by
   rw[List.take_succ_cons,zaa]at h
   by_cases h0:(nodG p x).2=0
   ·rw[if_pos h0]at h
    simp only[List.getElem_cons_succ]at hn⊢
    rw[zcO,if_pos h0,zh2 p (by simpa using hk) h hn]
   ·rw[if_neg h0]at h;exact absurd h h0
theorem zfk(p:Prog):∀ {l:List (Nod×Nat)},zaa (fun x=>(nodG p x).2) l=0->zcO p l=((0,0),0)
 | [],_=>rfl
 | x::l,h=>by
   rw[zaa]at h
   by_cases h0:(nodG p x).2=0
   ·rw[if_pos h0]at h
    rw[zcO,if_pos h0,zfk p h]
   ·rw[if_neg h0]at h;exact absurd h h0
def tyA:Nat->Auto->Prop
 | 0,_=>True
 | k+1,a=>∀s∈a.states,(∀u∈s.eqs,u.left.length≤1000000000/\ExT u.right)/\(∀t∈s.unl,ExT t.cond)/\(∀t∈s.unt,ExT t.cond)/\∀b∈s.autos,tyA k b
theorem zjD{es:List En}{e:Ex}(h:zaP es e=0)(hw:(exT e).w≤1000000000):ExT e:=⟨by have:=zep e;omega,zc3 h⟩
theorem zni{es:List En}:∀(k:Nat) (a:Auto),(zaj a).w≤1000000000->zb5 es k a=0->zeo k a/\tyA k a
 | 0,a,hw,h=>by simp[zb5]at h
 | k+1,a,hw,h=>by
   unfold zb5 at h
   have hst:=zau (zap (zap h).2).2
   have hwa:=zdn a
   have key:∀s∈a.states,(∀b∈s.autos,zeo k b/\tyA k b)/\(∀u∈s.eqs,u.left.length≤1000000000/\ExT u.right)/\(∀t∈s.unl,ExT t.cond)/\(∀t∈s.unt,ExT t.cond):=by
    intro s hs
    have h1:=hst s hs
    have hws:=zaC (f:=staT) (sz:=6) hs
    have hw2:=zfd s
    unfold stE at h1
    have h3:=(zap (zap (zap h1).2).2).2
    have he:=zau (zap h3).1
    have h4:=(zap h3).2
    have ha:=zau (zap h4).1
    have h5:=(zap h4).2
    have hu:=zau (zap h5).1
    have hv:=zau (zap h5).2
    refine⟨fun b hb=>zni k b (by have:=zaC (f:=zaj) (sz:=1) hb;omega) (ha b hb),fun u hu'=>⟨?_,zjD (zgI (he u hu')) (by have:=ze9 u;have:=zaC (f:=equT) (sz:=7) hu';omega)⟩,fun t ht=>zjD (zhQ (hu t ht)) (by have:=zdW t;have:=zaC (f:=zat) (sz:=8) ht;omega),fun t ht=>zjD (zhQ (hv t ht)) (by have:=zdW t;have:=zaC (f:=zat) (sz:=8) ht;omega)⟩
    have:=zbE (q:=u)
    have:=zaC (f:=equT) (sz:=7) hu'
    omega
   exact⟨fun s hs b hb=>((key s hs).1 b hb).1,fun s hs=>⟨(key s hs).2.1,(key s hs).2.2.1,(key s hs).2.2.2,fun b hb=>((key s hs).1 b hb).2⟩⟩
structure zuN (n:Nod):Prop where
 w:(nodT n).w≤100000000
 nest:∀a∈n.autos,zeo 3 a
 tyA:∀a∈n.autos,tyA 3 a
 eqs:∀u∈n.eqs,u.left.length≤1000000000/\ExT u.right
 assume:∀e∈n.assume,ExT e
 ensure:∀e∈n.ensure,ExT e
theorem znl{es:List En}{n:Nod}(h:(zbt es n).2=0)(hw:(nodT n).w≤100000000):zuN n:=by
 have hwn:=zdJ n
 unfold zbt at h
 have h1:zek es n=0:=Classical.byContradiction fun hh=>by rw[if_pos hh]at h;exact hh h
 rw[if_neg (by simp[h1])]at h
 have h2:zaa (equE es) n.eqs=0:=Classical.byContradiction fun hh=>by rw[if_pos hh,zbc]at h;exact hh h
 rw[if_neg (by simp[h2])]at h
 simp only at h
 unfold zgw at h
 have ha:=zau (zap h).1
 have hs:=zau (zap (zap h).2).1
 have he:=zau (zap (zap h).2).2
 have hq:=zau h2
 refine⟨hw,fun a h=>(zni 3 a (by have:=zaC (f:=zaj) (sz:=1) h;omega) (ha a h)).1,fun a h=>(zni 3 a (by have:=zaC (f:=zaj) (sz:=1) h;omega) (ha a h)).2,fun u hu=>⟨?_,zjD (zgI (hq u hu)) (by have:=ze9 u;have:=zaC (f:=equT) (sz:=7) hu;omega)⟩,fun e h=>zjD (hs e h) (by have:=zaC (f:=exT) (sz:=6) h;omega),fun e h=>zjD (he e h) (by have:=zaC (f:=exT) (sz:=6) h;omega)⟩
 have:=zbE (q:=u)
 have:=zaC (f:=equT) (sz:=7) hu
 omega
theorem zee{p:Prog}(h:(zbx p).2=0):(zaR p).2=0:=Classical.byContradiction fun hh=>by
 unfold zbx at h
 rw[if_pos hh]at h;exact hh h
theorem zbp.more{w:Plc}(h:zbp w){l:List Decl}(hl:l.length+w.env.length≤1000000000):zbp ⟨w.p,w.node,l++w.env⟩:=⟨h.nodes,h.each,by simp only[List.length_append];exact hl⟩
theorem zpj(w:Plc)(hw:zbp w)(F:Plc->Auto->Int)(s:Sta)(hsw:(staT s).w+w.env.length≤1000000000)(hq:∀u∈s.eqs,u.left.length≤1000000000/\ExT u.right)(hu:∀t∈s.unl,ExT t.cond)(hv:∀t∈s.unt,ExT t.cond)
  (hF:∀b∈s.autos,Pure Tryz.prog 64 [.t (plcT ⟨w.p,w.node,s.locals++w.env⟩),.t (zaj b)] (.i (F ⟨w.p,w.node,s.locals++w.env⟩ b))):
  Pure Tryz.prog 101 [.t (plcT w),.t (staT s)] (.i (stTy w F s)):=by
 have h1:=zfd s
 have l1:=zaq zah 3 s.locals
 have l2:=zaq equT 7 s.eqs
 have l3:=zaq zaj 1 s.autos
 have l4:=zaq zat 8 s.unl
 have l5:=zaq zat 8 s.unt
 have d1:(zac s.locals).w=(T.sl 3 (s.locals.map zah)).w:=rfl
 have hw2:zbp ⟨w.p,w.node,s.locals++w.env⟩:=hw.more (by omega)
 have hi:=zmi w s.locals (by omega)
 have c1:=zfG 151 (plcT w) (fun t:Tran=>zbS w t.cond) s.unl (by omega) (fun t ht=>zhi w hw t (hu t ht))
 have c2:=zk3 62 (plcT ⟨w.p,w.node,s.locals++w.env⟩) (eqnT ⟨w.p,w.node,s.locals++w.env⟩) s.eqs (by omega) (fun u h=>zjE _ hw2 u (hq u h).1 (hq u h).2)
 have c3:=zfB 64 (plcT ⟨w.p,w.node,s.locals++w.env⟩) (F ⟨w.p,w.node,s.locals++w.env⟩) s.autos (by omega) hF
 have c4:=zfG 151 (plcT ⟨w.p,w.node,s.locals++w.env⟩) (fun t:Tran=>zbS ⟨w.p,w.node,s.locals++w.env⟩ t.cond) s.unt (by omega) (fun t ht=>zhi _ hw2 t (hv t ht))
 have hz:stTy w F s=stTy w F s:=rfl
 conv at hz=>rhs;unfold stTy orE
 generalize stTy w F s=z at hz⊢
 generalize zaa (fun t:Tran=>zbS w t.cond) s.unl=z1 at*
 generalize zaa (eqnT ⟨w.p,w.node,s.locals++w.env⟩) s.eqs=z2 at*
 generalize zaa (F ⟨w.p,w.node,s.locals++w.env⟩) s.autos=z3 at*
 generalize zaa (fun t:Tran=>zbS ⟨w.p,w.node,s.locals++w.env⟩ t.cond) s.unt=z4 at*
 unfold plcT plcC at*
 generalize s.locals++w.env=env2 at*
 rw[zf6]
 unfold staC
 clear hq hu hv hF hw hw2
 refine so Tryz.func101 ?_
 repeat' (first|refine wkt ?_|refine wka ?_|refine wk ?_|exact wkc|intro hc|refine wk2 ?_ ?_|refine wmb ?_|refine wv hi ?_|refine wvb c1 ?_|refine wvb c2 ?_|refine wvb c3 ?_|refine wvb c4 ?_|fail)
 all_goals(refine RetK.pure rfl (Le.of_eq ?_) rfl;refine congrArg (fun z=>SV.t (T.v (Value.int IntKind.i64 z))) ?_;clear c1 c2 c3 c4 hi;grind)
theorem zg4:∀(k:Nat) (w:Plc) (hw:zbp w) (a:Auto) (haw:(zaj a).w+w.env.length≤1000000000) (hn:zeo k a) (hx:tyA k a),
  Pure Tryz.prog 64 [.t (plcT w),.t (zaj a)] (.i (zb9 k w a))
 | 0,w,hw,a,haw,hn,hx=>absurd hn (by simp[zeo])
 | k+1,w,hw,a,haw,hn,hx=>by
   have h1:=zdn a
   have l1:=zaq staT 6 a.states
   have hst:∀s∈a.states,Pure Tryz.prog 101 [.t (plcT w),.t (staT s)] (.i (stTy w (zb9 k) s)):=fun s hs=>by
    have hws:=zaC (f:=staT) (sz:=6) hs
    have hw2:=zfd s
    have l2:=zaq zah 3 s.locals
    have d1:(zac s.locals).w=(T.sl 3 (s.locals.map zah)).w:=rfl
    refine zpj w hw (zb9 k) s (by omega) (hx s hs).1 (hx s hs).2.1 (hx s hs).2.2.1 (fun b hb=>?_)
    have:=zaC (f:=zaj) (sz:=1) hb
    exact zg4 k _ (hw.more (by omega)) b (by simp only[List.length_append];omega) (hn s hs b hb) ((hx s hs).2.2.2 b hb)
   have c1:=zkV 101 (plcT w) (stTy w (zb9 k)) a.states (by omega) hst
   unfold zb9
   generalize zaa (stTy w (zb9 k)) a.states=z at*
   rw[zeO]
   unfold zcg
   unfold plcT plcC at*
   clear hst
   refine so Tryz.func64 ?_
   repeat' (first|refine wkt ?_|refine wka ?_|refine wk ?_|exact wkc|intro hc|refine wk2 ?_ ?_|refine wmb ?_|refine wvb c1 ?_|fail)
   exact wkr
theorem ziN{n:Nod}(hw:(nodT n).w≤100000000):zlW n:=by
 have h1:=zdJ n
 have l1:=zaq zah 3 n.ins
 have l2:=zaq zah 3 n.outs
 have l3:=zaq zah 3 n.locals
 have d1:(zac n.ins).w=(T.sl 3 (n.ins.map zah)).w:=rfl
 have d2:(zac n.outs).w=(T.sl 3 (n.outs.map zah)).w:=rfl
 have d3:(zac n.locals).w=(T.sl 3 (n.locals.map zah)).w:=rfl
 exact⟨by omega,by omega,by omega⟩
theorem ziv{n:Nod}(hw:(nodT n).w≤100000000):∀d∈zao n,d.clock.length≤100000000:=fun d hd=>by
 have h1:=zdJ n
 have e1:=zaS n.ins (n.outs++(n.locals++[]))
 have e2:=zaS n.outs (n.locals++[])
 have e3:=zaS n.locals []
 have e4:(zac ([]:List Decl)).w=1:=by rw[w_sl];rfl
 have h2:=(za6 hd).2
 have h3:=zaq onT 3 d.clock
 unfold zao at h2
 omega
theorem Kf.ztc{P:Program}{n:Nat}{q:Bool}{all:Array Oper}{x y:Code}{s:List Fr1}{K:TK}{env:Go.TL.Env}{H:Heap}(h:TR P n x env H (Kf P n (.thn y::s) K)):TO q P n all [] env H (Kf P n (.thn (.seq x y)::s) K):=by
 refine TO.nil ?_
 rw[Kf]
 refine Then.normal ?_
 refine TR.seq ?_
 rw[Kf]at h
 exact h
theorem zuS{k:Nat}(h:(k:Int)≤9223372036854775807):nI k=⟨k,⟨by omega,h⟩⟩:=by unfold nI;rw[dif_pos h]
set_option maxHeartbeats 2000000 in
theorem zln (p:Prog) (hw:(T.ag (zav p)).w≤100000000):Pure Tryz.prog 39 [.t (.ag (zav p))] (.tup [.t (.ag [T.i (zbi p).1.1,T.i (zbi p).1.2]),.i (zbi p).2]):=by
 have l1:(T.sl 2 (p.enums.map enT)).w+(zag p.nodes).w≤(T.ag (zav p)).w:=by rw[w_ag];simp only[zav,List.map_cons,List.map_nil,List.sum_cons,List.sum_nil];omega
 have hnT:(zag p.nodes).w=(T.sl 8 (p.nodes.map nodT)).w:=rfl
 have b2:=zaq nodT 8 p.nodes
 have m2:(p.nodes.map nodT).length=p.nodes.length:=List.length_map _
 have hzn:p.nodes.zipIdx.length=p.nodes.length:=by simp
 have hln:∀u∈p.nodes,(nodT u).w≤100000000:=fun u hu=>by
  have h2:=zaC (f:=nodT) (sz:=8) hu
  omega
 have hsc:=zmt p hw
 have hz:zbi p=zbi p:=rfl
 conv at hz=>rhs;unfold zbi
 generalize zbi p=z at hz⊢
 have hsn:=fun h=>zbL (p:=p) (zee h)
 generalize zbx p=sx at*
 obtain⟨⟨s1,s2⟩,s3⟩:=sx
 simp only at hz hsc hsn
 have hpc:zav p=[.sl 2 (p.enums.map enT),zag p.nodes]:=rfl
 rw[hpc]at hsc⊢
 refine so Tryz.func39 ?_
 repeat' (first|refine wu ?_|exact wkc|intro hc|refine wk2 ?_ ?_|refine wv hsc ?_|fail)
 ·rw[if_pos (by simpa using hc)]at hz
  subst hz
  exact wkr
 rw[if_neg (by simpa using hc)]at hz
 have hz0:s3=0:=by simpa using hc
 have hsn:=hsn hz0
 clear hsc hc
 refine TR.zal p.nodes.length (fun k=>zaa (fun x=>(nodG p x).2) (p.nodes.zipIdx.take k)=0) (fun k=>[(1,.cp [.sl 2 (p.enums.map enT),zag p.nodes] 0),(2,.ref 0 0),(23,.t (zag p.nodes)),(24,.i (p.nodes.map nodT).length),(25,.i k)])
  (fun k=>[.cells [.i 0,.i 0]]) rfl (fun k hlt ha=>?_) (fun ha=>?_)
 ·have hx:=zb7 hlt
  have hzi:p.nodes.zipIdx[k]'(by rw[hzn];exact hlt)=(p.nodes[k],k):=by simp
  have g1:=zh2 p (by rw[hzn];exact hlt) ha
  have g2:=zai (f:=fun x=>(nodG p x).2) (by rw[hzn];exact hlt) ha
  rw[hzi]at g1 g2
  have hnw:=hln _ (List.getElem_mem hlt)
  have hty:=znl (hsn _ (List.getElem_mem hlt)) hnw
  have hN:=ziN hnw
  have hv:=zd5 p.nodes[k] hN (ziv hnw)
  have hk63:(k:Int)≤9223372036854775807:=by omega
  have hvl:(zao p.nodes[k]).length≤300000000:=by have:=hN.ins;have:=hN.outs;have:=hN.locals;simp[zao];omega
  have hW:zbp ⟨p,nI k,zao p.nodes[k]⟩:=⟨by simp only;omega,fun u hu=>ziN (hln u hu),by simp only;omega⟩
  unfold nodG at g1 g2
  simp only at g1 g2
  generalize hL:zao p.nodes[k]=L at*
  generalize p.nodes[k]=n at*
  have hwn:=zdJ n
  have heq:=fun(u:Equ) (hu:u∈n.eqs)=>zjE _ hW u (hty.eqs u hu).1 (hty.eqs u hu).2
  have c1:=zfB 64 (plcT ⟨p,nI k,L⟩) (zb9 3 ⟨p,nI k,L⟩) n.autos (by have:=zaq zaj 1 n.autos;omega) (fun a h=>zg4 3 _ hW a (by have:=zaC (f:=zaj) (sz:=1) h;simp only;omega) (hty.nest a h) (hty.tyA a h))
  have c2:=zfS 66 (plcT ⟨p,nI k,L⟩) (zbS ⟨p,nI k,L⟩) n.assume (by have:=zaq exT 6 n.assume;omega) (fun e h=>zfp _ hW e (hty.assume e h))
  have c3:=zfS 66 (plcT ⟨p,nI k,L⟩) (zbS ⟨p,nI k,L⟩) n.ensure (by have:=zaq exT 6 n.ensure;omega) (fun e h=>zfp _ hW e (hty.ensure e h))
  unfold zga zgs at g1 g2
  generalize eqnT ⟨p,nI k,L⟩=EQ at*
  generalize zaa (zb9 3 ⟨p,nI k,L⟩) n.autos=z1 at*
  generalize zaa (zbS ⟨p,nI k,L⟩) n.assume=z2 at*
  generalize zaa (zbS ⟨p,nI k,L⟩) n.ensure=z3 at*
  rw[zuS hk63]at heq c1 c2 c3
  unfold plcT plcC at heq c1 c2 c3
  dsimp only[T.n]at heq c1 c2 c3
  generalize hR:orE z1 (orE z2 z3)=R at g1 g2
  unfold orE at hR
  unfold nodC at hx hv
  have hel:n.eqs.length≤1000000000:=by have:=zaq equT 7 n.eqs;omega
  clear hsn hln hty hW hN hnw hwn
  repeat' (first|refine wkt ?_|refine wka ?_|(refine Kf.ztc ?_;fail)|exact wkc|intro hc|refine wk2 ?_ ?_|fail)
  refine wk ?_
  refine wkt ?_
  refine wka ?_
  refine Kf.ztc ?_
  refine TR.zc5 (envF:=?envF) (HF:=[.cells [.i 0,.i 0],.cells [.t (.sl 2 (p.enums.map enT)),.t (zag p.nodes),.i k,.t (zac L)]]) [(.t (.ag [.sl 2 (p.enums.map enT),zag p.nodes]),false),(.i k,false),(.t (.ag (nC n)),false),(.t (zac L),false),(.t (.ag [.sl 2 (p.enums.map enT),zag p.nodes,T.i k,zac L]),false),(.ref 1 0,true),(.any,true)] [[.cells [.i 0,.i 0]],[.cells [.i 0,.i 0],.cells [.t (.v (.slice none 0 0)),.t (.v (.slice none 0 0)),.i 0,.t (.v (.slice none 0 0))]],[.cells [.i 0,.i 0],.cells [.t (.sl 2 (p.enums.map enT)),.t (zag p.nodes),.i k,.t (zac L)]]] hmix ?hB ?h0 ?hp ?hF ?hE ?hK
  case hB=>(dsimp only[List.map];decide +kernel)
  case h0=>exact rfl
  case hF=>exact rfl
  case hE=>exact rfl
  case hp=>repeat' (first|refine wu ?_|refine wk2 ?_ ?_|exact wkc|intro hc|refine wv hv ?_|exact trivial|exact And.intro rfl rfl|refine And.intro (fun H env=>?_) ?_|refine And.intro (fun env=>?_) ?_|fail)
  repeat' (first|refine wkt ?_|refine wka ?_|refine wk ?_|exact wkc|intro hc|refine wk2 ?_ ?_|fail)
  have hme:(n.eqs.map equT).length=n.eqs.length:=List.length_map _
  refine TR.zal n.eqs.length (fun j=>zaa EQ (n.eqs.take j)=0) (fun j=>[(1,.cp [.sl 2 (p.enums.map enT),zag p.nodes] 0),(2,.ref 0 0),(23,.t (zag p.nodes)),(24,.i (p.nodes.map nodT).length),(25,.i k),(6,.i k),(7,.cp (nC n) 0),(8,.ref 1 0),(36,.t (.sl 7 (n.eqs.map equT))),(37,.i (n.eqs.map equT).length),(38,.i j)]) (fun _=>[.cells [.i 0,.i 0],.cells [.t (.sl 2 (p.enums.map enT)),.t (zag p.nodes),.i k,.t (zac L)]]) rfl (fun j hlj ha=>?_) (fun ha=>?_)
  ·have hxe:=zcP hlj
   have e1:=zan (f:=EQ) hlj ha
   have e2:=zai (f:=EQ) hlj ha
   have e3:=zcQ (f:=EQ) hlj ha
   have hd:=heq _ (List.getElem_mem hlj)
   generalize n.eqs[j]=u at*
   generalize EQ u=ue at*
   rw[show equT u= .ag (equC u) from rfl]at hd
   unfold equC at*
   clear heq c1 c2 c3
   repeat' (first|refine wkt ?_|refine wka ?_|refine wk ?_|exact wkc|intro hc|refine wk2 ?_ ?_|refine wv hd ?_|fail)
   ·rw[if_pos (by rw[e1 hc];exact hc),e3 hc]at g1
    rw[g1 hc]at hz
    subst hz
    exact wkr
   ·exact zab.zak hlj (e2 (Decidable.not_not.1 hc))
  have ez:=zar ha
  rw[if_neg (by simp[ez])]at g1 g2
  simp only at g1 g2
  clear heq
  repeat' (first|refine wkt ?_|refine wka ?_|refine wk ?_|exact wkc|intro hc|refine wk2 ?_ ?_|refine wmb ?_|refine wvb c1 ?_|refine wvb c2 ?_|refine wvb c3 ?_|fail)
  all_goals first
   | (refine zab.zhs 1 hlt (g2 ?_) rfl rfl rfl rfl rfl;clear c1 c2 c3 g1 g2 hv hz;grind)
   | (have hR0:R≠0:=(by clear c1 c2 c3 g1 g2 hv hz;grind)
      rw[g1 hR0]at hz
      subst hz
      first
       | (have e:R=z1:=(by clear c1 c2 c3 g1 g2 hv;grind);rw[e];exact wkr)
       | (have e:R=z2:=(by clear c1 c2 c3 g1 g2 hv;grind);rw[e];exact wkr)
       | (have e:R=z3:=(by clear c1 c2 c3 g1 g2 hv;grind);rw[e];exact wkr))
 ·rw[<-hzn,List.take_length]at ha
  rw[zfk p ha]at hz
  subst hz
  refine wk ?_
  repeat' (first|refine wu ?_|exact wkc|intro hc|refine wk2 ?_ ?_|fail)
  exact wkr
end Go.Proofs.YtcbhlhmebbkgnaaGreat
namespace Go.TL
open Go
inductive TLs:T->T->Prop
 | refl (t:T):TLs t t
 | nil (sz:Nat):TLs (.v (.slice none 0 0)) (.sl sz [])
 | ag (cs ds:List T) (h:cs.length=ds.length) (hl:∀(i:Nat) c d,cs[i]?=some c->ds[i]?=some d->TLs c d):TLs (.ag cs) (.ag ds)
 | sl (sz:Nat) (cs ds:List T) (h:cs.length=ds.length) (hl:∀(i:Nat) c d,cs[i]?=some c->ds[i]?=some d->TLs c d):TLs (.sl sz cs) (.sl sz ds)
theorem TLs.both{A:Foot}{w:World}{a b:T}(h:TLs a b):(∀x,TRel A w a x->TRel A w b x)/\a.cells.length=b.cells.length/\∀(j:Nat) c d,a.cells[j]?=some c->b.cells[j]?=some d->∀x,TRel A w c x->TRel A w d x:=by
 have one:∀(a b:T),(∀x,TRel A w a x->TRel A w b x)->∀(j:Nat) c d,[a][j]?=some c->[b][j]?=some d->∀x,TRel A w c x->TRel A w d x:=by
  intro a b h j c d hc hd
  cases j with
  | zero=>simp at hc hd;subst hc;subst hd;exact h
  | succ j=>simp at hc
 induction h with
 | refl t=>exact⟨fun _ h=>h,rfl,fun j c d hc hd=>by rw[hc]at hd;cases hd;exact fun _ h=>h⟩
 | nil sz=>
   have h1:∀x,TRel A w (.v (.slice none 0 0)) x->TRel A w (.sl sz []) x:=by intro x h;cases h;exact .nil sz
   exact⟨h1,rfl,one _ _ h1⟩
 | ag cs ds hl _ ih=>
   refine⟨?_,hl,fun j c d hc hd=>(ih j c d hc hd).1⟩
   intro x h
   cases h with
   | ag _ arr hs h1 hr=>
     refine .ag _ _ (by omega) h1 fun i d y hd hy=>?_
     have hi:=(List.getElem?_eq_some_iff.1 hd).1
     have hc:cs[i]?=some (cs[i]'(by omega)):=List.getElem?_eq_getElem _
     exact(ih i _ d hc hd).1 y (hr i _ y hc hy)
 | sl sz cs ds hl _ ih=>
   have h1:∀x,TRel A w (.sl sz cs) x->TRel A w (.sl sz ds) x:=by
    intro x h
    generalize hq:T.sl sz cs=q at h
    cases h with
    | v x=>cases hq
    | ag=>cases hq
    | nil sz'=>cases hq;have:ds=[]:=List.eq_nil_of_length_eq_zero (by simpa using hl.symm);subst this;exact .nil _
    | empty sz' a=>cases hq;have:ds=[]:=List.eq_nil_of_length_eq_zero (by simpa using hl.symm);subst this;exact .empty _ a
    | sl sz' es b off cap f hcap hsz hA hw h1 hr=>
      cases hq
      rw[hl]
      refine .sl sz ds b off cap f (by omega) (fun i d hd=>?_) (by rw[<-hl];exact hA) (by rw[<-hl];exact hw) (by rw[<-hl];exact h1) (fun i d j c' hd hc'=>?_)
      ·have hi:=(List.getElem?_eq_some_iff.1 hd).1
       have hc:cs[i]?=some (cs[i]'(by omega)):=List.getElem?_eq_getElem _
       rw[<-(ih i _ d hc hd).2.1];exact hsz i _ hc
      ·have hi:=(List.getElem?_eq_some_iff.1 hd).1
       have hc:cs[i]?=some (cs[i]'(by omega)):=List.getElem?_eq_getElem _
       have hj:=(List.getElem?_eq_some_iff.1 hc').1
       have hl2:=(ih i _ d hc hd).2.1
       have hcc:(cs[i]'(by omega)).cells[j]?=some ((cs[i]'(by omega)).cells[j]'(by omega)):=List.getElem?_eq_getElem _
       exact(ih i _ d hc hd).2.2 j _ c' hcc hc' _ (hr i _ j _ hc hcc)
   exact⟨h1,rfl,one _ _ h1⟩
theorem Le.zun{s:SV}{t u:T}(h:s.toT=some t)(k:TLs t u):Le s (.t u):=fun _ _ hx=>.t _ _ (k.both.1 _ (hx.toT h))
def TLss:List T->List T->Prop
 | [],[]=>True
 | a::aas,b::bs=>TLs a b/\TLss aas bs
 | _,_=>False
theorem TLss.get:∀ {cs ds:List T},TLss cs ds->cs.length=ds.length/\∀(i:Nat) c d,cs[i]?=some c->ds[i]?=some d->TLs c d
 | [],[],_=>⟨rfl,by simp⟩
 | a::aas,b::bs,h=>by
   have ih:=TLss.get h.2
   exact⟨by simp[ih.1],fun i c d hc hd=>by cases i with|zero=>simp at hc hd;subst hc;subst hd;exact h.1|succ i=>exact ih.2 i c d (by simpa using hc) (by simpa using hd)⟩
theorem TLs.agL{cs ds:List T}(h:TLss cs ds):TLs (.ag cs) (.ag ds):=.ag _ _ h.get.1 h.get.2
theorem TLs.slL{sz:Nat}{cs ds:List T}(h:TLss cs ds):TLs (.sl sz cs) (.sl sz ds):=.sl _ _ _ h.get.1 h.get.2
end Go.TL
namespace Go.Proofs.YtcbhlhmebbkgnaaGreat
open Go Go.TL
attribute [local irreducible] TR TO Then zaw RetK Sound zab Kf GG zaZ
def i64(k:Int)(h:-9223372036854775808≤k/\k≤9223372036854775807:=by decide):I64:=⟨k,h⟩
def zjj:Ex:=.mk (i64 1) (i64 0) (i64 2) (i64 1) [] []
def zgc:Nod:=⟨[102],[⟨[97],i64 2,[]⟩],[⟨[120],i64 1,[]⟩],[],[⟨[[120]],zjj⟩],[],[],[]⟩
def smpl:Prog:=⟨[],[zgc]⟩
theorem ziO(k o t v:I64)(n:Str):flat (.mk k o t v n [])=[.mk k o t v n []]:=by rw[za2];rfl
theorem zkw(k o t v:I64)(n:Str):wEx (.mk k o t v n [])=1:=by rw[zet];rfl
theorem zsv(k o t v:I64)(n:Str):zaH (.mk k o t v n [])≤32:=by rw[zdZ];show(0:Int)+1≤32;decide
theorem zph(es:List En)(k o t v:I64)(n:Str)(h1:oneX (.mk k o t v n [])=0)(h2:insX es (.mk k o t v n [])=0):zaP es (.mk k o t v n [])=0:=by
 have hd:=zsv k o t v n
 unfold zaP zen
 rw[ziO,zkw]
 simp[zaa,h1,h2];omega
theorem e0:zaP [] zjj=0:=zph _ _ _ _ _ _ (by decide +kernel) (by decide +kernel)
theorem e1:equE [] ⟨[[120]],zjj⟩=0:=by unfold equE;rw[show zaP [] (Equ.mk [[120]] zjj).right=0 from e0];decide +kernel
theorem e2:zbt [] zgc=(-1,0):=by
 have h:zaa (equE []) zgc.eqs=0:=by show zaa (equE []) [⟨[[120]],zjj⟩]=0;unfold zaa;rw[e1];rfl
 unfold zbt
 rw[h];decide +kernel
theorem e3:zaR smpl=((0,0),0):=by
 have h:zaa (fun n=>(zbt smpl.enums n).2) smpl.nodes=0:=by
  show zaa _ [zgc]=0
  unfold zaa
  rw[show zbt smpl.enums zgc=(-1,0) from e2];rfl
 unfold zaR
 rw[h];decide +kernel
theorem e4:zbx smpl=((0,0),0):=by unfold zbx;rw[e3];decide +kernel
theorem e5(w:Plc):resT w false zjj=([2],0):=by rw[zfq];rfl
theorem e6:eqnT ⟨smpl,nI 0,zao zgc⟩ ⟨[[120]],zjj⟩=10:=by
 unfold eqnT
 rw[show resT ⟨smpl,nI 0,zao zgc⟩ false (Equ.mk [[120]] zjj).right=([2],0) from e5 _];decide +kernel
theorem e7:nodG smpl (zgc,0)=(0,10):=by
 have h:zaa (eqnT ⟨smpl,nI 0,zao zgc⟩) zgc.eqs=10:=by show zaa _ [Equ.mk [[120]] zjj]=10;unfold zaa;rw[e6];rfl
 have h2:za9 (eqnT ⟨smpl,nI 0,zao zgc⟩) zgc.eqs=(0,10):=by show za9 _ [Equ.mk [[120]] zjj]=(0,10);unfold za9;rw[e6];rfl
 show zga ⟨smpl,nI 0,zao zgc⟩ zgc=_
 unfold zga
 rw[h,h2];rfl
theorem zsa(k o t v k1 o1 t1 v1 k2 o2 t2 v2:I64)(n n1 n2:Str):flat (.mk k o t v n [.mk k1 o1 t1 v1 n1 [],.mk k2 o2 t2 v2 n2 []])=[.mk k o t v n [.mk k1 o1 t1 v1 n1 [],.mk k2 o2 t2 v2 n2 []],.mk k1 o1 t1 v1 n1 [],.mk k2 o2 t2 v2 n2 []]:=by
 rw[za2]
 simp[flats,Ex.args,ziO]
theorem ztn(k o t v k1 o1 t1 v1 k2 o2 t2 v2:I64)(n n1 n2:Str):wEx (.mk k o t v n [.mk k1 o1 t1 v1 n1 [],.mk k2 o2 t2 v2 n2 []])=3:=by
 rw[zet];simp[Ex.args,zkw]
end Go.Proofs.YtcbhlhmebbkgnaaGreat
namespace Go.TL
open Go
section rules
variable {P:Program}{n:Nat}{env:Env}{H:Heap}{K:TK}{all:Array Oper}{rest:List Oper}{tab:Tab}{q:Bool}
variable {d:Nat}{ty:TypeId}{pos:String}{aft:Array Edge}
theorem TO.zuo{t t':TypeId}{x y:Operand}{sx sy:SV}{arr:Array Value}{m:Nat}(hd:Nat.ble (d+1) n=true)(hm:Nat.ble m 10000=true)(hk:P.keyTypeAt m t=true)
  (hwide:(match P.underlying t with|some (.array _ _)|some (.struct _)=>true|_=>false)=true)(hg:P.eqGuardType P.depth t=false)
  (hx:env.val x=some sx)(hux:∀m v,SRel m sx v->v= .agg arr)(hy:env.val y=some sy)(huy:∀m v,SRel m sy v->v= .agg arr)(hl:∃l,keyOf P t (.agg arr)=some l)
  (k:TO q P n all rest ((d,.b true)::env) H K):TO q P n all (⟨some d,.binOp .eql t x y t',ty,pos,aft,none⟩::rest) env H K:=
 TO.op hd (fun m ac h1 h2 h3=>⟨.bool true,fun w' hw'=>by
  obtain⟨l,hl⟩:=hl
  obtain⟨r,hr,hrr⟩:=run_equal_deep (P:=P) w' (Nat.le_of_ble_eq_true hm) hk hwide hl hl
  have hrt:r=true:=hrr.2 rfl
  subst hrt
  have e1:=hux _ _ (h3.val hx)
  have e2:=huy _ _ (h3.val hy)
  simp[execOp,e1,e2,eqGuard,hg,Go.binOp,hr],.t _ _ (.v _)⟩) k
end rules
end Go.TL
namespace Go.Proofs.YtcbhlhmebbkgnaaGreat
open Go Go.TL
attribute [local irreducible] TR TO Then zaw RetK Sound zab Kf GG zaZ
abbrev zqw (a b:Int):Value:=.agg #[.int .i64 a,.int .i64 b]
theorem wTy:Tryz.prog.keyType 29=true:=by kernel_rfl
theorem zsO:Tryz.prog.cellsOf 29=2:=by kernel_rfl
theorem zr0(N:Nat){a b:Int}(ha:(Lit.int .i64 a).wf=true)(hb:(Lit.int .i64 b).wf=true):
  (Tryz.prog.keyLits (N+1+1) 29 [.int .i64 a,.int .i64 b])=some [.int .i64 a,.int .i64 b]:=by
 have e1:∀c,Tryz.prog.keyLits (N+1) 3 [c]=(match c with| .int q' n=>if q'= .i64/\(Lit.int .i64 n).wf=true then some [.int .i64 n] else none|_=>none):=fun c=>by
  unfold Program.keyLits
  simp only[Tryz.underlying3]
  cases c <;> rfl
 unfold Program.keyLits
 simp only[Tryz.underlying29,zsO]
 simp only[List.length_cons,List.length_nil,List.mapM_cons,List.mapM_nil,zrb,List.drop_zero,List.take,List.drop,e1,ha,hb]
 simp
theorem keyW{a b:Int}(ha:-9223372036854775808≤a/\a≤9223372036854775807)(hb:-9223372036854775808≤b/\b≤9223372036854775807):∃l,keyOf Tryz.prog 29 (zqw a b)=some l:=by
 have hw:∀ {k:Int},(-9223372036854775808≤k/\k≤9223372036854775807)->(Lit.int .i64 k).wf=true:=fun{k} hk=>by
  simp only[Lit.wf,Bool.and_eq_true,decide_eq_true_eq]
  exact⟨by show(-9223372036854775808:Int)≤k;omega,by show k≤(9223372036854775807:Int);omega⟩
 have h5:(zqw a b).formed Tryz.prog 29=true:=by
  simp only[Value.formed,Tryz.underlying29,zsO];rfl
 obtain⟨N,hN⟩:=zoK
 refine⟨.string (keyBytes [.int .i64 a,.int .i64 b]),?_⟩
 rw[keyOf,Tryz.underlying29]
 simp only[wTy,h5,hN,Value.cells,Bool.and_self,if_true,zr0 N (hw ha) (hw hb),Option.map_some]
theorem zoe{m:M}{a b:Int}{v:Value}(h:SRel m (.t (.ag [T.i a,T.i b])) v):v=zqw a b:=by
 cases h with
 | t _ _ h=>
   cases h with
   | ag _ arr hs h1 hr=>
     obtain⟨l⟩:=arr
     match l,hs with
     | [x,y],_=>
       have e1:=hr 0 _ x rfl rfl
       have e2:=hr 1 _ y rfl rfl
       cases e1;cases e2;rfl
theorem wEqW{G Q:Prop}(k:Q)(h:Hold Q->G:=by
  intro k
  (apply TO.zuo (m:=3);exact rfl;exact rfl;kernel_rfl;kernel_rfl;kernel_rfl;exact rfl;(intro m v hv;exact Go.Proofs.YtcbhlhmebbkgnaaGreat.zoe hv);exact rfl;(intro m v hv;exact Go.Proofs.YtcbhlhmebbkgnaaGreat.zoe hv);exact Go.Proofs.YtcbhlhmebbkgnaaGreat.keyW (by omega) (by omega);exact k.p)):G:=h ⟨k⟩
theorem zc0{e x:Ex}(h:x∈e.args):∀y∈flat x,y∈flat e:=fun y hy=>by
 rw[za2 e]
 refine List.mem_cons_of_mem _ ?_
 unfold flats
 exact List.mem_flatten.2 ⟨flat x,List.mem_map_of_mem h,hy⟩
theorem zlV:∀(rs:List (List Int×Int)),(heads rs).2=0->∀r∈rs,r.2=0
 | [],_,r,hr=>by simp at hr
 | x::rs,h,r,hr=>by
   unfold heads at h
   have h1:x.2=0:=Classical.byContradiction fun hh=>by rw[if_pos hh]at h;exact hh h
   rw[if_neg (by simp[h1])]at h
   have h2:(heads rs).2=0:=Classical.byContradiction fun hh=>by rw[if_pos hh]at h;exact hh h
   rcases List.mem_cons.1 hr with rfl|hr
   ·exact h1
   ·exact zlV rs h2 r hr
theorem zgD(p:Prog):∀ {l:List (Nod×Nat)},(zcO p l).2=0->∀x∈l,(nodG p x).2=0
 | [],_,x,hx=>by simp at hx
 | y::l,h,x,hx=>by
   rw[zcO]at h
   have h1:(nodG p y).2=0:=Classical.byContradiction fun hh=>by rw[if_neg hh]at h;exact hh h
   rw[if_pos h1]at h
   rcases List.mem_cons.1 hx with rfl|hx
   ·exact h1
   ·exact zgD p h x hx
theorem rights{p:Prog}(h:(zbi p).2=0){k:Nat}(hk:k<p.nodes.length)(hk63:(k:Int)≤9223372036854775807){u:Equ}(hu:u∈p.nodes[k].eqs):
  (ofT p (nI k) u.right).2=0/\u.left.map (fun s=>(zbu (zao p.nodes[k]) s).1)=(ofT p (nI k) u.right).1:=by
 have hs:(zbx p).2=0:=Classical.byContradiction fun hh=>by
  unfold zbi at h
  rw[if_pos hh]at h;exact hh h
 unfold zbi at h
 rw[if_neg (by simp[hs])]at h
 have hmem:(p.nodes[k],k)∈p.nodes.zipIdx:=by
  have:p.nodes.zipIdx[k]?=some (p.nodes[k],k):=by rw[List.getElem?_zipIdx];simp[List.getElem?_eq_getElem hk]
  exact List.mem_of_getElem? this
 have hg:=zgD p h _ hmem
 unfold nodG zga at hg
 simp only at hg
 have he:zaa (eqnT ⟨p,nI k,zao p.nodes[k]⟩) p.nodes[k].eqs=0:=Classical.byContradiction fun hh=>by
  rw[if_pos hh,zbc]at hg;exact hh hg
 have h1:=zau he u hu
 have hx:zaP p.enums u.right=0:=by
  have h2:=zbL (zee hs) _ (List.getElem_mem hk)
  unfold zbt at h2
  have h3:zek p.enums p.nodes[k]=0:=Classical.byContradiction fun hh=>by rw[if_pos hh]at h2;exact hh h2
  rw[if_neg (by simp[h3])]at h2
  have h4:zaa (equE p.enums) p.nodes[k].eqs=0:=Classical.byContradiction fun hh=>by rw[if_pos hh,zbc]at h2;exact hh h2
  exact zgI (zau h4 u hu)
 have hof:ofT p (nI k) u.right=resT ⟨p,nI k,zao p.nodes[k]⟩ false u.right:=by
  have e1:(nI k).1=(k:Int):=by rw[zuS hk63]
  unfold ofT
  rw[e1,if_neg (by omega),if_neg (by simp[hx]),Int.toNat_natCast,List.getElem?_eq_getElem hk]
 rw[hof]
 unfold eqnT at h1
 have h5:(resT ⟨p,nI k,zao p.nodes[k]⟩ false u.right).2=0:=Classical.byContradiction fun hh=>by rw[if_pos hh]at h1;exact hh h1
 rw[if_neg (by simp[h5])]at h1
 refine⟨h5,?_⟩
 split at h1
 ·cases h1
 ·split at h1
  ·assumption
  ·cases h1
theorem zbr{p:Prog}(hw:(T.ag (zav p)).w≤100000000):zlM p/\(∀u∈p.nodes,(nodT u).w≤100000000)/\p.nodes.length≤100000000:=by
 have l1:(T.sl 2 (p.enums.map enT)).w+(zag p.nodes).w≤(T.ag (zav p)).w:=by rw[w_ag];simp only[zav,List.map_cons,List.map_nil,List.sum_cons,List.sum_nil];omega
 have hnT:(zag p.nodes).w=(T.sl 8 (p.nodes.map nodT)).w:=rfl
 have b2:=zaq nodT 8 p.nodes
 have hln:∀u∈p.nodes,(nodT u).w≤100000000:=fun u hu=>by
  have h2:=zaC (f:=nodT) (sz:=8) hu
  omega
 exact⟨⟨by omega,fun u hu=>ziN (hln u hu),fun u hu=>ziv (hln u hu)⟩,hln,by omega⟩
def Ex.withArgs:Ex->List Ex->Ex| .mk k o t v n _,l=>.mk k o t v n l
def putL(F:Int->Ex->Ex×Int):Int->List Ex->List Ex×Int
 | k,[]=>([],k)
 | k,a::l=>((if 0≤k then F k a else(a,k)).1::(putL F (if 0≤k then F k a else(a,k)).2 l).1,(putL F (if 0≤k then F k a else(a,k)).2 l).2)
def putE(x:Ex):Nat->Int->Ex->Ex×Int
 | 0,k,e=>(e,k)
 | m+1,k,e=>if k=0 then(x,-1) else(e.withArgs (putL (putE x m) (k-1) e.args).1,(putL (putE x m) (k-1) e.args).2)
theorem zo5(a:Ex)(l:List Ex):flats (a::l)=flat a++flats l:=by simp[flats]
theorem zeY{e z:Ex}:z∈flat e ↔ z=e\/∃a∈e.args,z∈flat a:=by
 rw[za2,List.mem_cons]
 unfold flats
 constructor
 ·rintro(h|h)
  ·exact .inl h
  ·obtain⟨l,hl,hz⟩:=List.mem_flatten.1 h
   obtain⟨a,ha,rfl⟩:=List.mem_map.1 hl
   exact .inr ⟨a,ha,hz⟩
 ·rintro(h|⟨a,ha,hz⟩)
  ·exact .inl h
  ·exact .inr (List.mem_flatten.2 ⟨_,List.mem_map_of_mem ha,hz⟩)
theorem zoB{w:Plc}:∀(m:Nat) (e:Ex),wEx e≤m->∀b,(resT w b e).2=0->∀z∈flat e,z=e\/(resT w true z).2=0
 | 0,e,h=>by have:=zaI e;omega
 | m+1,e,h=>by
   intro b hb z hz
   rcases zeY.1 hz with rfl|⟨a,ha,hz⟩
   ·exact .inl rfl
   ·have h3:(heads (e.args.map (resT w true))).2=0:=by
     rw[zfq]at hb
     exact Classical.byContradiction fun hh=>by rw[if_pos hh]at hb;exact hh hb
    have h4:=zlV _ h3 _ (List.mem_map_of_mem ha)
    rcases zoB m a (by have:=zaE ha;omega) true h4 z hz with rfl|h5
    ·exact .inr h4
    ·exact .inr h5
theorem zrJ{p:Prog}{node:I64}{n:Nod}(h0:0≤node.1)(hn:p.nodes[node.1.toNat]?=some n)(e:Ex):ofT p node e=if zaP p.enums e≠0 then([],zaP p.enums e) else resT ⟨p,node,zao n⟩ false e:=by
 have hl:=(List.getElem?_eq_some_iff.1 hn).1
 unfold ofT
 rw[if_neg (by omega),hn]
end Go.Proofs.YtcbhlhmebbkgnaaGreat
