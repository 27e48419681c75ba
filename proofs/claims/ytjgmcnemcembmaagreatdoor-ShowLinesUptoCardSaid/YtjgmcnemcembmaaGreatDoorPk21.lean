import Derived.Test.YtjgmcnemcembmaaGreatDoorPk15
import Derived.Test.YtjgmcnemcembmaaGreatDoorPk16
import Derived.Test.YtjgmcnemcembmaaGreatDoorPk18
import Derived.Test.YtjgmcnemcembmaaGreatDoorPk19
import Derived.Test.YtjgmcnemcembmaaGreatDoorPk20
set_option linter.unusedSimpArgs false
set_option linter.unusedVariables false
namespace Go.Proofs.YtjgmcnemcembmaaGreatDoor
open Go Go.TL
attribute [local irreducible] TR TO Then InBlock RetK Sound LoopK Kf GG ThenL
theorem wka{G Q:Prop}(k:Q)(h:Hold Q->G:=by
  (intro k;apply Go.TL.TO.allocC2 tabOk;exact rfl;exact rfl;exact rfl;exact rfl;exact rfl;exact rfl;exact rfl;exact rfl;exact rfl;exact Nat.le_of_ble_eq_true rfl;exact k.p)):G:=h ⟨k⟩
theorem retQ{rs:List ResultVar}{env:Env}{H H1:Heap}{v:SV}{n q q' c c':Int}(h0:c'≠0)(hc:c'=c)(hq:q'=q)(hN:Nat.ble 1 H.length=true)(hb:blksUnder H.length H=true):
  RetK tab rs 1 (Err0 c v (failV n q c) H1 1) (.panic (failV n q' c')) env H:=by
 subst hc hq;exact RetK.errP h0 hN rfl hb
theorem firstI_at{α:Type}{f:α->Int}{l:List α}{k:Nat}(hk:k<l.length)(h:firstE f (l.take k)=0)(hn:f l[k]≠0):firstI f l=((k:Int),f l[k]):=by
 conv=>lhs;rw[<-List.take_append_drop k l]
 rw[firstI_append,if_pos h,List.drop_eq_getElem_cons hk,firstE,if_neg hn,if_neg hn,firstI,if_neg hn]
 simp;omega
theorem w_nod(n:Nod):(declsT n.ins).w+(declsT n.outs).w+(declsT n.locals).w+(T.sl 7 (n.eqs.map equT)).w+(T.sl 1 (n.autos.map autoT)).w+(T.sl 6 (n.assume.map exT)).w+(T.sl 6 (n.ensure.map exT)).w≤(nodT n).w:=by
 rw[show nodT n= .ag (nodC n) from rfl,w_ag];simp only[nodC,List.map_cons,List.map_nil,List.sum_cons,List.sum_nil];omega
set_option maxHeartbeats 1000000 in
theorem nodeM_sound (es:List En) (a b i:Int) (n:Nod) (hw:(nodT n).w≤1000000000):
  Sound Tryz.prog 51 [.ref 0 0,.i i,.t (.ag (nodC n))] [lookB es a b] (Err (nodeX es n).2 (.tup []) (failV i (nodeX es n).1 (nodeX es n).2) [lookB es i (-1)]):=by
 refine Sound.err rfl (fun _=>rfl) ?_
 have hwn:=w_nod n
 have l1:=w_lenM equT 7 n.eqs
 have l2:=w_lenM autoT 1 n.autos
 have l3:=w_lenM exT 6 n.assume
 have l4:=w_lenM exT 6 n.ensure
 have m1:(n.ins.map declT).length=n.ins.length:=List.length_map _
 have m2:(n.outs.map declT).length=n.outs.length:=List.length_map _
 have m3:(n.locals.map declT).length=n.locals.length:=List.length_map _
 have m4:(n.eqs.map equT).length=n.eqs.length:=List.length_map _
 have m5:(n.autos.map autoT).length=n.autos.length:=List.length_map _
 have m6:(n.assume.map exT).length=n.assume.length:=List.length_map _
 have m7:(n.ensure.map exT).length=n.ensure.length:=List.length_map _
 have hi:=identM_sound es i (-1) n.name
 have hd1:=declsM_sound es i (-1) n.ins true (by omega)
 have hd2:=declsM_sound es i (-1) n.outs true (by omega)
 have hd3:=declsM_sound es i (-1) n.locals false (by omega)
 have heq:∀(q:Int) u,u∈n.eqs->LS 85 [.t (.ag (equC u))] es i q (equE es u):=fun q u hu=>equM_sound es i q u (by have:=w_inM (f:=equT) (sz:=7) hu;omega)
 have hau:∀u,u∈n.autos->LS 86 [.t (.ag (autoC u)),.i 0] es i (-1) (autoE es 3 u):=fun u hu=>autoM_sound es i (-1) u (by have:=w_inM (f:=autoT) (sz:=1) hu;omega)
 have hex:∀u,u∈n.assume\/u∈n.ensure->wEx u≤1000000000:=fun u hu=>by
  have:=wEx_le u
  rcases hu with hu|hu
  ·have:=w_inM (f:=exT) (sz:=6) hu;omega
  ·have:=w_inM (f:=exT) (sz:=6) hu;omega
 have hz:nodeX es n=nodeX es n:=rfl
 conv at hz=>rhs;unfold nodeX headE tailE orE
 generalize nodeX es n=z at hz⊢
 unfold nodC
 clear hwn hw
 refine so Tryz.func51 ?_
 repeat' (first|refine wu ?_|exact wkc|intro hc|refine wk2 ?_ ?_|refine wm ?_|refine we hi ?_ ?_|refine we hd1 ?_ ?_|refine we hd2 ?_ ?_|refine we hd3 ?_ ?_|fail)
 all_goals first
  | ((repeat' (first|refine LoopK.panic ?_|refine wk ?_|fail));apply retQ;(first|assumption|decide);(clear hi hd1 hd2 hd3 heq hau hex;grind);(clear hi hd1 hd2 hd3 heq hau hex;grind);exact rfl;exact rfl)
  | skip
 refine TR.loopN n.eqs.length (fun k=>firstE (equE es) (n.eqs.take k)=0) (fun k=>[(0,.ref 0 0),(5,.cp [.s n.name,declsT n.ins,declsT n.outs,declsT n.locals,.sl 7 (n.eqs.map equT),.sl 1 (n.autos.map autoT),.sl 6 (n.assume.map exT),.sl 6 (n.ensure.map exT)] 0),(80,.t (.sl 7 (n.eqs.map equT))),(81,.i (n.eqs.map equT).length),(82,.i k)]) (fun k=>[lookB es i ((k:Int)-1)]) rfl (fun k hlt ha=>?_) (fun ha=>?_)
 ·have hx:=at_equ hlt
  have g1:=firstE_at (f:=(equE es)) hlt ha
  have g2:=firstE_next (f:=(equE es)) hlt ha
  have hs:=heq k _ (List.getElem_mem hlt)
  have g3:=firstI_at (f:=equE es) hlt ha
  generalize n.eqs[k]=u at*
  unfold equC at hx hs
  repeat' (first|refine wkt ?_|refine wka ?_|refine wk ?_|exact wkc|intro hc|refine wk2 ?_ ?_|refine we hs ?_ ?_|fail)
  all_goals first
   | (refine LoopK.nextN hlt (g2 hc) ?_ (by rw[show((k+1:Nat):Int)-1=k from by omega]);repeat' (first|exact trivial|refine And.intro rfl ?_|fail))
   | ((repeat' (first|refine LoopK.panic ?_|refine wk ?_|fail));apply retQ;(first|assumption|decide);(clear hs hi hd1 hd2 hd3 heq hau hex hx;grind);(clear hs hi hd1 hd2 hd3 heq hau hex hx;grind);exact rfl;exact rfl)
 have e1:=firstE_all ha
 clear hi hd1 hd2 hd3 heq
 refine wk ?_
 repeat' (first|refine wu ?_|exact wkc|intro hc|refine wk2 ?_ ?_|fail)
 refine TR.loopN n.autos.length (fun k=>firstE (autoE es 3) (n.autos.take k)=0) (fun k=>[(0,.ref 0 0),(5,.cp [.s n.name,declsT n.ins,declsT n.outs,declsT n.locals,.sl 7 (n.eqs.map equT),.sl 1 (n.autos.map autoT),.sl 6 (n.assume.map exT),.sl 6 (n.ensure.map exT)] 0),(101,.t (.sl 1 (n.autos.map autoT))),(102,.i (n.autos.map autoT).length),(103,.i k)]) (fun k=>[lookB es i (-1)]) rfl (fun k hlt ha=>?_) (fun ha=>?_)
 ·have hx:=at_auto hlt
  have g1:=firstE_at (f:=(autoE es 3)) hlt ha
  have g2:=firstE_next (f:=(autoE es 3)) hlt ha
  have hs:=hau _ (List.getElem_mem hlt)
  generalize n.autos[k]=u at*
  unfold autoC at hx hs
  repeat' (first|refine wu ?_|exact wkc|intro hc|refine wk2 ?_ ?_|refine we hs ?_ ?_|fail)
  all_goals first
   | exact LoopK.nextN hlt (g2 hc)
   | ((repeat' (first|refine LoopK.panic ?_|refine wk ?_|fail));apply retQ;(first|assumption|decide);(clear hs hau hex hx;grind);(clear hs hau hex hx;grind);exact rfl;exact rfl)
 have e2:=firstE_all ha
 clear hau
 refine wk ?_
 repeat' (first|refine wu ?_|exact wkc|intro hc|refine wk2 ?_ ?_|fail)
 refine TR.loopN n.assume.length (fun k=>firstE (exprX es) (n.assume.take k)=0) (fun k=>[(0,.ref 0 0),(5,.cp [.s n.name,declsT n.ins,declsT n.outs,declsT n.locals,.sl 7 (n.eqs.map equT),.sl 1 (n.autos.map autoT),.sl 6 (n.assume.map exT),.sl 6 (n.ensure.map exT)] 0),(112,.t (.sl 6 (n.assume.map exT))),(113,.i (n.assume.map exT).length),(114,.i k)]) (fun k=>[lookB es i (-1)]) rfl (fun k hlt ha=>?_) (fun ha=>?_)
 ·have hx:=at_exT hlt
  have g1:=firstE_at (f:=(exprX es)) hlt ha
  have g2:=firstE_next (f:=(exprX es)) hlt ha
  have hs:=exprX_sound es _ (hex _ (.inl (List.getElem_mem hlt)))
  rw[exT_eq]at hs
  generalize n.assume[k]=u at*
  unfold exC at hx hs
  have hr:=right_sound es i (-1) (exprX es u)
  generalize exprX es u=xe at*
  repeat' (first|refine wu ?_|exact wkc|intro hc|refine wk2 ?_ ?_|refine wv hs ?_|refine we hr ?_ ?_|fail)
  all_goals first
   | exact LoopK.nextN hlt (g2 hc)
   | ((repeat' (first|refine LoopK.panic ?_|refine wk ?_|fail));apply retQ;(first|assumption|decide);(clear hs hr hex hx;grind);(clear hs hr hex hx;grind);exact rfl;exact rfl)
 have e3:=firstE_all ha
 refine wk ?_
 repeat' (first|refine wu ?_|exact wkc|intro hc|refine wk2 ?_ ?_|fail)
 refine TR.loopN n.ensure.length (fun k=>firstE (exprX es) (n.ensure.take k)=0) (fun k=>[(0,.ref 0 0),(5,.cp [.s n.name,declsT n.ins,declsT n.outs,declsT n.locals,.sl 7 (n.eqs.map equT),.sl 1 (n.autos.map autoT),.sl 6 (n.assume.map exT),.sl 6 (n.ensure.map exT)] 0),(128,.t (.sl 6 (n.ensure.map exT))),(129,.i (n.ensure.map exT).length),(130,.i k)]) (fun k=>[lookB es i (-1)]) rfl (fun k hlt ha=>?_) (fun ha=>?_)
 ·have hx:=at_exT hlt
  have g1:=firstE_at (f:=(exprX es)) hlt ha
  have g2:=firstE_next (f:=(exprX es)) hlt ha
  have hs:=exprX_sound es _ (hex _ (.inr (List.getElem_mem hlt)))
  rw[exT_eq]at hs
  generalize n.ensure[k]=u at*
  unfold exC at hx hs
  have hr:=right_sound es i (-1) (exprX es u)
  generalize exprX es u=xe at*
  repeat' (first|refine wu ?_|exact wkc|intro hc|refine wk2 ?_ ?_|refine wv hs ?_|refine we hr ?_ ?_|fail)
  all_goals first
   | exact LoopK.nextN hlt (g2 hc)
   | ((repeat' (first|refine LoopK.panic ?_|refine wk ?_|fail));apply retQ;(first|assumption|decide);(clear hs hr hex hx;grind);(clear hs hr hex hx;grind);exact rfl;exact rfl)
 have e4:=firstE_all ha
 refine wk ?_
 repeat' (first|refine wu ?_|exact wkc|intro hc|refine wk2 ?_ ?_|fail)
 refine RetK.errN (vs:=[]) ?_ rfl (Le.refl _) rfl rfl rfl rfl rfl
 clear hex;grind
end Go.Proofs.YtjgmcnemcembmaaGreatDoor
namespace Go.TL
open Go
section rules
variable {P:Program}{n:Nat}{env:Env}{H:Heap}{K:TK}{all:Array Oper}{rest:List Oper}{tab:Tab}{q:Bool}
variable {d:Nat}{ty:TypeId}{pos:String}{aft:Array Edge}
theorem TO.assert_ok(hT:TabOk P tab){t xt:TypeId}{i:TyI}{x:Operand}{s:SV}(hd:Nat.ble (d+1) n=true)(hx:env.val x=some (.ifc t s))(ht:tab.get t=some i)(ha:i.k.agg=true)
  (k:TO q P n all rest ((d,.tup [s,.b true])::env) H K):TO q P n all (⟨some d,.typeAssert x xt t true,ty,pos,aft,none⟩::rest) env H K:=
 TO.op hd (fun m ac h1 h2 h3=>by
  have hv:=h3.val hx
  generalize hq:ac.eval x=u at hv
  cases hv with
  | ifc _ _ y hy=>
    obtain⟨dd,ti,z,g1,g2,g3,g4,g5,g6,g7,g8,g9⟩:=(hT t i ht).ex
    refine⟨.tuple #[y,.bool true],fun w' hw'=>?_,?_⟩
    ·cases hk:i.k <;> rw[hk]at ha g3 <;> simp[TK'.agg]at ha <;> cases dd <;> simp[TK'.fits]at g3 <;> simp[execOp,hq,Instr.typeAssert,run_underlying g1]
    ·refine .tup _ _ rfl fun j c z hc hz=>?_
     match j with
     | 0=>simp at hc hz;subst hc hz;exact hy
     | 1=>simp at hc hz;subst hc hz;exact .t _ _ (.v _)
     | j+2=>simp at hc) k
theorem TO.assert_nil(hT:TabOk P tab){t xt:TypeId}{i:TyI}{x:Operand}(hd:Nat.ble (d+1) n=true)(hx:env.val x=some (.t (.v .nilIface)))(ht:tab.get t=some i)(ha:i.k.agg=true)
  (k:TO q P n all rest ((d,.tup [.t (.ag i.zero),.b false])::env) H K):TO q P n all (⟨some d,.typeAssert x xt t true,ty,pos,aft,none⟩::rest) env H K:=
 TO.op hd (fun m ac h1 h2 h3=>by
  have hv:=h3.val hx
  generalize hq:ac.eval x=u at hv
  have hu:=hv.v_eq
  subst hu
  obtain⟨dd,ti,z,g1,g2,g3,g4,g5,g6,g7,g8,g9⟩:=(hT t i ht).ex
  obtain⟨cs,rfl⟩:=g8 ha
  obtain⟨z1,z2,z3⟩:=zero_rel (A:=m.A) (w:=m.w) _ _ g7
  refine⟨.tuple #[.agg cs,.bool false],fun w' hw'=>?_,?_⟩
  ·have hz:(zeroValue t).run P w'= .ok (.agg cs) w':=by simp[zeroValue,typeInfo,g2,g6]
   cases hk:i.k <;> rw[hk]at ha g3 <;> simp[TK'.agg]at ha <;> cases dd <;> simp[TK'.fits]at g3 <;> simp[execOp,hq,Instr.typeAssert,run_underlying g1,hz]
  ·refine .tup _ _ rfl fun j c z hc hz=>?_
   match j with
   | 0=>
     simp at hc hz;subst hc hz
     refine .t _ _ (.ag _ _ (by simpa [Value.cells]using z1.symm) (fun i y hy=>z2 i y (by simpa [Value.cells]using hy)) fun i c y hc hy=>z3 i c y hc (by simpa [Value.cells]using hy))
   | 1=>simp at hc hz;subst hc hz;exact .t _ _ (.v _)
   | j+2=>simp at hc) k
end rules
end Go.TL
namespace Go.Proofs.YtjgmcnemcembmaaGreatDoor
open Go Go.TL
attribute [local irreducible] TR TO Then InBlock RetK Sound LoopK Kf GG ThenL
theorem close_some(n q c:Int)(a b d:SV)(Hr:Heap)(hb:blksUnder (Hr.length+2) Hr=true):
  DSound Tryz.prog 48 [.ref 0 0,.ref 1 0] (.cells [a,b]:: .cells [d]::Hr) (some (failV n q c)) (fun H3=>H3= .cells [.i n,.i q]:: .cells [.i c]::Hr):=by
 refine DSound.of (tab:=tab) Tryz.func48 (by kernel_rfl) rfl rfl rfl rfl ?_
 repeat' (first|refine wu ?_|exact wkc|intro hc|refine wk2 ?_ ?_|(apply TO.assert_ok tabOk;exact rfl;exact rfl;exact rfl;exact rfl)|fail)
 refine Then.normal ?_
 repeat' (first|refine wkt ?_|fail)
 refine TR.regionM (envF:=?envF) (HF:=.cells [.i n,.i q]:: .cells [.i c]::Hr) [(.cp [T.i n,T.i q,T.i c] 0,false),(.t (.ag [T.i n,T.i q]),false),(.cp [T.i n,T.i q,T.i c] 2,false),(.i c,false),(.any,true),(.any,true)] [.cells [a,b]:: .cells [d]::Hr,.cells [.i n,.i q]:: .cells [d]::Hr,.cells [.i n,.i q]:: .cells [.i c]::Hr] hmix ?hB ?h0 ?hp ?hF ?hE ?hK
 case hB=>(dsimp only[List.map];decide +kernel)
 case h0=>exact rfl
 case hF=>exact rfl
 case hE=>exact rfl
 case hp=>repeat' (first|refine wu ?_|exact trivial|exact And.intro rfl rfl|refine And.intro (fun H env=>?_) ?_|refine And.intro (fun env=>?_) ?_|fail)
 repeat' (first|refine wu ?_|exact wkc|intro hc|refine wk2 ?_ ?_|fail)
 have ht:(Blk.cells [.i n,.i q]::Blk.cells [.i c]::Hr).take (Blk.cells [a,b]::Blk.cells [d]::Hr).length=Blk.cells [.i n,.i q]::Blk.cells [.i c]::Hr:=by simp
 refine⟨Nat.le_refl _,?_,ht⟩
 show blksUnder _ (List.take _ (Blk.cells [.i n,.i q]::Blk.cells [.i c]::Hr))=true
 rw[ht]
 exact hb
theorem close_none(H:Heap)(hb:blksUnder H.length H=true):
  DSound Tryz.prog 48 [.ref 0 0,.ref 1 0] H none (fun H3=>H3=H):=by
 refine DSound.of (tab:=tab) Tryz.func48 (by kernel_rfl) rfl rfl rfl rfl ?_
 repeat' (first|refine wu ?_|exact wkc|intro hc|refine wk2 ?_ ?_|(apply TO.assert_nil tabOk;exact rfl;exact rfl;exact rfl;exact rfl)|fail)
 refine Then.normal ?_
 repeat' (first|refine wu ?_|exact wkc|intro hc|refine wk2 ?_ ?_|fail)
 exact⟨Nat.le_refl _,by rw[List.take_of_length_le (Nat.le_refl _)];exact hb,List.take_of_length_le (Nat.le_refl _)⟩
theorem we3{G Q1 Q2:Prop}{f:FuncId}{cargs:List SV}{v pv:SV}{c:Int}{Hc H1:Heap}(hs:Sound Tryz.prog f cargs Hc (Err c v pv H1))(k1:Q1)(k2:Q2)(h:Sound Tryz.prog f cargs Hc (Err c v pv H1)->Hold Q1->Hold Q2->G:=by
  intro hs k1 k2
  (apply Go.TL.TO.callE [2] hs;exact rfl;exact rfl;exact rfl;(repeat' (first|exact trivial|exact Go.TL.Le.refl _|refine And.intro ?_ ?_|exact Go.TL.Le.any _|exact Go.TL.Le.nil _|exact Go.TL.Le.own _ _ _|refine Go.TL.Le.tree rfl ?_|exact Go.TL.TLe.refl _|exact Go.TL.TLe.nil _|refine Go.TL.TLe.ags ?_|fail));exact rfl;exact Hands.one rfl rfl;exact rfl;exact rfl;exact rfl;exact rfl;exact k1.p;exact k2.p)):G:=h hs ⟨k1⟩ ⟨k2⟩
theorem shapeX_sound(p:Prog)(hw:(T.ag (progC p)).w≤1000000000):Pure Tryz.prog 22 [.t (.ag (progC p))] (.tup [.t (.ag [T.i (shapeX p).1.1,T.i (shapeX p).1.2]),.i (shapeX p).2]):=by
 have l1:(T.sl 2 (p.enums.map enT)).w+(nodesT p.nodes).w≤(T.ag (progC p)).w:=by rw[w_ag];simp only[progC,List.map_cons,List.map_nil,List.sum_cons,List.sum_nil];omega
 refine Sound.ofDefer tabOk Tryz.func22 (by kernel_rfl) rfl rfl (gf:=48) (cv:=[.ref 0 0,.ref 1 0]) ?_
 unfold progC
 refine TD.seq ?_
 repeat' (first|refine wu ?_|fail)
 show TD _ _ (.seq _ _) _ _ _ _ _ _
 refine TD.defer (tz:=0) rfl rfl ?_
 have m1:(p.enums.map enT).length=p.enums.length:=List.length_map _
 have m2:(p.nodes.map nodT).length=p.nodes.length:=List.length_map _
 have b1:=w_lenM enT 2 p.enums
 have b2:=w_lenM nodT 8 p.nodes
 have hen:∀(n q:Int) u,u∈p.enums->LS 50 [.t (.ag [.s u.name,.sl 1 (u.tags.map T.s)])] p.enums n q (enumE u):=fun n q u hu=>enumM_sound p.enums n q u (by
  have:=w_inM (f:=enT) (sz:=2) hu
  rw[enT,w_ag]at this;simp only[List.map_cons,List.map_nil,List.sum_cons,List.sum_nil]at this
  have:=w_lenM T.s 1 u.tags
  omega)
 have hno:∀(a b i:Int) u,u∈p.nodes->Sound Tryz.prog 51 [.ref 0 0,.i i,.t (.ag (nodC u))] [lookB p.enums a b] (Err (nodeX p.enums u).2 (.tup []) (failV i (nodeX p.enums u).1 (nodeX p.enums u).2) [lookB p.enums i (-1)]):=fun a b i u hu=>nodeM_sound p.enums a b i u (by
  have:=w_inM (f:=nodT) (sz:=8) hu
  have:(nodesT p.nodes).w=(T.sl 8 (p.nodes.map nodT)).w:=rfl
  omega)
 have hz:shapeX p=shapeX p:=rfl
 conv at hz=>rhs;unfold shapeX limE
 generalize shapeX p=z at hz⊢
 refine wk ?_
 repeat' (first|refine wkt ?_|refine wka ?_|refine wk ?_|exact wkc|intro hc|refine wk2 ?_ ?_|(apply TO.call1 [2] (must_ok p.enums (-1) (-1) 3);exact rfl;exact rfl;exact rfl;exact⟨Le.refl _,Le.refl _,Le.refl _,trivial⟩;exact rfl;exact Hands.one rfl rfl;exact rfl;exact rfl)|refine we3 (must_no p.enums (-1) (-1) 3 (by decide)) ?_ ?_|fail)
 all_goals first
  | (have hzz:z=((-1,-1),3):=by rw[hz];clear hen hno;grind
     subst hzz
     exact⟨_,close_some _ _ _ _ _ _ _ rfl,fun H3 h=>by subst h;exact wkr⟩)
  | skip
 rw[if_neg (by clear hen hno hz;simp;omega)]at hz
 refine TR.loopN p.enums.length (fun k=>firstE enumE (p.enums.take k)=0) (fun k=>[(1,.cp [.sl 2 (p.enums.map enT),nodesT p.nodes] 0),(2,.ref 0 0),(3,.ref 1 0),(4,.ref 2 0),(28,.t (.sl 2 (p.enums.map enT))),(29,.i (p.enums.map enT).length),(30,.i k)])
  (fun k=>[.cells [.i 0,.i 0],.cells [.i 0],lookB p.enums (-1) (-1)]) rfl (fun k hlt ha=>?_) (fun ha=>?_)
 ·have hx:(p.enums.map enT)[k]?=some (.ag [.s p.enums[k].name,.sl 1 (p.enums[k].tags.map T.s)]):=at_map enT hlt
  have g1:=firstE_at (f:=enumE) hlt ha
  have g2:=firstE_next (f:=enumE) hlt ha
  have hs:=hen (-1) (-1) _ (List.getElem_mem hlt)
  generalize p.enums[k]=u at*
  clear hen hno
  repeat' (first|refine wkt ?_|refine wka ?_|refine wk ?_|exact wkc|intro hc|refine wk2 ?_ ?_|refine we3 hs ?_ ?_|fail)
  ·exact LoopK.nextN hlt (g2 hc)
  ·rw[if_pos (by rw[g1 hc];exact hc),g1 hc]at hz
   subst hz
   refine LoopK.panic ?_
   refine wk ?_
   exact⟨_,close_some _ _ _ _ _ _ _ rfl,fun H3 h=>by subst h;exact wkr⟩
 have e1:=firstE_all ha
 rw[if_neg (by simp[e1])]at hz
 clear hen
 refine wk ?_
 repeat' (first|refine wu ?_|exact wkc|intro hc|refine wk2 ?_ ?_|fail)
 refine TR.loopN p.nodes.length (fun k=>firstE (fun n=>(nodeX p.enums n).2) (p.nodes.take k)=0) (fun k=>[(2,.ref 0 0),(3,.ref 1 0),(4,.ref 2 0),(39,.t (nodesT p.nodes)),(40,.i (p.nodes.map nodT).length),(41,.i k)])
  (fun k=>[.cells [.i 0,.i 0],.cells [.i 0],lookB p.enums ((k:Int)-1) (-1)]) rfl (fun k hlt ha=>?_) (fun ha=>?_)
 ·have hx:=at_nod hlt
  have g1:=firstE_at (f:=fun n=>(nodeX p.enums n).2) hlt ha
  have g2:=firstE_next (f:=fun n=>(nodeX p.enums n).2) hlt ha
  have g3:=firstI_at (f:=fun n=>(nodeX p.enums n).2) hlt ha
  have hs:=hno ((k:Int)-1) (-1) k _ (List.getElem_mem hlt)
  have hat:p.nodes[k]?=some p.nodes[k]:=List.getElem?_eq_getElem hlt
  generalize p.nodes[k]=u at*
  clear hno
  unfold nodC at hx hs
  repeat' (first|refine wkt ?_|refine wka ?_|refine wk ?_|exact wkc|intro hc|refine wk2 ?_ ?_|refine we3 hs ?_ ?_|fail)
  ·refine LoopK.nextN hlt (g2 hc) ?_ (by rw[show((k+1:Nat):Int)-1=k from by omega];rfl)
   repeat' (first|exact trivial|refine And.intro rfl ?_|fail)
  ·rw[if_neg (by rw[g1 hc];exact hc),g3 hc,g1 hc]at hz
   simp only[Int.toNat_natCast,hat,Option.map_some,Option.getD_some]at hz
   subst hz
   refine LoopK.panic ?_
   refine wk ?_
   exact⟨_,close_some _ _ _ _ _ _ _ rfl,fun H3 h=>by subst h;exact wkr⟩
 have e2:=firstE_all ha
 rw[if_pos e2]at hz
 subst hz
 refine wk ?_
 repeat' (first|refine wu ?_|exact wkc|intro hc|refine wk2 ?_ ?_|fail)
 exact⟨_,close_none _ rfl,fun H3 h=>by subst h;exact wkr⟩
def spanOf(p:Int->Bool):Str->Str
 | []=>[]
 | c::r=>if p c.toNat then c::spanOf p r else[]
def behind(p:Int->Bool)(l:Str):Str:=l.drop (spanOf p l).length
def PR.code{α:Type}:PR α->Int
 | .ok _ _=>0
 | .er _ c=>c
def PR.at{α:Type}:PR α->Nat
 | .ok _ i=>i
 | .er k _=>k
end Go.Proofs.YtjgmcnemcembmaaGreatDoor
namespace Go.TL
open Go
section rules
variable {P:Program}{all:Array Oper}
def lastG(g:Prop):List Oper->Prop
 | []=>g
 | _::_=>True
def PremS(P:Program)(n:Nat)(K:TK)(g:Prop)(all:Array Oper)(full:Env)(H0:Heap):List Oper->List (SV×Bool)->Prop
 | [],[]=>True
 | o::l,(v,_)::t=>(∀env,TO false P n all [o] (pickE full (slotsOf all o)++env) H0 (NKP K (lastG g l) (putE o.dst v (pickE full (slotsOf all o)++env)) H0))/\PremS P n K g all full H0 l t
 | _,_=>False
theorem PremS.get{n:Nat}{K:TK}{g:Prop}{full:Env}{H0:Heap}:∀ {l:List Oper} {t:List (SV×Bool)},PremS P n K g all full H0 l t->l.length=t.length/\∀(i:Nat) o v b,l[i]?=some o->t[i]?=some (v,b)->
  ∀env,TO false P n all [o] (pickE full (slotsOf all o)++env) H0 (NKP K (lastG g (l.drop (i+1))) (putE o.dst v (pickE full (slotsOf all o)++env)) H0)
 | [],[],_=>⟨rfl,fun i o v b h=>by simp at h⟩
 | [],_::_,h=>h.elim
 | _::_,[],h=>h.elim
 | o::l,(v,b)::t,h=>by
   obtain⟨h1,h2⟩:=h
   obtain⟨g1,g2⟩:=PremS.get h2
   refine⟨by simp[g1],fun i o' v' b' ho hv=>?_⟩
   cases i with
   | zero=>simp at ho hv;obtain⟨rfl,rfl⟩:=hv;subst ho;exact h1
   | succ i=>exact g2 i o' v' b' (by simpa using ho) (by simpa using hv)
theorem TR.regionS{g:Prop}{n:Nat}{env0 envF:Env}{H0:Heap}{K:TK}{id':Nat}{l:List Oper}(t:List (SV×Bool))(hm:P.follows .mixedOrders=true)(hB:mixB l.toArray (t.map (·.2))=true)
  (hp:PremS P n K g l.toArray (fullE l.toArray (t.map (·.1)) env0) H0 l t)(hE:forceL (fullE l.toArray (t.map (·.1)) env0)=some envF)(hne:0<l.length)(hK:g->K .normal envF H0):
  TR P n (.region id' l.toArray true) env0 H0 K:=by
 obtain⟨g1,g2⟩:=hp.get
 intro φ m a h1 h2 h3 h4
 let hs:=List.replicate (((t.map (·.2)).filter id).length+1) H0
 have hsg:∀(c:Nat) H,hs[c]?=some H->H=H0:=by
  intro c H h
  rw[List.getElem?_replicate]at h
  split at h
  ·cases h;rfl
  ·cases h
 have hsi:∀c:Nat,c≤((t.map (·.2)).filter id).length->hs[c]?=some H0:=by
  intro c hc
  rw[List.getElem?_replicate,if_pos (by omega)]
 have s0:Step m ⟨m.A,m.β,m.H,{ m.w with drawn:=m.w.drawn+1 }⟩/\HRel ⟨m.A,m.β,m.H,{ m.w with drawn:=m.w.drawn+1 }⟩:=keep_ok h2 ⟨rfl,rfl,rfl,Nat.le_refl _,fun _ _=>rfl⟩
 refine wpr_of_in (wpIn_region_any hm ?_)
 refine any_mixW [] (G:=fun i=>lastG g (l.drop (i+1))) (vs:=t.map (·.1)) (fl:=t.map (·.2)) (hs:=hs) (HF:=H0) (m0:=m) (fun t ht=>by simp at ht) hB (by simp[g1]) (by simp[g1]) ?_ ?_ (hsi _ (Nat.le_refl _)) (fun hg=>by rw[forceL_eq hE]at hK;exact hK (by have:=hg (l.length-1) (by simp;omega);rw[List.drop_of_length_le (by omega)]at this;exact this)) l.toArray.size (Array.replicate l.toArray.size false)
  ⟨m.A,m.β,m.H,{ m.w with drawn:=m.w.drawn+1 }⟩ a (by simp) ?_ ?_ ?_ s0.1 s0.2 ?_ (h4.step h2 s0.1)
 ·intro i o v ho hv hb c H hc _ env
  obtain⟨⟨v',b⟩,hx,rfl⟩:∃x,t[i]?=some x/\x.1=v:=by simpa using hv
  rw[hsg c H hc]
  exact g2 i o v' b (by simpa using ho) hx env
 ·intro i o v ho hv hb
  obtain⟨⟨v',b⟩,hx,rfl⟩:∃x,t[i]?=some x/\x.1=v:=by simpa using hv
  have hlt:(((t.map (·.2)).take i).filter id).length<((t.map (·.2)).filter id).length:=by
   have hm:∀(fl':List Bool) (x:Nat),fl'.getD x false=true->((fl'.take x).filter id).length<(fl'.filter id).length:=by
    intro fl'
    induction fl' with
    | nil=>intro x h;cases h
    | cons b fl' ih=>
      intro x h
      cases x with
      | zero=>simp at h;subst h;simp
      | succ x=>
        have:=ih x (by simpa using h)
        cases b <;> simp <;> exact this
   exact hm _ i hb
  exact⟨H0,H0,hsi _ (by omega),hsi _ (by omega),fun env=>g2 i o v' b (by simpa using ho) hx env⟩
 ·intro i hi
  rw[Array.getElem?_replicate]at hi
  split at hi <;> cases hi
 ·unfold unl
  have:=List.length_filter_le (fun i=>(Array.replicate l.toArray.size false)[i]? == some false) (List.range l.toArray.size)
  simpa using this
 ·refine⟨0,fun i hi=>⟨fun h=>by omega,fun h=>?_⟩,Nat.zero_le _,by rw[hsi 0 (Nat.zero_le _)];simp[h1],fun j h=>?_⟩
  all_goals
   rw[Array.getElem?_replicate]at h
   split at h <;> cases h
 ·have:envA l.toArray (t.map (·.1)) (fun i=>(Array.replicate l.toArray.size false).getD i false) (List.range l.toArray.size)=[]:=by
   have:∀x:List Nat,envA l.toArray (t.map (·.1)) (fun i=>(Array.replicate l.toArray.size false).getD i false) x=[]:=by
    intro x
    induction x with
    | nil=>rfl
    | cons i x ih=>
      have:(Array.replicate l.toArray.size false).getD i false=false:=by
       rw[Array.getD_eq_getD_getElem?,Array.getElem?_replicate]
       split <;> rfl
      simp only[envA,this,ih]
   exact this _
  rw[this,List.nil_append]
  exact h3.step h2 s0.1
end rules
end Go.TL
