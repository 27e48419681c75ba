import Derived.DeepKeys5
import Derived.Test.YtcbhlhmebbkgnaaGreatPk19
import Derived.Test.YtcbhlhmebbkgnaaGreatPk21
import Derived.Test.YtcbhlhmebbkgnaaGreatPk22
set_option linter.unusedSimpArgs false
set_option linter.unusedVariables false
namespace Go.Proofs.YtcbhlhmebbkgnaaGreat
open Go Go.TL
variable {H:Type}
def progL:List TypeId:=[25,22,75,23,51,47,55,53,83,48,81,33,35,49,102,100,111,109,154,37,9,3,4,5]
theorem plainL:plainSetB Tryz.prog progL=true:=by kernel_rfl
theorem tilesL:∀t∈progL,tilesB Tryz.prog t=true:=List.all_eq_true.1 (by kernel_rfl)
theorem fits_cons{P:Program}{t:TypeId}{ts:List TypeId}{ds:List (DataW H)}{ys:List T}(h:Fits P (t::ts) ds ys):∃d ds' y ys',ds=d::ds'/\ys=y::ys'/\(y=mkT (aggB P t) y.cells/\∃n,TyD P n t d y.cells)/\Fits P ts ds' ys':=by
 cases ds with
 | nil=>cases ys <;> exact h.elim
 | cons d ds=>cases ys with
   | nil=>exact h.elim
   | cons y ys=>exact⟨d,ds,y,ys,rfl,rfl,h.1,h.2⟩
theorem fits_end{P:Program}{ds:List (DataW H)}{ys:List T}(h:Fits P [] ds ys):ds=[]/\ys=[]:=by
 cases ds <;> cases ys <;> first|exact⟨rfl,rfl⟩|exact h.elim
theorem bulk_cons(d:DataW H)(ds:List (DataW H)):Rows.uptoBulkAll (d::ds)=Rows.uptoBulk d+Rows.uptoBulkAll ds:=by simp[Rows.uptoBulkAll]
theorem prog_in{d:DataW H}{y:T}(h:y=mkT (aggB Tryz.prog 25) y.cells/\∃n,TyD Tryz.prog n 25 d y.cells):∃p:Prog,y= .ag (progC p)/\(T.ag (progC p)).w≤2*Rows.uptoBulk d:=by
 obtain⟨h1,n,h2⟩:=h
 obtain⟨p,hp⟩:=ty_prog h2
 rw[agg_prog,hp]at h1
 have:=tyD_w plainL tilesL n _ (by decide +kernel) d y.cells h2
 refine⟨p,h1,?_⟩
 have hc:y.cells=progC p:=by rw[h1];rfl
 rw[hc]at this
 rw[w_ag];omega
theorem ex_in{d:DataW H}{y:T}(h:y=mkT (aggB Tryz.prog 35) y.cells/\∃n,TyD Tryz.prog n 35 d y.cells):∃e:Ex,y= .ag (exC e):=by
 obtain⟨h1,n,h2⟩:=h
 obtain⟨e,he⟩:=ty_ex n n (Nat.le_refl _) _ _ h2
 rw[agg_ex,he]at h1
 exact⟨e,h1⟩
theorem int_in{d:DataW H}{y:T}(h:y=mkT (aggB Tryz.prog 3) y.cells/\∃n,TyD Tryz.prog n 3 d y.cells):∃i:I64,y=T.n i:=by
 obtain⟨h1,n,h2⟩:=h
 obtain⟨i,hi⟩:=ty_i h2
 have ha:aggB Tryz.prog 3=false:=by unfold aggB;rw[Tryz.underlying3]
 rw[ha,hi]at h1
 exact⟨i,h1⟩
end Go.Proofs.YtcbhlhmebbkgnaaGreat
namespace Go.Proofs.YtcbhlhmebbkgnaaGreat
open Go Go.TL
attribute [local irreducible] TR TO Then InBlock RetK Sound LoopK Kf GG ThenL
theorem wka{G Q:Prop}(k:Q)(h:Hold Q->G:=by
  (intro k;apply Go.TL.TO.allocC2 tabOk;exact rfl;exact rfl;exact rfl;exact rfl;exact rfl;exact rfl;exact rfl;exact rfl;exact rfl;exact Nat.le_of_ble_eq_true rfl;exact k.p)):G:=h ⟨k⟩
theorem retQ{rs:List ResultVar}{env:Env}{H H1:Heap}{v:SV}{n q q' c c':Int}(h0:c'≠0)(hc:c'=c)(hq:q'=q)(hN:Nat.ble 1 H.length=true)(hb:blksUnder H.length H=true):
  RetK tab rs 1 (Err0 c v (failV n q c) H1 1) (.panic (failV n q' c')) env H:=by
 subst hc hq;exact RetK.errP h0 hN rfl hb
theorem firstI_at{α:Type}{f:α->Int}{l:List α}{k:Nat}(hk:k<l.length)(h:firstE f (l.take k)=0)(hn:f l[k]≠0):firstI f l=((k:Int),f l[k]):=by
 conv=>lhs;rw[<-List.take_append_drop k l]
 rw[firstI_append,if_pos h,List.drop_eq_getElem_cons hk,firstE,if_neg hn,if_neg hn,firstI,if_neg hn]
 simp;omega
theorem w_nod(n:Nod):(declsT n.ins).w+(declsT n.outs).w+(declsT n.locals).w+(T.sl 7 (n.eqs.map equT)).w+(T.sl 1 (n.autos.map autoT)).w+(T.sl 6 (n.assume.map exT)).w+(T.sl 6 (n.ensure.map exT)).w≤(nodT n).w:=by
 rw[show nodT n= .ag (nodC n) from rfl,w_ag];simp only[nodC,List.map_cons,List.map_nil,List.sum_cons,List.sum_nil];omega
set_option maxHeartbeats 1000000 in
theorem nodeM_sound (es:List En) (a b i:Int) (n:Nod) (hw:(nodT n).w≤1000000000):
  Sound Tryz.prog 142 [.ref 0 0,.i i,.t (.ag (nodC n))] [lookB es a b] (Err (nodeX es n).2 (.tup []) (failV i (nodeX es n).1 (nodeX es n).2) [lookB es i (-1)]):=by
 refine Sound.err rfl (fun _=>rfl) ?_
 have hwn:=w_nod n
 have l1:=w_lenM equT 7 n.eqs
 have l2:=w_lenM autoT 1 n.autos
 have l3:=w_lenM exT 6 n.assume
 have l4:=w_lenM exT 6 n.ensure
 have m1:(n.ins.map declT).length=n.ins.length:=List.length_map _
 have m2:(n.outs.map declT).length=n.outs.length:=List.length_map _
 have m3:(n.locals.map declT).length=n.locals.length:=List.length_map _
 have m4:(n.eqs.map equT).length=n.eqs.length:=List.length_map _
 have m5:(n.autos.map autoT).length=n.autos.length:=List.length_map _
 have m6:(n.assume.map exT).length=n.assume.length:=List.length_map _
 have m7:(n.ensure.map exT).length=n.ensure.length:=List.length_map _
 have hi:=identM_sound es i (-1) n.name
 have hd1:=declsM_sound es i (-1) n.ins true (by omega)
 have hd2:=declsM_sound es i (-1) n.outs true (by omega)
 have hd3:=declsM_sound es i (-1) n.locals false (by omega)
 have heq:∀(q:Int) u,u∈n.eqs->LS 182 [.t (.ag (equC u))] es i q (equE es u):=fun q u hu=>equM_sound es i q u (by have:=w_inM (f:=equT) (sz:=7) hu;omega)
 have hau:∀u,u∈n.autos->LS 183 [.t (.ag (autoC u)),.i 0] es i (-1) (autoE es 3 u):=fun u hu=>autoM_sound es i (-1) u (by have:=w_inM (f:=autoT) (sz:=1) hu;omega)
 have hex:∀u,u∈n.assume\/u∈n.ensure->wEx u≤1000000000:=fun u hu=>by
  have:=wEx_le u
  rcases hu with hu|hu
  ·have:=w_inM (f:=exT) (sz:=6) hu;omega
  ·have:=w_inM (f:=exT) (sz:=6) hu;omega
 have hz:nodeX es n=nodeX es n:=rfl
 conv at hz=>rhs;unfold nodeX headE tailE orE
 generalize nodeX es n=z at hz⊢
 unfold nodC
 clear hwn hw
 refine Sound.of tabOk Tryz.func142 (by kernel_rfl) rfl rfl ?_
 repeat' (first|refine wkt ?_|refine wk ?_|exact wkc|intro hc|refine wk2 ?_ ?_|refine wm ?_|refine we hi ?_ ?_|refine we hd1 ?_ ?_|refine we hd2 ?_ ?_|refine we hd3 ?_ ?_|fail)
 all_goals first
  | ((repeat' (first|refine LoopK.panic ?_|refine wk ?_|fail));apply retQ;(first|assumption|decide);(clear hi hd1 hd2 hd3 heq hau hex;grind);(clear hi hd1 hd2 hd3 heq hau hex;grind);exact rfl;exact rfl)
  | skip
 refine TR.loopN n.eqs.length (fun k=>firstE (equE es) (n.eqs.take k)=0) (fun k=>[(0,.ref 0 0),(5,.cp [.s n.name,declsT n.ins,declsT n.outs,declsT n.locals,.sl 7 (n.eqs.map equT),.sl 1 (n.autos.map autoT),.sl 6 (n.assume.map exT),.sl 6 (n.ensure.map exT)] 0),(80,.t (.sl 7 (n.eqs.map equT))),(81,.i (n.eqs.map equT).length),(82,.i k)]) (fun k=>[lookB es i ((k:Int)-1)]) rfl (fun k hlt ha=>?_) (fun ha=>?_)
 ·have hx:=at_equ hlt
  have g1:=firstE_at (f:=(equE es)) hlt ha
  have g2:=firstE_next (f:=(equE es)) hlt ha
  have hs:=heq k _ (List.getElem_mem hlt)
  have g3:=firstI_at (f:=equE es) hlt ha
  generalize n.eqs[k]=u at*
  unfold equC at hx hs
  repeat' (first|refine wkt ?_|refine wka ?_|refine wk ?_|exact wkc|intro hc|refine wk2 ?_ ?_|refine we hs ?_ ?_|fail)
  all_goals first
   | (refine LoopK.nextN hlt (g2 hc) ?_ (by rw[show((k+1:Nat):Int)-1=k from by omega]);repeat' (first|exact trivial|refine And.intro rfl ?_|fail))
   | ((repeat' (first|refine LoopK.panic ?_|refine wk ?_|fail));apply retQ;(first|assumption|decide);(clear hs hi hd1 hd2 hd3 heq hau hex hx;grind);(clear hs hi hd1 hd2 hd3 heq hau hex hx;grind);exact rfl;exact rfl)
 have e1:=firstE_all ha
 clear hi hd1 hd2 hd3 heq
 refine wk ?_
 repeat' (first|refine wkt ?_|refine wk ?_|exact wkc|intro hc|refine wk2 ?_ ?_|fail)
 refine TR.loopN n.autos.length (fun k=>firstE (autoE es 3) (n.autos.take k)=0) (fun k=>[(0,.ref 0 0),(5,.cp [.s n.name,declsT n.ins,declsT n.outs,declsT n.locals,.sl 7 (n.eqs.map equT),.sl 1 (n.autos.map autoT),.sl 6 (n.assume.map exT),.sl 6 (n.ensure.map exT)] 0),(101,.t (.sl 1 (n.autos.map autoT))),(102,.i (n.autos.map autoT).length),(103,.i k)]) (fun k=>[lookB es i (-1)]) rfl (fun k hlt ha=>?_) (fun ha=>?_)
 ·have hx:=at_auto hlt
  have g1:=firstE_at (f:=(autoE es 3)) hlt ha
  have g2:=firstE_next (f:=(autoE es 3)) hlt ha
  have hs:=hau _ (List.getElem_mem hlt)
  generalize n.autos[k]=u at*
  unfold autoC at hx hs
  repeat' (first|refine wkt ?_|refine wk ?_|exact wkc|intro hc|refine wk2 ?_ ?_|refine we hs ?_ ?_|fail)
  all_goals first
   | exact LoopK.nextN hlt (g2 hc)
   | ((repeat' (first|refine LoopK.panic ?_|refine wk ?_|fail));apply retQ;(first|assumption|decide);(clear hs hau hex hx;grind);(clear hs hau hex hx;grind);exact rfl;exact rfl)
 have e2:=firstE_all ha
 clear hau
 refine wk ?_
 repeat' (first|refine wkt ?_|refine wk ?_|exact wkc|intro hc|refine wk2 ?_ ?_|fail)
 refine TR.loopN n.assume.length (fun k=>firstE (exprX es) (n.assume.take k)=0) (fun k=>[(0,.ref 0 0),(5,.cp [.s n.name,declsT n.ins,declsT n.outs,declsT n.locals,.sl 7 (n.eqs.map equT),.sl 1 (n.autos.map autoT),.sl 6 (n.assume.map exT),.sl 6 (n.ensure.map exT)] 0),(112,.t (.sl 6 (n.assume.map exT))),(113,.i (n.assume.map exT).length),(114,.i k)]) (fun k=>[lookB es i (-1)]) rfl (fun k hlt ha=>?_) (fun ha=>?_)
 ·have hx:=at_exT hlt
  have g1:=firstE_at (f:=(exprX es)) hlt ha
  have g2:=firstE_next (f:=(exprX es)) hlt ha
  have hs:=exprX_sound es _ (hex _ (.inl (List.getElem_mem hlt)))
  rw[exT_eq]at hs
  generalize n.assume[k]=u at*
  unfold exC at hx hs
  have hr:=right_sound es i (-1) (exprX es u)
  generalize exprX es u=xe at*
  repeat' (first|refine wkt ?_|refine wk ?_|exact wkc|intro hc|refine wk2 ?_ ?_|refine wv hs ?_|refine we hr ?_ ?_|fail)
  all_goals first
   | exact LoopK.nextN hlt (g2 hc)
   | ((repeat' (first|refine LoopK.panic ?_|refine wk ?_|fail));apply retQ;(first|assumption|decide);(clear hs hr hex hx;grind);(clear hs hr hex hx;grind);exact rfl;exact rfl)
 have e3:=firstE_all ha
 refine wk ?_
 repeat' (first|refine wkt ?_|refine wk ?_|exact wkc|intro hc|refine wk2 ?_ ?_|fail)
 refine TR.loopN n.ensure.length (fun k=>firstE (exprX es) (n.ensure.take k)=0) (fun k=>[(0,.ref 0 0),(5,.cp [.s n.name,declsT n.ins,declsT n.outs,declsT n.locals,.sl 7 (n.eqs.map equT),.sl 1 (n.autos.map autoT),.sl 6 (n.assume.map exT),.sl 6 (n.ensure.map exT)] 0),(128,.t (.sl 6 (n.ensure.map exT))),(129,.i (n.ensure.map exT).length),(130,.i k)]) (fun k=>[lookB es i (-1)]) rfl (fun k hlt ha=>?_) (fun ha=>?_)
 ·have hx:=at_exT hlt
  have g1:=firstE_at (f:=(exprX es)) hlt ha
  have g2:=firstE_next (f:=(exprX es)) hlt ha
  have hs:=exprX_sound es _ (hex _ (.inr (List.getElem_mem hlt)))
  rw[exT_eq]at hs
  generalize n.ensure[k]=u at*
  unfold exC at hx hs
  have hr:=right_sound es i (-1) (exprX es u)
  generalize exprX es u=xe at*
  repeat' (first|refine wkt ?_|refine wk ?_|exact wkc|intro hc|refine wk2 ?_ ?_|refine wv hs ?_|refine we hr ?_ ?_|fail)
  all_goals first
   | exact LoopK.nextN hlt (g2 hc)
   | ((repeat' (first|refine LoopK.panic ?_|refine wk ?_|fail));apply retQ;(first|assumption|decide);(clear hs hr hex hx;grind);(clear hs hr hex hx;grind);exact rfl;exact rfl)
 have e4:=firstE_all ha
 refine wk ?_
 repeat' (first|refine wkt ?_|refine wk ?_|exact wkc|intro hc|refine wk2 ?_ ?_|fail)
 refine RetK.errN (vs:=[]) ?_ rfl (Le.refl _) rfl rfl rfl rfl rfl
 clear hex;grind
end Go.Proofs.YtcbhlhmebbkgnaaGreat
namespace Go.TL
open Go
section rules
variable {P:Program}{n:Nat}{env:Env}{H:Heap}{K:TK}{all:Array Oper}{rest:List Oper}{tab:Tab}{q:Bool}
variable {d:Nat}{ty:TypeId}{pos:String}{aft:Array Edge}
theorem TO.assert_ok(hT:TabOk P tab){t xt:TypeId}{i:TyI}{x:Operand}{s:SV}(hd:Nat.ble (d+1) n=true)(hx:env.val x=some (.ifc t s))(ht:tab.get t=some i)(ha:i.k.agg=true)
  (k:TO q P n all rest ((d,.tup [s,.b true])::env) H K):TO q P n all (⟨some d,.typeAssert x xt t true,ty,pos,aft,none⟩::rest) env H K:=
 TO.op hd (fun m ac h1 h2 h3=>by
  have hv:=h3.val hx
  generalize hq:ac.eval x=u at hv
  cases hv with
  | ifc _ _ y hy=>
    obtain⟨dd,ti,z,g1,g2,g3,g4,g5,g6,g7,g8,g9⟩:=(hT t i ht).ex
    refine⟨.tuple #[y,.bool true],fun w' hw'=>?_,?_⟩
    ·cases hk:i.k <;> rw[hk]at ha g3 <;> simp[TK'.agg]at ha <;> cases dd <;> simp[TK'.fits]at g3 <;> simp[execOp,hq,Instr.typeAssert,run_underlying g1]
    ·refine .tup _ _ rfl fun j c z hc hz=>?_
     match j with
     | 0=>simp at hc hz;subst hc hz;exact hy
     | 1=>simp at hc hz;subst hc hz;exact .t _ _ (.v _)
     | j+2=>simp at hc) k
theorem TO.assert_nil(hT:TabOk P tab){t xt:TypeId}{i:TyI}{x:Operand}(hd:Nat.ble (d+1) n=true)(hx:env.val x=some (.t (.v .nilIface)))(ht:tab.get t=some i)(ha:i.k.agg=true)
  (k:TO q P n all rest ((d,.tup [.t (.ag i.zero),.b false])::env) H K):TO q P n all (⟨some d,.typeAssert x xt t true,ty,pos,aft,none⟩::rest) env H K:=
 TO.op hd (fun m ac h1 h2 h3=>by
  have hv:=h3.val hx
  generalize hq:ac.eval x=u at hv
  have hu:=hv.v_eq
  subst hu
  obtain⟨dd,ti,z,g1,g2,g3,g4,g5,g6,g7,g8,g9⟩:=(hT t i ht).ex
  obtain⟨cs,rfl⟩:=g8 ha
  obtain⟨z1,z2,z3⟩:=zero_rel (A:=m.A) (w:=m.w) _ _ g7
  refine⟨.tuple #[.agg cs,.bool false],fun w' hw'=>?_,?_⟩
  ·have hz:(zeroValue t).run P w'= .ok (.agg cs) w':=by simp[zeroValue,typeInfo,g2,g6]
   cases hk:i.k <;> rw[hk]at ha g3 <;> simp[TK'.agg]at ha <;> cases dd <;> simp[TK'.fits]at g3 <;> simp[execOp,hq,Instr.typeAssert,run_underlying g1,hz]
  ·refine .tup _ _ rfl fun j c z hc hz=>?_
   match j with
   | 0=>
     simp at hc hz;subst hc hz
     refine .t _ _ (.ag _ _ (by simpa [Value.cells]using z1.symm) (fun i y hy=>z2 i y (by simpa [Value.cells]using hy)) fun i c y hc hy=>z3 i c y hc (by simpa [Value.cells]using hy))
   | 1=>simp at hc hz;subst hc hz;exact .t _ _ (.v _)
   | j+2=>simp at hc) k
end rules
end Go.TL
namespace Go.Proofs.YtcbhlhmebbkgnaaGreat
open Go Go.TL
attribute [local irreducible] TR TO Then InBlock RetK Sound LoopK Kf GG ThenL
theorem close_some(n q c:Int)(a b d:SV)(Hr:Heap)(hb:blksUnder (Hr.length+2) Hr=true):
  DSound Tryz.prog 139 [.ref 0 0,.ref 1 0] (.cells [a,b]:: .cells [d]::Hr) (some (failV n q c)) (fun H3=>H3= .cells [.i n,.i q]:: .cells [.i c]::Hr):=by
 refine DSound.of (tab:=tab) Tryz.func139 (by kernel_rfl) rfl rfl rfl rfl ?_
 repeat' (first|refine wkt ?_|refine wk ?_|exact wkc|intro hc|refine wk2 ?_ ?_|(apply TO.assert_ok tabOk;exact rfl;exact rfl;exact rfl;exact rfl)|fail)
 refine Then.normal ?_
 repeat' (first|refine wkt ?_|fail)
 refine TR.regionM (envF:=?envF) (HF:=.cells [.i n,.i q]:: .cells [.i c]::Hr) [(.cp [T.i n,T.i q,T.i c] 0,false),(.t (.ag [T.i n,T.i q]),false),(.cp [T.i n,T.i q,T.i c] 2,false),(.i c,false),(.any,true),(.any,true)] [.cells [a,b]:: .cells [d]::Hr,.cells [.i n,.i q]:: .cells [d]::Hr,.cells [.i n,.i q]:: .cells [.i c]::Hr] hmix ?hB ?h0 ?hp ?hF ?hE ?hK
 case hB=>(dsimp only[List.map];decide +kernel)
 case h0=>exact rfl
 case hF=>exact rfl
 case hE=>exact rfl
 case hp=>repeat' (first|refine wkt ?_|refine wk ?_|exact trivial|exact And.intro rfl rfl|refine And.intro (fun H env=>?_) ?_|refine And.intro (fun env=>?_) ?_|fail)
 repeat' (first|refine wkt ?_|refine wk ?_|exact wkc|intro hc|refine wk2 ?_ ?_|fail)
 have ht:(Blk.cells [.i n,.i q]::Blk.cells [.i c]::Hr).take (Blk.cells [a,b]::Blk.cells [d]::Hr).length=Blk.cells [.i n,.i q]::Blk.cells [.i c]::Hr:=by simp
 refine⟨Nat.le_refl _,?_,ht⟩
 show blksUnder _ (List.take _ (Blk.cells [.i n,.i q]::Blk.cells [.i c]::Hr))=true
 rw[ht]
 exact hb
theorem close_none(H:Heap)(hb:blksUnder H.length H=true):
  DSound Tryz.prog 139 [.ref 0 0,.ref 1 0] H none (fun H3=>H3=H):=by
 refine DSound.of (tab:=tab) Tryz.func139 (by kernel_rfl) rfl rfl rfl rfl ?_
 repeat' (first|refine wkt ?_|refine wk ?_|exact wkc|intro hc|refine wk2 ?_ ?_|(apply TO.assert_nil tabOk;exact rfl;exact rfl;exact rfl;exact rfl)|fail)
 refine Then.normal ?_
 repeat' (first|refine wkt ?_|refine wk ?_|exact wkc|intro hc|refine wk2 ?_ ?_|fail)
 exact⟨Nat.le_refl _,by rw[List.take_of_length_le (Nat.le_refl _)];exact hb,List.take_of_length_le (Nat.le_refl _)⟩
theorem we3{G Q1 Q2:Prop}{f:FuncId}{cargs:List SV}{v pv:SV}{c:Int}{Hc H1:Heap}(hs:Sound Tryz.prog f cargs Hc (Err c v pv H1))(k1:Q1)(k2:Q2)(h:Sound Tryz.prog f cargs Hc (Err c v pv H1)->Hold Q1->Hold Q2->G:=by
  intro hs k1 k2
  (apply Go.TL.TO.callE [2] hs;exact rfl;exact rfl;exact rfl;(repeat' (first|exact trivial|exact Go.TL.Le.refl _|refine And.intro ?_ ?_|exact Go.TL.Le.any _|exact Go.TL.Le.nil _|exact Go.TL.Le.own _ _ _|refine Go.TL.Le.tree rfl ?_|exact Go.TL.TLe.refl _|exact Go.TL.TLe.nil _|refine Go.TL.TLe.ags ?_|fail));exact rfl;exact Hands.one rfl rfl;exact rfl;exact rfl;exact rfl;exact rfl;exact k1.p;exact k2.p)):G:=h hs ⟨k1⟩ ⟨k2⟩
theorem shapeX_sound(p:Prog)(hw:(T.ag (progC p)).w≤1000000000):Pure Tryz.prog 96 [.t (.ag (progC p))] (.tup [.t (.ag [T.i (shapeX p).1.1,T.i (shapeX p).1.2]),.i (shapeX p).2]):=by
 have l1:(T.sl 2 (p.enums.map enT)).w+(nodesT p.nodes).w≤(T.ag (progC p)).w:=by rw[w_ag];simp only[progC,List.map_cons,List.map_nil,List.sum_cons,List.sum_nil];omega
 refine Sound.ofDefer tabOk Tryz.func96 (by kernel_rfl) rfl rfl (gf:=139) (cv:=[.ref 0 0,.ref 1 0]) ?_
 unfold progC
 refine TD.seq ?_
 repeat' (first|refine wkt ?_|refine wk ?_|fail)
 show TD _ _ (.seq _ _) _ _ _ _ _ _
 refine TD.defer (tz:=0) rfl rfl ?_
 have m1:(p.enums.map enT).length=p.enums.length:=List.length_map _
 have m2:(p.nodes.map nodT).length=p.nodes.length:=List.length_map _
 have b1:=w_lenM enT 2 p.enums
 have b2:=w_lenM nodT 8 p.nodes
 have hen:∀(n q:Int) u,u∈p.enums->LS 141 [.t (.ag [.s u.name,.sl 1 (u.tags.map T.s)])] p.enums n q (enumE u):=fun n q u hu=>enumM_sound p.enums n q u (by
  have:=w_inM (f:=enT) (sz:=2) hu
  rw[enT,w_ag]at this;simp only[List.map_cons,List.map_nil,List.sum_cons,List.sum_nil]at this
  have:=w_lenM T.s 1 u.tags
  omega)
 have hno:∀(a b i:Int) u,u∈p.nodes->Sound Tryz.prog 142 [.ref 0 0,.i i,.t (.ag (nodC u))] [lookB p.enums a b] (Err (nodeX p.enums u).2 (.tup []) (failV i (nodeX p.enums u).1 (nodeX p.enums u).2) [lookB p.enums i (-1)]):=fun a b i u hu=>nodeM_sound p.enums a b i u (by
  have:=w_inM (f:=nodT) (sz:=8) hu
  have:(nodesT p.nodes).w=(T.sl 8 (p.nodes.map nodT)).w:=rfl
  omega)
 have hz:shapeX p=shapeX p:=rfl
 conv at hz=>rhs;unfold shapeX limE
 generalize shapeX p=z at hz⊢
 refine wk ?_
 repeat' (first|refine wkt ?_|refine wka ?_|refine wk ?_|exact wkc|intro hc|refine wk2 ?_ ?_|(apply TO.call1 [2] (must_ok p.enums (-1) (-1) 3);exact rfl;exact rfl;exact rfl;exact⟨Le.refl _,Le.refl _,Le.refl _,trivial⟩;exact rfl;exact Hands.one rfl rfl;exact rfl;exact rfl)|refine we3 (must_no p.enums (-1) (-1) 3 (by decide)) ?_ ?_|fail)
 all_goals first
  | (have hzz:z=((-1,-1),3):=by rw[hz];clear hen hno;grind
     subst hzz
     exact⟨_,close_some _ _ _ _ _ _ _ rfl,fun H3 h=>by subst h;exact wkr⟩)
  | skip
 rw[if_neg (by clear hen hno hz;simp;omega)]at hz
 refine TR.loopN p.enums.length (fun k=>firstE enumE (p.enums.take k)=0) (fun k=>[(1,.cp [.sl 2 (p.enums.map enT),nodesT p.nodes] 0),(2,.ref 0 0),(3,.ref 1 0),(4,.ref 2 0),(28,.t (.sl 2 (p.enums.map enT))),(29,.i (p.enums.map enT).length),(30,.i k)])
  (fun k=>[.cells [.i 0,.i 0],.cells [.i 0],lookB p.enums (-1) (-1)]) rfl (fun k hlt ha=>?_) (fun ha=>?_)
 ·have hx:(p.enums.map enT)[k]?=some (.ag [.s p.enums[k].name,.sl 1 (p.enums[k].tags.map T.s)]):=at_map enT hlt
  have g1:=firstE_at (f:=enumE) hlt ha
  have g2:=firstE_next (f:=enumE) hlt ha
  have hs:=hen (-1) (-1) _ (List.getElem_mem hlt)
  generalize p.enums[k]=u at*
  clear hen hno
  repeat' (first|refine wkt ?_|refine wka ?_|refine wk ?_|exact wkc|intro hc|refine wk2 ?_ ?_|refine we3 hs ?_ ?_|fail)
  ·exact LoopK.nextN hlt (g2 hc)
  ·rw[if_pos (by rw[g1 hc];exact hc),g1 hc]at hz
   subst hz
   refine LoopK.panic ?_
   refine wk ?_
   exact⟨_,close_some _ _ _ _ _ _ _ rfl,fun H3 h=>by subst h;exact wkr⟩
 have e1:=firstE_all ha
 rw[if_neg (by simp[e1])]at hz
 clear hen
 refine wk ?_
 repeat' (first|refine wkt ?_|refine wk ?_|exact wkc|intro hc|refine wk2 ?_ ?_|fail)
 refine TR.loopN p.nodes.length (fun k=>firstE (fun n=>(nodeX p.enums n).2) (p.nodes.take k)=0) (fun k=>[(2,.ref 0 0),(3,.ref 1 0),(4,.ref 2 0),(39,.t (nodesT p.nodes)),(40,.i (p.nodes.map nodT).length),(41,.i k)])
  (fun k=>[.cells [.i 0,.i 0],.cells [.i 0],lookB p.enums ((k:Int)-1) (-1)]) rfl (fun k hlt ha=>?_) (fun ha=>?_)
 ·have hx:=at_nod hlt
  have g1:=firstE_at (f:=fun n=>(nodeX p.enums n).2) hlt ha
  have g2:=firstE_next (f:=fun n=>(nodeX p.enums n).2) hlt ha
  have g3:=firstI_at (f:=fun n=>(nodeX p.enums n).2) hlt ha
  have hs:=hno ((k:Int)-1) (-1) k _ (List.getElem_mem hlt)
  have hat:p.nodes[k]?=some p.nodes[k]:=List.getElem?_eq_getElem hlt
  generalize p.nodes[k]=u at*
  clear hno
  unfold nodC at hx hs
  repeat' (first|refine wkt ?_|refine wka ?_|refine wk ?_|exact wkc|intro hc|refine wk2 ?_ ?_|refine we3 hs ?_ ?_|fail)
  ·refine LoopK.nextN hlt (g2 hc) ?_ (by rw[show((k+1:Nat):Int)-1=k from by omega];rfl)
   repeat' (first|exact trivial|refine And.intro rfl ?_|fail)
  ·rw[if_neg (by rw[g1 hc];exact hc),g3 hc,g1 hc]at hz
   simp only[Int.toNat_natCast,hat,Option.map_some,Option.getD_some]at hz
   subst hz
   refine LoopK.panic ?_
   refine wk ?_
   exact⟨_,close_some _ _ _ _ _ _ _ rfl,fun H3 h=>by subst h;exact wkr⟩
 have e2:=firstE_all ha
 rw[if_pos e2]at hz
 subst hz
 refine wk ?_
 repeat' (first|refine wkt ?_|refine wk ?_|exact wkc|intro hc|refine wk2 ?_ ?_|fail)
 exact⟨_,close_none _ rfl,fun H3 h=>by subst h;exact wkr⟩
theorem kStr:Maps.Keyed Tryz.prog 9:=Maps.string_keyed Tryz.underlying9
set_option maxRecDepth 100000 in
theorem kKey:Maps.Keyed Tryz.prog 145:=Maps.Keyed.of_law (deep_law_laid (m:=3) (by kernel_rfl) (by decide) (Nat.le_of_ble_eq_true (by kernel_rfl)) (by kernel_rfl) (by kernel_rfl))
theorem keyS{s:Str}(h:s.length≤1000000000):∃l,keyOf Tryz.prog 9 (str s)=some l:=by
 refine⟨.string s,?_⟩
 have:(⟨s.toArray⟩:ByteArray).size≤maxLen:=by
  show s.toArray.size≤maxLen
  simp[maxLen];omega
 simp[keyOf,Tryz.underlying9,mapKey,this]
abbrev keyV (k:Int)(s:Str):Value:=.agg #[.int .i64 k,str s]
theorem keyTy:Tryz.prog.keyType 145=true:=by kernel_rfl
theorem cells2:Tryz.prog.cellsOf 145=2:=by kernel_rfl
theorem cells3:Tryz.prog.cellsOf 3=1:=by kernel_rfl
theorem cells4:Tryz.prog.cellsOf 9=1:=by kernel_rfl
theorem typesN:∃N,Tryz.prog.types.size=N+1:=⟨Tryz.prog.types.size-1,by kernel_rfl⟩
theorem keyLitsK(N:Nat){k:Int}{s:Str}(hw:(Lit.int .i64 k).wf=true)(hs:(⟨s.toArray⟩:ByteArray).size≤maxLen):
  (Tryz.prog.keyLits (N+1+1) 145 [.int .i64 k,str s])=some [.int .i64 k,.string s]:=by
 have e1:∀c,Tryz.prog.keyLits (N+1) 3 [c]=(match c with| .int q' n=>if q'= .i64/\(Lit.int .i64 n).wf=true then some [.int .i64 n] else none|_=>none):=fun c=>by
  unfold Program.keyLits
  simp only[Tryz.underlying3]
  cases c <;> rfl
 have e2:Tryz.prog.keyLits (N+1) 9 [str s]=some [.string s]:=by
  unfold Program.keyLits
  simp only[Tryz.underlying9]
  rw[if_pos hs]
 unfold Program.keyLits
 simp only[Tryz.underlying145,cells2]
 simp only[List.length_cons,List.length_nil,List.mapM_cons,List.mapM_nil,cells3,cells4,List.drop_zero,List.take,List.drop,e1,e2,hw]
 simp
theorem keyK{k:Int}{s:Str}(hk:0≤k/\k≤2)(h:s.length≤1000000000):∃l,keyOf Tryz.prog 145 (keyV k s)=some l:=by
 have hs:(⟨s.toArray⟩:ByteArray).size≤maxLen:=by
  show s.toArray.size≤maxLen
  simp[maxLen];omega
 have hw:(Lit.int .i64 k).wf=true:=by
  simp only[Lit.wf,Bool.and_eq_true,decide_eq_true_eq]
  exact⟨by show(-9223372036854775808:Int)≤k;omega,by show k≤(9223372036854775807:Int);omega⟩
 have h5:(Value.agg #[.int .i64 k,str s]).formed Tryz.prog 145=true:=by
  simp only[Value.formed,Tryz.underlying145,cells2];rfl
 obtain⟨N,hN⟩:=typesN
 refine⟨.string (keyBytes [.int .i64 k,.string s]),?_⟩
 rw[keyOf,Tryz.underlying145]
 simp only[keyTy,h5,hN,Value.cells,Bool.and_self,if_true,keyLitsK N hw hs,Option.map_some]
def ins(l:List Str)(s:Str):List Str:=if s∈l then l else l++[s]
abbrev setB (l:List Str):Blk:=.map 9 4 (l.map fun s=>(str s,.v (.bool true)))
abbrev seenB (l:List (Int×Str×Int)):Blk:=.map 145 3 (l.map fun e=>(keyV e.1 e.2.1,.v (.int .i64 e.2.2)))
structure SetOk (l:List Str):Prop where
 nodup:l.Nodup
 short:∀s∈l,s.length≤1000000000
structure SeenOk (l:List (Int×Str×Int)):Prop where
 nodup:(l.map fun e=>(e.1,e.2.1)).Nodup
 short:∀e∈l,(0≤e.1/\e.1≤2)/\e.2.1.length≤1000000000
def seenGet(l:List (Int×Str×Int))(k:Int)(s:Str):Option Int:=(l.find? fun e=>decide (e.1=k/\e.2.1=s)).map fun e=>e.2.2
theorem str_inj{a b:Str}(h:str a=str b):a=b:=by
 simp only[str,Value.string.injEq,ByteArray.mk.injEq]at h
 simpa using h
theorem keyV_inj{k j:Int}{a b:Str}(h:keyV k a=keyV j b):k=j/\a=b:=by
 simp only[keyV,Value.agg.injEq,Array.mk.injEq,List.cons.injEq,Value.int.injEq,true_and,and_true]at h
 exact⟨h.1,str_inj h.2⟩
theorem SetOk.nil:SetOk []:=⟨List.nodup_nil,by simp⟩
theorem SetOk.ins{l:List Str}{s:Str}(h:SetOk l)(hs:s.length≤1000000000):SetOk (ins l s):=by
 unfold Go.Proofs.YtcbhlhmebbkgnaaGreat.ins
 split
 ·exact h
 ·rename_i hn
  refine⟨List.nodup_append.2 ⟨h.nodup,by simp,fun a ha b hb e=>?_⟩,fun x hx=>?_⟩
  ·simp at hb;subst hb;subst e;exact hn ha
  ·simp at hx;rcases hx with hx|rfl
   ·exact h.short x hx
   ·exact hs
theorem SetOk.keys{l:List Str}(h:SetOk l):KeysOk Tryz.prog 9 (l.map fun s=>(str s,.v (.bool true))):=by
 intro j e he
 rw[List.getElem?_map]at he
 cases hq:l[j]? with
 | none=>rw[hq]at he;cases he
 | some s=>rw[hq]at he;cases he;exact keyS (h.short s (List.mem_of_getElem? hq))
theorem SeenOk.nil:SeenOk []:=⟨List.nodup_nil,by simp⟩
theorem SeenOk.keys{l:List (Int×Str×Int)}(h:SeenOk l):KeysOk Tryz.prog 145 (l.map fun e=>(keyV e.1 e.2.1,.v (.int .i64 e.2.2))):=by
 intro j e he
 rw[List.getElem?_map]at he
 cases hq:l[j]? with
 | none=>rw[hq]at he;cases he
 | some s=>rw[hq]at he;cases he;have:=h.short s (List.mem_of_getElem? hq);exact keyK this.1 this.2
theorem SeenOk.add{l:List (Int×Str×Int)}{k v:Int}{s:Str}(h:SeenOk l)(hk:0≤k/\k≤2)(hs:s.length≤1000000000)(hn:seenGet l k s=none):SeenOk (l++[(k,s,v)]):=by
 refine⟨?_,fun e he=>?_⟩
 ·rw[List.map_append]
  refine List.nodup_append.2 ⟨h.nodup,by simp,fun a ha b hb e=>?_⟩
  simp at hb;subst hb;subst e
  obtain⟨e,he,heq⟩:=List.mem_map.1 ha
  simp only[seenGet,Option.map_eq_none_iff,List.find?_eq_none,decide_eq_true_eq]at hn
  simp only[Prod.mk.injEq]at heq
  exact hn e he heq
 ·simp at he;rcases he with he|rfl
  ·exact h.short e he
  ·exact⟨hk,hs⟩
theorem set_get{l:List Str}(h:SetOk l)(s:Str):MapGet (l.map fun s=>(str s,T.v (.bool true))) (str s) (if s∈l then some (.v (.bool true)) else none):=by
 by_cases hm:s∈l
 ·rw[if_pos hm]
  obtain⟨j,hj⟩:=List.getElem?_of_mem hm
  refine⟨j,by simp[hj],fun j' t' h'=>?_⟩
  rw[List.getElem?_map]at h'
  cases hq:l[j']? with
  | none=>rw[hq]at h';cases h'
  | some x=>
    rw[hq]at h'
    simp only[Option.map_some,Option.some.injEq,Prod.mk.injEq]at h'
    have:=str_inj h'.1
    subst this
    exact(List.getElem?_inj (List.getElem?_eq_some_iff.1 hq).1 h.nodup).1 (hq.trans hj.symm)
 ·rw[if_neg hm]
  intro j e he e2
  rw[List.getElem?_map]at he
  cases hq:l[j]? with
  | none=>rw[hq]at he;cases he
  | some x=>
    rw[hq]at he;cases he
    have:=str_inj e2
    subst this
    exact hm (List.mem_of_getElem? hq)
theorem set_put{l:List Str}(h:SetOk l)(s:Str):MapPut (l.map fun s=>(str s,T.v (.bool true))) (str s) (.v (.bool true)) ((ins l s).map fun s=>(str s,T.v (.bool true))):=by
 have hg:=set_get h s
 unfold ins
 by_cases hm:s∈l
 ·rw[if_pos hm]at hg⊢
  obtain⟨j,hj,hu⟩:=hg
  refine .inl ⟨j,_,hj,hu,?_⟩
  have hlt:=(List.getElem?_eq_some_iff.1 hj)
  conv=>rhs;rw[<-hlt.2]
  rw[List.set_getElem_self]
 ·rw[if_neg hm]at hg⊢
  exact .inr ⟨hg,by simp⟩
theorem seen_get{l:List (Int×Str×Int)}(h:SeenOk l)(k:Int)(s:Str):MapGet (l.map fun e=>(keyV e.1 e.2.1,T.v (.int .i64 e.2.2))) (keyV k s) ((seenGet l k s).map fun v=>.v (.int .i64 v)):=by
 unfold seenGet
 cases hf:l.find? (fun e=>decide (e.1=k/\e.2.1=s)) with
 | none=>
   rw[List.find?_eq_none]at hf
   intro j e he e2
   rw[List.getElem?_map]at he
   cases hq:l[j]? with
   | none=>rw[hq]at he;cases he
   | some x=>
     rw[hq]at he;cases he
     exact hf x (List.mem_of_getElem? hq) (by simpa using keyV_inj e2)
 | some e=>
   have hm:=List.mem_of_find?_eq_some hf
   have hp:=List.find?_some hf
   simp only[decide_eq_true_eq]at hp
   obtain⟨j,hj⟩:=List.getElem?_of_mem hm
   refine⟨j,by simp[hj,hp.1,hp.2],fun j' t' h'=>?_⟩
   rw[List.getElem?_map]at h'
   cases hq:l[j']? with
   | none=>rw[hq]at h';cases h'
   | some x=>
     rw[hq]at h'
     simp only[Option.map_some,Option.some.injEq,Prod.mk.injEq]at h'
     have h1:=keyV_inj h'.1
     have e1:(l.map fun e=>(e.1,e.2.1))[j']?=some (k,s):=by simp[hq,h1.1,h1.2]
     have e2:(l.map fun e=>(e.1,e.2.1))[j]?=some (k,s):=by simp[hj,hp.1,hp.2]
     exact(List.getElem?_inj (List.getElem?_eq_some_iff.1 e1).1 h.nodup).1 (e1.trans e2.symm)
theorem key_rel{k:Int}{s:Str}{m:M}{v:Value}(h:SRel m (.t (.ag [.i k,.s s])) v):v=keyV k s:=by
 cases h with
 | t _ _ h=>
   cases h with
   | ag _ arr hs h1 h2=>
     obtain⟨l⟩:=arr
     match l,hs with
     | [a,b],_=>
       have ha:=h2 0 _ a rfl rfl
       have hb:=h2 1 _ b rfl rfl
       cases ha;cases hb
       rfl
section
variable {n:Nat}{env:Env}{K:TK}{all:Array Oper}{rest:List Oper}{d id:Nat}{ty:TypeId}{pos:String}{aft:Array Edge}{H:Heap}{x y w:Operand}{q:Bool}
theorem TO.setGet{l:List Str}{s:Str}(hd:Nat.ble (d+1) n=true)(hx:env.val x=some (.mp id))(hH:H[id]?=some (setB l))(hy:env.val y=some (.s s))(hl:SetOk l)(hs:s.length≤1000000000)
  (k1:s∈l->TO q Tryz.prog n all rest ((d,.b true)::env) H K)(k2:s ∉ l->TO q Tryz.prog n all rest ((d,.b false)::env) H K):
  TO q Tryz.prog n all (⟨some d,.lookup 61 x y false,ty,pos,aft,none⟩::rest) env H K:=by
 refine TO.lookup tabOk hd rfl rfl rfl rfl rfl kStr hx hH hl.keys hy (kx:=str s) (fun m v h=>h.v_eq) (keyS hs) (set_get hl s) ?_
 by_cases hm:s∈l
 ·rw[if_pos hm];exact k1 hm
 ·rw[if_neg hm];exact k2 hm
theorem TO.nilGet{s:Str}(hd:Nat.ble (d+1) n=true)(hx:env.val x=some (.t (.v (.map none))))(hy:env.val y=some (.s s))(hs:s.length≤1000000000)(k:TO q Tryz.prog n all rest ((d,.b false)::env) H K):
  TO q Tryz.prog n all (⟨some d,.lookup 61 x y false,ty,pos,aft,none⟩::rest) env H K:=
 TO.lookup_nil tabOk hd rfl rfl rfl rfl rfl kStr hx hy (kx:=str s) (fun m v h=>h.v_eq) (keyS hs) k
theorem TO.setPut{l:List Str}{s:Str}{H':Heap}(hx:env.val x=some (.mp id))(hH:H[id]?=some (setB l))(hy:env.val y=some (.s s))(hw:env.val w=some (.b true))(hl:SetOk l)(hs:s.length≤1000000000)
  (hH':setS H id (setB (ins l s))=some H')(k:TO false Tryz.prog n all rest env H' K):
  TO false Tryz.prog n all (⟨none,.mapUpdate 61 x y w,ty,pos,aft,none⟩::rest) env H K:=
 TO.mapUpdate tabOk rfl rfl kStr hx hH hl.keys hy (kx:=str s) (fun m v h=>h.v_eq) (keyS hs) hw rfl (set_put hl s) (setS_eq hH').symm k
theorem TO.seenLook{l:List (Int×Str×Int)}{s:Str}{k:Int}(hd:Nat.ble (d+1) n=true)(hx:env.val x=some (.mp id))(hH:H[id]?=some (seenB l))(hy:env.val y=some (.t (.ag [.i k,.s s])))(hl:SeenOk l)(hk:0≤k/\k≤2)(hs:s.length≤1000000000)
  (k1:∀v,seenGet l k s=some v->TO q Tryz.prog n all rest ((d,.tup [.i v,.b true])::env) H K)(k2:seenGet l k s=none->TO q Tryz.prog n all rest ((d,.tup [.i 0,.b false])::env) H K):
  TO q Tryz.prog n all (⟨some d,.lookup 140 x y true,ty,pos,aft,none⟩::rest) env H K:=by
 refine TO.lookup tabOk hd rfl rfl rfl rfl rfl kKey hx hH hl.keys hy (kx:=keyV k s) (fun m v h=>key_rel h) (keyK hk hs) (seen_get hl k s) ?_
 cases hg:seenGet l k s with
 | none=>exact k2 hg
 | some v=>exact k1 v hg
theorem TO.seenPut{l:List (Int×Str×Int)}{s:Str}{k v:Int}{H':Heap}(hx:env.val x=some (.mp id))(hH:H[id]?=some (seenB l))(hy:env.val y=some (.t (.ag [.i k,.s s])))(hw:env.val w=some (.i v))(hl:SeenOk l)(hn:seenGet l k s=none)(hk:0≤k/\k≤2)(hs:s.length≤1000000000)
  (hH':setS H id (seenB (l++[(k,s,v)]))=some H')(kk:TO false Tryz.prog n all rest env H' K):
  TO false Tryz.prog n all (⟨none,.mapUpdate 140 x y w,ty,pos,aft,none⟩::rest) env H K:=by
 have hg:=seen_get hl k s
 rw[hn]at hg
 exact TO.mapUpdate tabOk rfl rfl kKey hx hH hl.keys hy (kx:=keyV k s) (fun m v h=>key_rel h) (keyK hk hs) hw rfl (.inr ⟨hg,by rw[List.map_append];rfl⟩) (setS_eq hH').symm kk
end
end Go.Proofs.YtcbhlhmebbkgnaaGreat
