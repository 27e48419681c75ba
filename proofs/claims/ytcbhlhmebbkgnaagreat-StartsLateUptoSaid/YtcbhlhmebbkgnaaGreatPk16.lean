import Derived.Test.YtcbhlhmebbkgnaaGreatPk13
import Derived.Test.YtcbhlhmebbkgnaaGreatPk14
import Derived.Test.YtcbhlhmebbkgnaaGreatPk15
set_option linter.unusedSimpArgs false
set_option linter.unusedVariables false
namespace Go.Proofs.YtcbhlhmebbkgnaaGreat
open Go Go.TL
variable {H:Type}
def zsn:List TypeId:=[25,22,75,23,51,47,55,53,83,48,81,33,35,49,102,100,111,109,154,37,9,3,4,5]
theorem zob:zcf Tryz.prog zsn=true:=by kernel_rfl
theorem zsK:∀t∈zsn,zqz Tryz.prog t=true:=List.all_eq_true.1 (by kernel_rfl)
theorem zfT{P:Program}{t:TypeId}{ts:List TypeId}{ds:List (DataW H)}{ys:List T}(h:Fits P (t::ts) ds ys):∃d ds' y ys',ds=d::ds'/\ys=y::ys'/\(y=mkT (aggB P t) y.cells/\∃n,TyD P n t d y.cells)/\Fits P ts ds' ys':=by
 cases ds with
 | nil=>cases ys <;> exact h.elim
 | cons d ds=>cases ys with
   | nil=>exact h.elim
   | cons y ys=>exact⟨d,ds,y,ys,rfl,rfl,h.1,h.2⟩
theorem zn6{P:Program}{ds:List (DataW H)}{ys:List T}(h:Fits P [] ds ys):ds=[]/\ys=[]:=by
 cases ds <;> cases ys <;> first|exact⟨rfl,rfl⟩|exact h.elim
theorem zmn(d:DataW H)(ds:List (DataW H)):Rows.uptoBulkAll (d::ds)=Rows.uptoBulk d+Rows.uptoBulkAll ds:=by simp[Rows.uptoBulkAll]
theorem zq0{d:DataW H}{y:T}(h:y=mkT (aggB Tryz.prog 25) y.cells/\∃n,TyD Tryz.prog n 25 d y.cells):∃p:Prog,y= .ag (zav p)/\(T.ag (zav p)).w≤2*Rows.uptoBulk d:=by
 obtain⟨h1,n,h2⟩:=h
 obtain⟨p,hp⟩:=zt8 h2
 rw[zsB,hp]at h1
 have:=zsh zob zsK n _ (by decide +kernel) d y.cells h2
 refine⟨p,h1,?_⟩
 have hc:y.cells=zav p:=by rw[h1];rfl
 rw[hc]at this
 rw[w_ag];omega
theorem zvk{d:DataW H}{y:T}(h:y=mkT (aggB Tryz.prog 35) y.cells/\∃n,TyD Tryz.prog n 35 d y.cells):∃e:Ex,y= .ag (exC e):=by
 obtain⟨h1,n,h2⟩:=h
 obtain⟨e,he⟩:=zpW n n (Nat.le_refl _) _ _ h2
 rw[zox,he]at h1
 exact⟨e,h1⟩
theorem zuD{d:DataW H}{y:T}(h:y=mkT (aggB Tryz.prog 3) y.cells/\∃n,TyD Tryz.prog n 3 d y.cells):∃i:I64,y=T.n i:=by
 obtain⟨h1,n,h2⟩:=h
 obtain⟨i,hi⟩:=ty_i h2
 have ha:aggB Tryz.prog 3=false:=by unfold aggB;rw[Tryz.underlying3]
 rw[ha,hi]at h1
 exact⟨i,h1⟩
end Go.Proofs.YtcbhlhmebbkgnaaGreat
namespace Go.Proofs.YtcbhlhmebbkgnaaGreat
open Go Go.TL
attribute [local irreducible] TR TO Then zaw RetK Sound zab Kf GG zaZ
theorem wka{G Q:Prop}(k:Q)(h:Hold Q->G:=by
  (intro k;apply TO.ztL zam;(iterate 9 exact rfl);exact lb;exact k.p)):G:=h ⟨k⟩
theorem retQ{rs:List ResultVar}{env:Env}{H H1:Heap}{v:SV}{n q q' c c':Int}(h0:c'≠0)(hc:c'=c)(hq:q'=q)(hN:Nat.ble 1 H.length=true)(hb:zaf H.length H=true):
  RetK tab rs 1 (Err0 c v (zi8 n q c) H1 1) (.panic (zi8 n q' c')) env H:=by
 subst hc hq;exact RetK.errP h0 hN rfl hb
theorem zcQ{α:Type}{f:α->Int}{l:List α}{k:Nat}(hk:k<l.length)(h:zaa f (l.take k)=0)(hn:f l[k]≠0):za9 f l=((k:Int),f l[k]):=by
 conv=>lhs;rw[<-List.take_append_drop k l]
 rw[zgf,if_pos h,List.drop_eq_getElem_cons hk,zaa,if_neg hn,if_neg hn,za9,if_neg hn]
 simp;omega
theorem zdJ(n:Nod):(zac n.ins).w+(zac n.outs).w+(zac n.locals).w+(T.sl 7 (n.eqs.map equT)).w+(T.sl 1 (n.autos.map zaj)).w+(T.sl 6 (n.assume.map exT)).w+(T.sl 6 (n.ensure.map exT)).w≤(nodT n).w:=by
 rw[show nodT n= .ag (nodC n) from rfl,w_ag];simp only[nodC,List.map_cons,List.map_nil,List.sum_cons,List.sum_nil];omega
set_option maxHeartbeats 1000000 in
theorem zmP (es:List En) (a b i:Int) (n:Nod) (hw:(nodT n).w≤1000000000):
  Sound Tryz.prog 142 [.ref 0 0,.i i,.t (.ag (nodC n))] [zcy es a b] (Err (zbt es n).2 (.tup []) (zi8 i (zbt es n).1 (zbt es n).2) [zcy es i (-1)]):=by
 refine Sound.err rfl (fun _=>rfl) ?_
 have hwn:=zdJ n
 have l1:=zaq equT 7 n.eqs
 have l2:=zaq zaj 1 n.autos
 have l3:=zaq exT 6 n.assume
 have l4:=zaq exT 6 n.ensure
 have m1:(n.ins.map zah).length=n.ins.length:=List.length_map _
 have m2:(n.outs.map zah).length=n.outs.length:=List.length_map _
 have m3:(n.locals.map zah).length=n.locals.length:=List.length_map _
 have m4:(n.eqs.map equT).length=n.eqs.length:=List.length_map _
 have m5:(n.autos.map zaj).length=n.autos.length:=List.length_map _
 have m6:(n.assume.map exT).length=n.assume.length:=List.length_map _
 have m7:(n.ensure.map exT).length=n.ensure.length:=List.length_map _
 have hi:=zbY es i (-1) n.name
 have hd1:=zdo es i (-1) n.ins true (by omega)
 have hd2:=zdo es i (-1) n.outs true (by omega)
 have hd3:=zdo es i (-1) n.locals false (by omega)
 have heq:∀(q:Int) u,u∈n.eqs->LS 182 [.t (.ag (equC u))] es i q (equE es u):=fun q u hu=>zjA es i q u (by have:=zaC (f:=equT) (sz:=7) hu;omega)
 have hau:∀u,u∈n.autos->LS 183 [.t (.ag (zcg u)),.i 0] es i (-1) (zb5 es 3 u):=fun u hu=>zmX es i (-1) u (by have:=zaC (f:=zaj) (sz:=1) hu;omega)
 have hex:∀u,u∈n.assume\/u∈n.ensure->wEx u≤1000000000:=fun u hu=>by
  have:=zep u
  rcases hu with hu|hu
  ·have:=zaC (f:=exT) (sz:=6) hu;omega
  ·have:=zaC (f:=exT) (sz:=6) hu;omega
 have hz:zbt es n=zbt es n:=rfl
 conv at hz=>rhs;unfold zbt zek zgw orE
 generalize zbt es n=z at hz⊢
 unfold nodC
 clear hwn hw
 refine so Tryz.func142 ?_
 repeat' (first|refine wu ?_|exact wkc|intro hc|refine wk2 ?_ ?_|refine wm ?_|refine we hi ?_ ?_|refine we hd1 ?_ ?_|refine we hd2 ?_ ?_|refine we hd3 ?_ ?_|fail)
 all_goals first
  | ((repeat' (first|refine zab.panic ?_|refine wk ?_|fail));apply retQ;(first|assumption|decide);(clear hi hd1 hd2 hd3 heq hau hex;grind);(clear hi hd1 hd2 hd3 heq hau hex;grind);exact rfl;exact rfl)
  | skip
 refine TR.zal n.eqs.length (fun k=>zaa (equE es) (n.eqs.take k)=0) (fun k=>[(0,.ref 0 0),(5,.cp (nC n) 0),(80,.t (.sl 7 (n.eqs.map equT))),(81,.i (n.eqs.map equT).length),(82,.i k)]) (fun k=>[zcy es i ((k:Int)-1)]) rfl (fun k hlt ha=>?_) (fun ha=>?_)
 ·have hx:=zcP hlt
  have g1:=zan (f:=(equE es)) hlt ha
  have g2:=zai (f:=(equE es)) hlt ha
  have hs:=heq k _ (List.getElem_mem hlt)
  have g3:=zcQ (f:=equE es) hlt ha
  generalize n.eqs[k]=u at*
  unfold equC at hx hs
  repeat' (first|refine wkt ?_|refine wka ?_|refine wk ?_|exact wkc|intro hc|refine wk2 ?_ ?_|refine we hs ?_ ?_|fail)
  all_goals first
   | (refine zab.zak hlt (g2 hc) ?_ (by rw[show((k+1:Nat):Int)-1=k from by omega]);repeat' (first|exact trivial|refine And.intro rfl ?_|fail))
   | ((repeat' (first|refine zab.panic ?_|refine wk ?_|fail));apply retQ;(first|assumption|decide);(clear hs hi hd1 hd2 hd3 heq hau hex hx;grind);(clear hs hi hd1 hd2 hd3 heq hau hex hx;grind);exact rfl;exact rfl)
 have e1:=zar ha
 clear hi hd1 hd2 hd3 heq
 refine wk ?_
 repeat' (first|refine wu ?_|exact wkc|intro hc|refine wk2 ?_ ?_|fail)
 refine TR.zal n.autos.length (fun k=>zaa (zb5 es 3) (n.autos.take k)=0) (fun k=>[(0,.ref 0 0),(5,.cp (nC n) 0),(101,.t (.sl 1 (n.autos.map zaj))),(102,.i (n.autos.map zaj).length),(103,.i k)]) (fun k=>[zcy es i (-1)]) rfl (fun k hlt ha=>?_) (fun ha=>?_)
 ·have hx:=zdL hlt
  have g1:=zan (f:=(zb5 es 3)) hlt ha
  have g2:=zai (f:=(zb5 es 3)) hlt ha
  have hs:=hau _ (List.getElem_mem hlt)
  generalize n.autos[k]=u at*
  unfold zcg at hx hs
  repeat' (first|refine wu ?_|exact wkc|intro hc|refine wk2 ?_ ?_|refine we hs ?_ ?_|fail)
  all_goals first
   | exact zab.zak hlt (g2 hc)
   | ((repeat' (first|refine zab.panic ?_|refine wk ?_|fail));apply retQ;(first|assumption|decide);(clear hs hau hex hx;grind);(clear hs hau hex hx;grind);exact rfl;exact rfl)
 have e2:=zar ha
 clear hau
 refine wk ?_
 repeat' (first|refine wu ?_|exact wkc|intro hc|refine wk2 ?_ ?_|fail)
 refine TR.zal n.assume.length (fun k=>zaa (zaP es) (n.assume.take k)=0) (fun k=>[(0,.ref 0 0),(5,.cp (nC n) 0),(112,.t (.sl 6 (n.assume.map exT))),(113,.i (n.assume.map exT).length),(114,.i k)]) (fun k=>[zcy es i (-1)]) rfl (fun k hlt ha=>?_) (fun ha=>?_)
 ·have hx:=zbd hlt
  have g1:=zan (f:=(zaP es)) hlt ha
  have g2:=zai (f:=(zaP es)) hlt ha
  have hs:=zda es _ (hex _ (.inl (List.getElem_mem hlt)))
  rw[zaA]at hs
  generalize n.assume[k]=u at*
  unfold exC at hx hs
  have hr:=zd9 es i (-1) (zaP es u)
  generalize zaP es u=xe at*
  repeat' (first|refine wu ?_|exact wkc|intro hc|refine wk2 ?_ ?_|refine wv hs ?_|refine we hr ?_ ?_|fail)
  all_goals first
   | exact zab.zak hlt (g2 hc)
   | ((repeat' (first|refine zab.panic ?_|refine wk ?_|fail));apply retQ;(first|assumption|decide);(clear hs hr hex hx;grind);(clear hs hr hex hx;grind);exact rfl;exact rfl)
 have e3:=zar ha
 refine wk ?_
 repeat' (first|refine wu ?_|exact wkc|intro hc|refine wk2 ?_ ?_|fail)
 refine TR.zal n.ensure.length (fun k=>zaa (zaP es) (n.ensure.take k)=0) (fun k=>[(0,.ref 0 0),(5,.cp (nC n) 0),(128,.t (.sl 6 (n.ensure.map exT))),(129,.i (n.ensure.map exT).length),(130,.i k)]) (fun k=>[zcy es i (-1)]) rfl (fun k hlt ha=>?_) (fun ha=>?_)
 ·have hx:=zbd hlt
  have g1:=zan (f:=(zaP es)) hlt ha
  have g2:=zai (f:=(zaP es)) hlt ha
  have hs:=zda es _ (hex _ (.inr (List.getElem_mem hlt)))
  rw[zaA]at hs
  generalize n.ensure[k]=u at*
  unfold exC at hx hs
  have hr:=zd9 es i (-1) (zaP es u)
  generalize zaP es u=xe at*
  repeat' (first|refine wu ?_|exact wkc|intro hc|refine wk2 ?_ ?_|refine wv hs ?_|refine we hr ?_ ?_|fail)
  all_goals first
   | exact zab.zak hlt (g2 hc)
   | ((repeat' (first|refine zab.panic ?_|refine wk ?_|fail));apply retQ;(first|assumption|decide);(clear hs hr hex hx;grind);(clear hs hr hex hx;grind);exact rfl;exact rfl)
 have e4:=zar ha
 refine wk ?_
 repeat' (first|refine wu ?_|exact wkc|intro hc|refine wk2 ?_ ?_|fail)
 refine RetK.errN (vs:=[]) ?_ rfl (Le.refl _) rfl rfl rfl rfl rfl
 clear hex;grind
end Go.Proofs.YtcbhlhmebbkgnaaGreat
namespace Go.TL
open Go
section rules
variable {P:Program}{n:Nat}{env:Env}{H:Heap}{K:TK}{all:Array Oper}{rest:List Oper}{tab:Tab}{q:Bool}
variable {d:Nat}{ty:TypeId}{pos:String}{aft:Array Edge}
theorem TO.zms(hT:zaB P tab){t xt:TypeId}{i:TyI}{x:Operand}{s:SV}(hd:Nat.ble (d+1) n=true)(hx:env.val x=some (.ifc t s))(ht:tab.get t=some i)(ha:i.k.agg=true)
  (k:TO q P n all rest ((d,.tup [s,.b true])::env) H K):TO q P n all (⟨some d,.typeAssert x xt t true,ty,pos,aft,none⟩::rest) env H K:=
 TO.op hd (fun m ac h1 h2 h3=>by
  have hv:=h3.val hx
  generalize hq:ac.eval x=u at hv
  cases hv with
  | ifc _ _ y hy=>
    obtain⟨dd,ti,z,g1,g2,g3,g4,g5,g6,g7,g8,g9⟩:=(hT t i ht).ex
    refine⟨.tuple #[y,.bool true],fun w' hw'=>?_,?_⟩
    ·cases hk:i.k <;> rw[hk]at ha g3 <;> simp[TK'.agg]at ha <;> cases dd <;> simp[TK'.fits]at g3 <;> simp[execOp,hq,Instr.typeAssert,run_underlying g1]
    ·refine .tup _ _ rfl fun j c z hc hz=>?_
     match j with
     | 0=>simp at hc hz;subst hc hz;exact hy
     | 1=>simp at hc hz;subst hc hz;exact .t _ _ (.v _)
     | j+2=>simp at hc) k
theorem TO.zjT(hT:zaB P tab){t xt:TypeId}{i:TyI}{x:Operand}(hd:Nat.ble (d+1) n=true)(hx:env.val x=some (.t (.v .nilIface)))(ht:tab.get t=some i)(ha:i.k.agg=true)
  (k:TO q P n all rest ((d,.tup [.t (.ag i.zero),.b false])::env) H K):TO q P n all (⟨some d,.typeAssert x xt t true,ty,pos,aft,none⟩::rest) env H K:=
 TO.op hd (fun m ac h1 h2 h3=>by
  have hv:=h3.val hx
  generalize hq:ac.eval x=u at hv
  have hu:=hv.v_eq
  subst hu
  obtain⟨dd,ti,z,g1,g2,g3,g4,g5,g6,g7,g8,g9⟩:=(hT t i ht).ex
  obtain⟨cs,rfl⟩:=g8 ha
  obtain⟨z1,z2,z3⟩:=zbs (A:=m.A) (w:=m.w) _ _ g7
  refine⟨.tuple #[.agg cs,.bool false],fun w' hw'=>?_,?_⟩
  ·have hz:(zeroValue t).run P w'= .ok (.agg cs) w':=by simp[zeroValue,typeInfo,g2,g6]
   cases hk:i.k <;> rw[hk]at ha g3 <;> simp[TK'.agg]at ha <;> cases dd <;> simp[TK'.fits]at g3 <;> simp[execOp,hq,Instr.typeAssert,run_underlying g1,hz]
  ·refine .tup _ _ rfl fun j c z hc hz=>?_
   match j with
   | 0=>
     simp at hc hz;subst hc hz
     refine .t _ _ (.ag _ _ (by simpa [Value.cells]using z1.symm) (fun i y hy=>z2 i y (by simpa [Value.cells]using hy)) fun i c y hc hy=>z3 i c y hc (by simpa [Value.cells]using hy))
   | 1=>simp at hc hz;subst hc hz;exact .t _ _ (.v _)
   | j+2=>simp at hc) k
end rules
end Go.TL
namespace Go.Proofs.YtcbhlhmebbkgnaaGreat
open Go Go.TL
attribute [local irreducible] TR TO Then zaw RetK Sound zab Kf GG zaZ
theorem zgF(n q c:Int)(a b d:SV)(Hr:Heap)(hb:zaf (Hr.length+2) Hr=true):
  zdr Tryz.prog 139 [.ref 0 0,.ref 1 0] (.cells [a,b]:: .cells [d]::Hr) (some (zi8 n q c)) (fun H3=>H3= .cells [.i n,.i q]:: .cells [.i c]::Hr):=by
 refine zdr.of (tab:=tab) Tryz.func139 (by kernel_rfl) rfl rfl rfl rfl ?_
 repeat' (first|refine wu ?_|exact wkc|intro hc|refine wk2 ?_ ?_|(apply TO.zms zam;(iterate 4 exact rfl))|fail)
 refine Then.normal ?_
 repeat' (first|refine wkt ?_|fail)
 refine TR.zc5 (envF:=?envF) (HF:=.cells [.i n,.i q]:: .cells [.i c]::Hr) [(.cp [T.i n,T.i q,T.i c] 0,false),(.t (.ag [T.i n,T.i q]),false),(.cp [T.i n,T.i q,T.i c] 2,false),(.i c,false),(.any,true),(.any,true)] [.cells [a,b]:: .cells [d]::Hr,.cells [.i n,.i q]:: .cells [d]::Hr,.cells [.i n,.i q]:: .cells [.i c]::Hr] hmix ?hB ?h0 ?hp ?hF ?hE ?hK
 case hB=>(dsimp only[List.map];decide +kernel)
 case h0=>exact rfl
 case hF=>exact rfl
 case hE=>exact rfl
 case hp=>repeat' (first|refine wu ?_|exact trivial|exact And.intro rfl rfl|refine And.intro (fun H env=>?_) ?_|refine And.intro (fun env=>?_) ?_|fail)
 repeat' (first|refine wu ?_|exact wkc|intro hc|refine wk2 ?_ ?_|fail)
 have ht:(Blk.cells [.i n,.i q]::Blk.cells [.i c]::Hr).take (Blk.cells [a,b]::Blk.cells [d]::Hr).length=Blk.cells [.i n,.i q]::Blk.cells [.i c]::Hr:=by simp
 refine⟨Nat.le_refl _,?_,ht⟩
 show zaf _ (List.take _ (Blk.cells [.i n,.i q]::Blk.cells [.i c]::Hr))=true
 rw[ht]
 exact hb
theorem zo6(H:Heap)(hb:zaf H.length H=true):
  zdr Tryz.prog 139 [.ref 0 0,.ref 1 0] H none (fun H3=>H3=H):=by
 refine zdr.of (tab:=tab) Tryz.func139 (by kernel_rfl) rfl rfl rfl rfl ?_
 repeat' (first|refine wu ?_|exact wkc|intro hc|refine wk2 ?_ ?_|(apply TO.zjT zam;(iterate 4 exact rfl))|fail)
 refine Then.normal ?_
 repeat' (first|refine wu ?_|exact wkc|intro hc|refine wk2 ?_ ?_|fail)
 exact⟨Nat.le_refl _,by rw[List.take_of_length_le (Nat.le_refl _)];exact hb,List.take_of_length_le (Nat.le_refl _)⟩
theorem we3{G Q1 Q2:Prop}{f:FuncId}{cargs:List SV}{v pv:SV}{c:Int}{Hc H1:Heap}(hs:Sound Tryz.prog f cargs Hc (Err c v pv H1))(k1:Q1)(k2:Q2)(h:Sound Tryz.prog f cargs Hc (Err c v pv H1)->Hold Q1->Hold Q2->G:=by
  intro hs k1 k2
  (apply TO.zkM [2] hs;(iterate 3 exact rfl);(repeat' (first|exact trivial|exact Le.refl _|refine And.intro ?_ ?_|exact Le.any _|exact Le.nil _|exact Le.own _ _ _|refine Le.tree rfl ?_|exact TLe.refl _|exact TLe.nil _|refine TLe.ags ?_|fail));exact rfl;exact Hands.one rfl rfl;(iterate 4 exact rfl);exact k1.p;exact k2.p)):G:=h hs ⟨k1⟩ ⟨k2⟩
theorem zlO(p:Prog)(hw:(T.ag (zav p)).w≤1000000000):Pure Tryz.prog 96 [.t (.ag (zav p))] (.tup [.t (.ag [T.i (zaR p).1.1,T.i (zaR p).1.2]),.i (zaR p).2]):=by
 have l1:(T.sl 2 (p.enums.map enT)).w+(zag p.nodes).w≤(T.ag (zav p)).w:=by rw[w_ag];simp only[zav,List.map_cons,List.map_nil,List.sum_cons,List.sum_nil];omega
 refine Sound.zra zam Tryz.func96 (by kernel_rfl) rfl rfl (gf:=139) (cv:=[.ref 0 0,.ref 1 0]) ?_
 unfold zav
 refine TD.seq ?_
 repeat' (first|refine wu ?_|fail)
 show TD _ _ (.seq _ _) _ _ _ _ _ _
 refine TD.defer (tz:=0) rfl rfl ?_
 have m1:(p.enums.map enT).length=p.enums.length:=List.length_map _
 have m2:(p.nodes.map nodT).length=p.nodes.length:=List.length_map _
 have b1:=zaq enT 2 p.enums
 have b2:=zaq nodT 8 p.nodes
 have hen:∀(n q:Int) u,u∈p.enums->LS 141 [.t (.ag [.s u.name,.sl 1 (u.tags.map T.s)])] p.enums n q (zdm u):=fun n q u hu=>znz p.enums n q u (by
  have:=zaC (f:=enT) (sz:=2) hu
  rw[enT,w_ag]at this;simp only[List.map_cons,List.map_nil,List.sum_cons,List.sum_nil]at this
  have:=zaq T.s 1 u.tags
  omega)
 have hno:∀(a b i:Int) u,u∈p.nodes->Sound Tryz.prog 142 [.ref 0 0,.i i,.t (.ag (nodC u))] [zcy p.enums a b] (Err (zbt p.enums u).2 (.tup []) (zi8 i (zbt p.enums u).1 (zbt p.enums u).2) [zcy p.enums i (-1)]):=fun a b i u hu=>zmP p.enums a b i u (by
  have:=zaC (f:=nodT) (sz:=8) hu
  have:(zag p.nodes).w=(T.sl 8 (p.nodes.map nodT)).w:=rfl
  omega)
 have hz:zaR p=zaR p:=rfl
 conv at hz=>rhs;unfold zaR limE
 generalize zaR p=z at hz⊢
 refine wk ?_
 repeat' (first|refine wkt ?_|refine wka ?_|refine wk ?_|exact wkc|intro hc|refine wk2 ?_ ?_|(apply TO.zrH [2] (zrq p.enums (-1) (-1) 3);(iterate 3 exact rfl);exact⟨Le.refl _,Le.refl _,Le.refl _,trivial⟩;exact rfl;exact Hands.one rfl rfl;exact rfl;exact rfl)|refine we3 (zq7 p.enums (-1) (-1) 3 (by decide)) ?_ ?_|fail)
 all_goals first
  | (have hzz:z=((-1,-1),3):=by rw[hz];clear hen hno;grind
     subst hzz
     exact⟨_,zgF _ _ _ _ _ _ _ rfl,fun H3 h=>by subst h;exact wkr⟩)
  | skip
 rw[if_neg (by clear hen hno hz;simp;omega)]at hz
 refine TR.zal p.enums.length (fun k=>zaa zdm (p.enums.take k)=0) (fun k=>[(1,.cp [.sl 2 (p.enums.map enT),zag p.nodes] 0),(2,.ref 0 0),(3,.ref 1 0),(4,.ref 2 0),(28,.t (.sl 2 (p.enums.map enT))),(29,.i (p.enums.map enT).length),(30,.i k)])
  (fun k=>[.cells [.i 0,.i 0],.cells [.i 0],zcy p.enums (-1) (-1)]) rfl (fun k hlt ha=>?_) (fun ha=>?_)
 ·have hx:(p.enums.map enT)[k]?=some (.ag [.s p.enums[k].name,.sl 1 (p.enums[k].tags.map T.s)]):=zaX enT hlt
  have g1:=zan (f:=zdm) hlt ha
  have g2:=zai (f:=zdm) hlt ha
  have hs:=hen (-1) (-1) _ (List.getElem_mem hlt)
  generalize p.enums[k]=u at*
  clear hen hno
  repeat' (first|refine wkt ?_|refine wka ?_|refine wk ?_|exact wkc|intro hc|refine wk2 ?_ ?_|refine we3 hs ?_ ?_|fail)
  ·exact zab.zak hlt (g2 hc)
  ·rw[if_pos (by rw[g1 hc];exact hc),g1 hc]at hz
   subst hz
   refine zab.panic ?_
   refine wk ?_
   exact⟨_,zgF _ _ _ _ _ _ _ rfl,fun H3 h=>by subst h;exact wkr⟩
 have e1:=zar ha
 rw[if_neg (by simp[e1])]at hz
 clear hen
 refine wk ?_
 repeat' (first|refine wu ?_|exact wkc|intro hc|refine wk2 ?_ ?_|fail)
 refine TR.zal p.nodes.length (fun k=>zaa (fun n=>(zbt p.enums n).2) (p.nodes.take k)=0) (fun k=>[(2,.ref 0 0),(3,.ref 1 0),(4,.ref 2 0),(39,.t (zag p.nodes)),(40,.i (p.nodes.map nodT).length),(41,.i k)])
  (fun k=>[.cells [.i 0,.i 0],.cells [.i 0],zcy p.enums ((k:Int)-1) (-1)]) rfl (fun k hlt ha=>?_) (fun ha=>?_)
 ·have hx:=zb7 hlt
  have g1:=zan (f:=fun n=>(zbt p.enums n).2) hlt ha
  have g2:=zai (f:=fun n=>(zbt p.enums n).2) hlt ha
  have g3:=zcQ (f:=fun n=>(zbt p.enums n).2) hlt ha
  have hs:=hno ((k:Int)-1) (-1) k _ (List.getElem_mem hlt)
  have hat:p.nodes[k]?=some p.nodes[k]:=List.getElem?_eq_getElem hlt
  generalize p.nodes[k]=u at*
  clear hno
  unfold nodC at hx hs
  repeat' (first|refine wkt ?_|refine wka ?_|refine wk ?_|exact wkc|intro hc|refine wk2 ?_ ?_|refine we3 hs ?_ ?_|fail)
  ·refine zab.zak hlt (g2 hc) ?_ (by rw[show((k+1:Nat):Int)-1=k from by omega];rfl)
   repeat' (first|exact trivial|refine And.intro rfl ?_|fail)
  ·rw[if_neg (by rw[g1 hc];exact hc),g3 hc,g1 hc]at hz
   simp only[Int.toNat_natCast,hat,Option.map_some,Option.getD_some]at hz
   subst hz
   refine zab.panic ?_
   refine wk ?_
   exact⟨_,zgF _ _ _ _ _ _ _ rfl,fun H3 h=>by subst h;exact wkr⟩
 have e2:=zar ha
 rw[if_pos e2]at hz
 subst hz
 refine wk ?_
 repeat' (first|refine wu ?_|exact wkc|intro hc|refine wk2 ?_ ?_|fail)
 exact⟨_,zo6 _ rfl,fun H3 h=>by subst h;exact wkr⟩
theorem zm9(u:En)(hw:u.tags.length≤1000000000):Pure Tryz.prog 156 [.t (.ag [.s u.name,.sl 1 (u.tags.map T.s)])] (.i (zdm u)):=by
 have hi:=zbD u.name
 have hml:(u.tags.map T.s).length=u.tags.length:=List.length_map _
 have hz:zdm u=zdm u:=rfl
 conv at hz=>rhs;unfold zdm orE
 have hq0:za3 u.name=(if ident u.name=true then 0 else 6):=rfl
 generalize zdm u=z at hz⊢
 refine so Tryz.func156 ?_
 repeat' (first|refine wu ?_|exact wkc|intro hc|refine wk2 ?_ ?_|refine wb hi ?_ ?_|fail)
 all_goals first
  | ((repeat' (first|refine zab.ret ?_|refine wk ?_|fail));refine RetK.pure rfl (Le.of_eq ?_) rfl;clear hi;refine congrArg (fun z=>SV.t (T.v (Value.int IntKind.i64 z))) ?_;grind)
  | skip
 have hz2:z=zaa za3 u.tags:=by rw[hz];clear hi;grind
 clear hz
 generalize u.tags=l at*
 refine TR.zal l.length (fun k=>zaa za3 (l.take k)=0) (fun k=>[(1,.cp [.s u.name,.sl 1 (l.map T.s)] 0),(3,.i k)]) (fun _=>[]) rfl (fun k hlt ha=>?_) (fun ha=>?_)
 ·have hx:=at_s hlt
  have g1:=zan (f:=za3) hlt ha
  have g2:=zai (f:=za3) hlt ha
  generalize l[k]=x at*
  have hs:=zbD x
  have hq:za3 x=za3 x:=rfl
  conv at hq=>rhs;unfold za3
  generalize za3 x=xe at*
  repeat' (first|refine wu ?_|exact wkc|intro hc|refine wk2 ?_ ?_|refine wb hs ?_ ?_|fail)
  all_goals first
   | exact zab.zak hlt (g2 (by clear hs hi;grind))
   | ((repeat' (first|refine zab.ret ?_|refine wk ?_|fail));refine RetK.pure rfl (Le.of_eq ?_) rfl;clear hs hi hx;refine congrArg (fun z=>SV.t (T.v (Value.int IntKind.i64 z))) ?_;grind)
 ·have e1:=zar ha
  repeat' (first|refine wu ?_|exact wkc|intro hc|refine wk2 ?_ ?_|fail)
  all_goals((repeat' (first|refine zab.ret ?_|refine wk ?_|fail));refine RetK.pure rfl (Le.of_eq ?_) rfl;clear hi;refine congrArg (fun z=>SV.t (T.v (Value.int IntKind.i64 z))) ?_;grind)
theorem znA(es:List En)(d:Decl)(port:Bool)(hw:d.clock.length≤1000000000):Pure Tryz.prog 219 [.t (ensT es),.t (.ag (zb4 d)),.b port] (.i (zcT es port d)):=by
 have hi:=zbD d.name
 have hv:=zij es d.ty
 have hml:(d.clock.map onT).length=d.clock.length:=List.length_map _
 have hz:zcT es port d=zcT es port d:=rfl
 conv at hz=>rhs;unfold zcT orE za3
 generalize zcT es port d=z at hz⊢
 unfold zb4
 refine so Tryz.func219 ?_
 cases port
 all_goals
  repeat' (first|refine wu ?_|exact wkc|intro hc|refine wk2 ?_ ?_|refine wb hi ?_ ?_|refine wb hv ?_ ?_|fail)
 all_goals first
  | ((repeat' (first|refine zab.ret ?_|refine wk ?_|fail));refine RetK.pure rfl (Le.of_eq ?_) rfl;clear hi hv;refine congrArg (fun z=>SV.t (T.v (Value.int IntKind.i64 z))) ?_;grind)
  | skip
 all_goals
  have hz2:z=zaa (onE es) d.clock:=by rw[hz];clear hi hv;grind
  clear hz
  generalize d.clock=l at*
  refine TR.zal l.length (fun k=>zaa (onE es) (l.take k)=0) (fun k=>[(0,.t (ensT es)),(4,.cp [.s d.name,T.n d.ty,.sl 3 (l.map onT)] 0),(7,.i k)]) (fun _=>[]) rfl (fun k hlt ha=>?_) (fun ha=>?_)
  ·have hx:=zmR hlt
   have g1:=zan (f:=onE es) hlt ha
   have g2:=zai (f:=onE es) hlt ha
   generalize l[k]=x at*
   have hs:=zbD x.name
   have hh:=zjQ es x.t x.tag
   have hq:onE es x=onE es x:=rfl
   conv at hq=>rhs;unfold onE orE za3
   generalize onE es x=xe at*
   repeat' (first|refine wu ?_|exact wkc|intro hc|refine wk2 ?_ ?_|refine wb hs ?_ ?_|refine wb hh ?_ ?_|fail)
   all_goals first
    | exact zab.zak hlt (g2 (by clear hs hi hv hh;grind))
    | ((repeat' (first|refine zab.ret ?_|refine wk ?_|fail));refine RetK.pure rfl (Le.of_eq ?_) rfl;clear hs hi hx hv hh;refine congrArg (fun z=>SV.t (T.v (Value.int IntKind.i64 z))) ?_;grind)
  ·have e1:=zar ha
   repeat' (first|refine wu ?_|exact wkc|intro hc|refine wk2 ?_ ?_|fail)
   all_goals((repeat' (first|refine zab.ret ?_|refine wk ?_|fail));refine RetK.pure rfl (Le.of_eq ?_) rfl;clear hi hv;refine congrArg (fun z=>SV.t (T.v (Value.int IntKind.i64 z))) ?_;grind)
theorem zdy(es:List En)(l:List Decl)(port:Bool)(hw:(zac l).w≤1000000000):Pure Tryz.prog 192 [.t (ensT es),.t (zac l),.b port] (.i (zaa (zcT es port) l)):=by
 have hml:(l.map zah).length=l.length:=List.length_map _
 have hlb:l.length≤1000000000:=Nat.le_trans (Nat.le_of_lt (zaq zah 3 l)) hw
 refine so Tryz.func192 ?_
 repeat' (first|refine wu ?_|exact wkc|intro hc|refine wk2 ?_ ?_|fail)
 refine TR.zal l.length (fun k=>zaa (zcT es port) (l.take k)=0) (fun k=>[(0,.t (ensT es)),(1,.t (zac l)),(2,.b port),(7,.i k)]) (fun _=>[]) rfl (fun k hlt ha=>?_) (fun ha=>?_)
 ·have hx:=zbh hlt
  have g1:=zan (f:=zcT es port) hlt ha
  have g2:=zai (f:=zcT es port) hlt ha
  have hcl:=zaq onT 3 l[k].clock
  have hwx:=zaC (f:=zah) (sz:=3) (List.getElem_mem hlt)
  rw[show zah l[k]= .ag (zb4 l[k]) from rfl,w_ag]at hwx
  simp only[zb4,List.map_cons,List.map_nil,List.sum_cons,List.sum_nil]at hwx
  have hs:=znA es l[k] port (by have:(zac l).w=(T.sl 3 (l.map zah)).w:=rfl;omega)
  generalize zcT es port l[k]=xe at*
  generalize l[k]=x at*
  unfold zb4 at hx hs
  repeat' (first|refine wu ?_|exact wkc|intro hc|refine wk2 ?_ ?_|refine wv hs ?_|fail)
  all_goals first
   | exact zab.zak hlt (g2 (by clear hs;omega))
   | ((repeat' (first|refine zab.ret ?_|refine wk ?_|fail));refine RetK.pure rfl (Le.of_eq ?_) rfl;clear hs hx;refine congrArg (fun z=>SV.t (T.v (Value.int IntKind.i64 z))) ?_;grind)
 ·have e1:=zar ha
  repeat' (first|refine wu ?_|exact wkc|intro hc|refine wk2 ?_ ?_|fail)
  all_goals((repeat' (first|refine zab.ret ?_|refine wk ?_|fail));refine RetK.pure rfl (Le.of_eq ?_) rfl;clear hml;refine congrArg (fun z=>SV.t (T.v (Value.int IntKind.i64 z))) ?_;grind)
theorem zkb(es:List En)(u:Equ)(hw:(equT u).w≤1000000000):Pure Tryz.prog 158 [.t (ensT es),.t (.ag (equC u))] (.i (equE es u)):=by
 have hx:=zde es u.right (Nat.le_trans zkl hw)
 have hlb:u.left.length≤1000000000:=Nat.le_trans zbE hw
 have hml:(u.left.map T.s).length=u.left.length:=List.length_map _
 have hz:equE es u=equE es u:=rfl
 conv at hz=>rhs;unfold equE orE
 rw[zaA]at hx
 unfold exC at hx
 unfold equC
 generalize equE es u=z at hz⊢
 generalize zaP es u.right=xe at*
 refine so Tryz.func158 ?_
 repeat' (first|refine wu ?_|exact wkc|intro hc|refine wk2 ?_ ?_|fail)
 all_goals first
  | ((repeat' (first|refine zab.ret ?_|refine wk ?_|fail));refine RetK.pure rfl (Le.of_eq ?_) rfl;clear hx;refine congrArg (fun z=>SV.t (T.v (Value.int IntKind.i64 z))) ?_;grind)
  | skip
 generalize u.left=l at*
 refine TR.zal l.length (fun k=>zaa za3 (l.take k)=0) (fun k=>[(0,.t (ensT es)),(3,.cp [.sl 1 (l.map T.s),T.n u.right.kind,T.n u.right.op,T.n u.right.t,T.n u.right.v,.s u.right.name,.sl 6 (u.right.args.map exT)] 0),(5,.i k)]) (fun _=>[]) rfl (fun k hlt ha=>?_) (fun ha=>?_)
 ·have hy:=at_s hlt
  have g1:=zan (f:=za3) hlt ha
  have g2:=zai (f:=za3) hlt ha
  generalize l[k]=x at*
  have hs:=zbD x
  have hq:za3 x=za3 x:=rfl
  conv at hq=>rhs;unfold za3
  generalize za3 x=ye at*
  repeat' (first|refine wu ?_|exact wkc|intro hc|refine wk2 ?_ ?_|refine wb hs ?_ ?_|fail)
  all_goals first
   | exact zab.zak hlt (g2 (by clear hs hx;grind))
   | ((repeat' (first|refine zab.ret ?_|refine wk ?_|fail));refine RetK.pure rfl (Le.of_eq ?_) rfl;clear hs hx hy;refine congrArg (fun z=>SV.t (T.v (Value.int IntKind.i64 z))) ?_;grind)
 ·have e1:=zar ha
  repeat' (first|refine wu ?_|exact wkc|intro hc|refine wk2 ?_ ?_|refine wv hx ?_|fail)
  all_goals((repeat' (first|refine zab.ret ?_|refine wk ?_|fail));refine RetK.pure rfl (Le.of_eq ?_) rfl;clear hx;refine congrArg (fun z=>SV.t (T.v (Value.int IntKind.i64 z))) ?_;grind)
theorem zhk(es:List En)(l:List Tran)(states:Int)(strong:Bool)(hw:(T.sl 8 (l.map zat)).w≤1000000000):Pure Tryz.prog 228 [.t (ensT es),.t (.sl 8 (l.map zat)),.i states,.b strong] (.i (zaa (zdY es states strong) l)):=by
 have hml:(l.map zat).length=l.length:=List.length_map _
 have hlb:l.length≤1000000000:=Nat.le_trans (Nat.le_of_lt (zaq zat 8 l)) hw
 refine so Tryz.func228 ?_
 repeat' (first|refine wu ?_|exact wkc|intro hc|refine wk2 ?_ ?_|fail)
 refine TR.zal l.length (fun k=>zaa (zdY es states strong) (l.take k)=0) (fun k=>[(0,.t (ensT es)),(1,.t (.sl 8 (l.map zat))),(2,.i states),(3,.b strong),(9,.i k)]) (fun _=>[]) rfl (fun k hlt ha=>?_) (fun ha=>?_)
 ·have hx:=zky hlt
  have g1:=zan (f:=zdY es states strong) hlt ha
  have g2:=zai (f:=zdY es states strong) hlt ha
  have hwx:=zaC (f:=zat) (sz:=8) (List.getElem_mem hlt)
  generalize l[k]=x at*
  have hwe:wEx x.cond≤1000000000:=by have:=zhG (t:=x);omega
  have hex:=zde es x.cond hwe
  have hst:=zhr x.cond hwe
  rw[zaA]at hex
  unfold exC at hex hst
  unfold zgC at hx
  have hz:zdY es states strong x=zdY es states strong x:=rfl
  conv at hz=>rhs;unfold zdY orE
  generalize zdY es states strong x=z at*
  generalize zaP es x.cond=xe at*
  generalize sless x.cond=sl at*
  cases strong
  all_goals
   repeat' (first|refine wu ?_|exact wkc|intro hc|refine wk2 ?_ ?_|refine wv hex ?_|refine wb hst ?_ ?_|fail)
  all_goals first
   | exact zab.zak hlt (g2 (by clear hex hst;grind))
   | ((repeat' (first|refine zab.ret ?_|refine wk ?_|fail));refine RetK.pure rfl (Le.of_eq ?_) rfl;clear hex hst hx;refine congrArg (fun z=>SV.t (T.v (Value.int IntKind.i64 z))) ?_;grind)
 ·have e1:=zar ha
  repeat' (first|refine wu ?_|exact wkc|intro hc|refine wk2 ?_ ?_|fail)
  all_goals((repeat' (first|refine zab.ret ?_|refine wk ?_|fail));refine RetK.pure rfl (Le.of_eq ?_) rfl;clear hml;refine congrArg (fun z=>SV.t (T.v (Value.int IntKind.i64 z))) ?_;grind)
theorem zqB(es:List En)(F:Auto->Int)(d:Int)(hd:0≤d/\d≤100)(hau:∀x,(zaj x).w≤1000000000->Pure Tryz.prog 193 [.t (ensT es),.t (.ag (zcg x)),.i (d+1)] (.i (F x)))
  (x:Sta)(n:Int)(hw:(staT x).w≤1000000000):Pure Tryz.prog 220 [.t (ensT es),.t (.ag (staC x)),.i n,.i d] (.i (stE es F n x)):=by
 have hws:=zfd x
 have hl1:=zaq equT 7 x.eqs
 have hl2:=zaq zaj 1 x.autos
 have m1:(x.locals.map zah).length=x.locals.length:=List.length_map _
 have m2:(x.eqs.map equT).length=x.eqs.length:=List.length_map _
 have m3:(x.autos.map zaj).length=x.autos.length:=List.length_map _
 have m4:(x.unl.map zat).length=x.unl.length:=List.length_map _
 have m5:(x.unt.map zat).length=x.unt.length:=List.length_map _
 have hi:=zbD x.name
 have hd1:=zdy es x.locals false (by omega)
 have ht1:=zhk es x.unl n true (by omega)
 have ht2:=zhk es x.unt n false (by omega)
 have heq:∀u,u∈x.eqs->Pure Tryz.prog 158 [.t (ensT es),.t (.ag (equC u))] (.i (equE es u)):=fun u hu=>zkb es u (by have:=zaC (f:=equT) (sz:=7) hu;omega)
 have hau2:∀u,u∈x.autos->Pure Tryz.prog 193 [.t (ensT es),.t (.ag (zcg u)),.i (d+1)] (.i (F u)):=fun u hu=>hau u (by have:=zaC (f:=zaj) (sz:=1) hu;omega)
 clear hau
 have hz:stE es F n x=stE es F n x:=rfl
 conv at hz=>rhs;unfold stE orE
 have hq0:za3 x.name=(if ident x.name=true then 0 else 6):=rfl
 generalize stE es F n x=z at hz⊢
 unfold staC
 refine so Tryz.func220 ?_
 repeat' (first|refine wu ?_|exact wkc|intro hc|refine wk2 ?_ ?_|refine wb hi ?_ ?_|refine wv hd1 ?_|fail)
 all_goals first
  | ((repeat' (first|refine zab.ret ?_|refine wk ?_|fail));refine RetK.pure rfl (Le.of_eq ?_) rfl;clear hi hd1 ht1 ht2 heq hau2;refine congrArg (fun z=>SV.t (T.v (Value.int IntKind.i64 z))) ?_;grind)
  | skip
 refine TR.zal x.eqs.length (fun k=>zaa (equE es) (x.eqs.take k)=0) (fun k=>[(0,.t (ensT es)),(2,.i n),(3,.i d),(5,.cp [.s x.name,zac x.locals,.sl 7 (x.eqs.map equT),.sl 1 (x.autos.map zaj),.sl 8 (x.unl.map zat),.sl 8 (x.unt.map zat)] 0),(10,.i k)]) (fun _=>[]) rfl (fun k hlt ha=>?_) (fun ha=>?_)
 ·have hx:=zcP hlt
  have g1:=zan (f:=equE es) hlt ha
  have g2:=zai (f:=equE es) hlt ha
  have hs:=heq _ (List.getElem_mem hlt)
  generalize equE es x.eqs[k]=xe at*
  generalize x.eqs[k]=u at*
  unfold equC at hx hs
  repeat' (first|refine wu ?_|exact wkc|intro hc|refine wk2 ?_ ?_|refine wv hs ?_|fail)
  all_goals first
   | exact zab.zak hlt (g2 (by clear hi hd1 ht1 ht2 heq hau2 hs;omega))
   | ((repeat' (first|refine zab.ret ?_|refine wk ?_|fail));refine RetK.pure rfl (Le.of_eq ?_) rfl;clear hs hx hi hd1 ht1 ht2 heq hau2;refine congrArg (fun z=>SV.t (T.v (Value.int IntKind.i64 z))) ?_;grind)
 have e1:=zar ha
 refine wk ?_
 repeat' (first|refine wu ?_|exact wkc|intro hc|refine wk2 ?_ ?_|fail)
 refine TR.zal x.autos.length (fun k=>zaa F (x.autos.take k)=0) (fun k=>[(0,.t (ensT es)),(2,.i n),(3,.i d),(5,.cp [.s x.name,zac x.locals,.sl 7 (x.eqs.map equT),.sl 1 (x.autos.map zaj),.sl 8 (x.unl.map zat),.sl 8 (x.unt.map zat)] 0),(11,.i k)]) (fun _=>[]) rfl (fun k hlt ha=>?_) (fun ha=>?_)
 ·have hx:=zdL hlt
  have g1:=zan (f:=F) hlt ha
  have g2:=zai (f:=F) hlt ha
  have hs:=hau2 _ (List.getElem_mem hlt)
  generalize F x.autos[k]=xe at*
  generalize x.autos[k]=u at*
  unfold zcg at hx hs
  repeat' (first|refine wu ?_|exact wkc|intro hc|refine wk2 ?_ ?_|refine wv hs ?_|fail)
  all_goals first
   | exact zab.zak hlt (g2 (by clear hi hd1 ht1 ht2 heq hau2 hs;omega))
   | ((repeat' (first|refine zab.ret ?_|refine wk ?_|fail));refine RetK.pure rfl (Le.of_eq ?_) rfl;clear hs hx hi hd1 ht1 ht2 heq hau2;refine congrArg (fun z=>SV.t (T.v (Value.int IntKind.i64 z))) ?_;grind)
 have e2:=zar ha
 refine wk ?_
 repeat' (first|refine wu ?_|exact wkc|intro hc|refine wk2 ?_ ?_|refine wv ht1 ?_|refine wv ht2 ?_|fail)
 all_goals((repeat' (first|refine zab.ret ?_|refine wk ?_|fail));refine RetK.pure rfl (Le.of_eq ?_) rfl;clear hi hd1 ht1 ht2 heq hau2;refine congrArg (fun z=>SV.t (T.v (Value.int IntKind.i64 z))) ?_;grind)
theorem zgZ(es:List En):∀(k:Nat) (d:Int),k≤3->d+k=3->∀(a:Auto),(zaj a).w≤1000000000->Pure Tryz.prog 193 [.t (ensT es),.t (.ag (zcg a)),.i d] (.i (zb5 es k a))
 | 0,d,_,hd,a,_=>by
   unfold zb5 zcg
   refine so Tryz.func193 ?_
   repeat' (first|refine wu ?_|exact wkc|intro hc|refine wk2 ?_ ?_|fail)
   exact wkr
 | k+1,d,hk3,hd,a,hw=>by
   have hst:=fun x hx=>zqB es (zb5 es k) d (by omega) (fun y hy=>zgZ es k (d+1) (by omega) (by omega) y hy) x (a.states.length:Int) hx
   have hwa:=zdn a
   have hlb:a.states.length≤1000000000:=by have:=zaq staT 6 a.states;omega
   have hml:(a.states.map staT).length=a.states.length:=List.length_map _
   have hz:zb5 es (k+1) a=zb5 es (k+1) a:=rfl
   conv at hz=>rhs;unfold zb5 orE
   generalize zb5 es (k+1) a=z at hz⊢
   generalize zb5 es k=F at*
   unfold zcg
   generalize a.states=l at*
   refine so Tryz.func193 ?_
   repeat' (first|refine wu ?_|exact wkc|intro hc|refine wk2 ?_ ?_|fail)
   all_goals first
    | ((repeat' (first|refine zab.ret ?_|refine wk ?_|fail));refine RetK.pure rfl (Le.of_eq ?_) rfl;clear hst;refine congrArg (fun z=>SV.t (T.v (Value.int IntKind.i64 z))) ?_;grind)
    | (exfalso;omega)
    | skip
   have hz2:z=zaa (stE es F (l.length:Int)) l:=by clear hst;grind
   clear hz
   refine TR.zal l.length (fun k=>zaa (stE es F (l.length:Int)) (l.take k)=0) (fun k=>[(0,.t (ensT es)),(2,.i d),(4,.cp [.sl 6 (l.map staT)] 0),(7,.i k)]) (fun _=>[]) rfl (fun j hlt ha=>?_) (fun ha=>?_)
   ·have hx:=zfK hlt
    have g1:=zan (f:=stE es F (l.length:Int)) hlt ha
    have g2:=zai (f:=stE es F (l.length:Int)) hlt ha
    have hs:=hst l[j] (by have:=zaC (f:=staT) (sz:=6) (List.getElem_mem hlt);omega)
    generalize stE es F (l.length:Int) l[j]=xe at*
    generalize l[j]=x at*
    rw[<-hml]at hs
    unfold staC at hx hs
    repeat' (first|refine wu ?_|exact wkc|intro hc|refine wk2 ?_ ?_|refine wv hs ?_|fail)
    all_goals first
     | exact zab.zak hlt (g2 (by clear hs hst;omega))
     | ((repeat' (first|refine zab.ret ?_|refine wk ?_|fail));refine RetK.pure rfl (Le.of_eq ?_) rfl;clear hs hst hx;refine congrArg (fun z=>SV.t (T.v (Value.int IntKind.i64 z))) ?_;grind)
   ·have e1:=zar ha
    repeat' (first|refine wu ?_|exact wkc|intro hc|refine wk2 ?_ ?_|fail)
    all_goals((repeat' (first|refine zab.ret ?_|refine wk ?_|fail));refine RetK.pure rfl (Le.of_eq ?_) rfl;clear hst;refine congrArg (fun z=>SV.t (T.v (Value.int IntKind.i64 z))) ?_;grind)
theorem zm3(es:List En)(a:Auto)(hw:(zaj a).w≤1000000000):Pure Tryz.prog 193 [.t (ensT es),.t (.ag (zcg a)),.i 0] (.i (zb5 es 3 a)):=zgZ es 3 0 (Nat.le_refl _) rfl a hw
theorem zm4(es:List En)(n:Nod)(hw:(nodT n).w≤1000000000):Pure Tryz.prog 157 [.t (ensT es),.t (.ag (nodC n))] (.i (zek es n)):=by
 have hwn:=zdJ n
 have m1:(n.ins.map zah).length=n.ins.length:=List.length_map _
 have m2:(n.outs.map zah).length=n.outs.length:=List.length_map _
 have m3:(n.locals.map zah).length=n.locals.length:=List.length_map _
 have m4:(n.eqs.map equT).length=n.eqs.length:=List.length_map _
 have m5:(n.autos.map zaj).length=n.autos.length:=List.length_map _
 have m6:(n.assume.map exT).length=n.assume.length:=List.length_map _
 have m7:(n.ensure.map exT).length=n.ensure.length:=List.length_map _
 have hi:=zbD n.name
 have hd1:=zdy es n.ins true (by omega)
 have hd2:=zdy es n.outs true (by omega)
 have hd3:=zdy es n.locals false (by omega)
 have hz:zek es n=zek es n:=rfl
 conv at hz=>rhs;unfold zek orE
 have hq0:za3 n.name=(if ident n.name=true then 0 else 6):=rfl
 generalize zek es n=z at hz⊢
 unfold nodC
 refine so Tryz.func157 ?_
 repeat' (first|refine wu ?_|exact wkc|intro hc|refine wk2 ?_ ?_|refine wb hi ?_ ?_|refine wv hd1 ?_|refine wv hd2 ?_|refine wv hd3 ?_|fail)
 all_goals((repeat' (first|refine zab.ret ?_|refine wk ?_|fail));refine RetK.pure rfl (Le.of_eq ?_) rfl;clear hi hd1 hd2 hd3;refine congrArg (fun z=>SV.t (T.v (Value.int IntKind.i64 z))) ?_;grind)
theorem zmO(es:List En)(n:Nod)(hw:(nodT n).w≤1000000000):Pure Tryz.prog 159 [.t (ensT es),.t (.ag (nodC n))] (.i (zgw es n)):=by
 have hwn:=zdJ n
 have l2:=zaq zaj 1 n.autos
 have l3:=zaq exT 6 n.assume
 have l4:=zaq exT 6 n.ensure
 have m5:(n.autos.map zaj).length=n.autos.length:=List.length_map _
 have m6:(n.assume.map exT).length=n.assume.length:=List.length_map _
 have m7:(n.ensure.map exT).length=n.ensure.length:=List.length_map _
 have hz:zgw es n=zgw es n:=rfl
 conv at hz=>rhs;unfold zgw orE
 generalize zgw es n=z at hz⊢
 unfold nodC
 refine so Tryz.func159 ?_
 repeat' (first|refine wu ?_|exact wkc|intro hc|refine wk2 ?_ ?_|fail)
 refine TR.zal n.autos.length (fun k=>zaa (zb5 es 3) (n.autos.take k)=0) (fun k=>[(0,.t (ensT es)),(3,.cp (nC n) 0),(5,.i k)]) (fun _=>[]) rfl (fun k hlt ha=>?_) (fun ha=>?_)
 ·have hx:=zdL hlt
  have g1:=zan (f:=(zb5 es 3)) hlt ha
  have g2:=zai (f:=(zb5 es 3)) hlt ha
  have hs:=zm3 es n.autos[k] (by have:=zaC (f:=zaj) (sz:=1) (List.getElem_mem hlt);omega)
  generalize zb5 es 3 n.autos[k]=xe at*
  generalize n.autos[k]=u at*
  unfold zcg at hx hs
  repeat' (first|refine wu ?_|exact wkc|intro hc|refine wk2 ?_ ?_|refine wv hs ?_|fail)
  all_goals first
   | exact zab.zak hlt (g2 (by clear hs;omega))
   | ((repeat' (first|refine zab.ret ?_|refine wk ?_|fail));refine RetK.pure rfl (Le.of_eq ?_) rfl;clear hs hx;refine congrArg (fun z=>SV.t (T.v (Value.int IntKind.i64 z))) ?_;grind)
 have e5:=zar ha
 refine wk ?_
 repeat' (first|refine wu ?_|exact wkc|intro hc|refine wk2 ?_ ?_|fail)
 refine TR.zal n.assume.length (fun k=>zaa (zaP es) (n.assume.take k)=0) (fun k=>[(0,.t (ensT es)),(3,.cp (nC n) 0),(7,.i k)]) (fun _=>[]) rfl (fun k hlt ha=>?_) (fun ha=>?_)
 ·have hx:=zbd hlt
  have g1:=zan (f:=(zaP es)) hlt ha
  have g2:=zai (f:=(zaP es)) hlt ha
  have hs:=zde es n.assume[k] (by have:=zep (n.assume[k]);have:=zaC (f:=exT) (sz:=6) (List.getElem_mem hlt);omega)
  rw[zaA]at hs
  generalize zaP es n.assume[k]=xe at*
  generalize n.assume[k]=u at*
  unfold exC at hx hs
  repeat' (first|refine wu ?_|exact wkc|intro hc|refine wk2 ?_ ?_|refine wv hs ?_|fail)
  all_goals first
   | exact zab.zak hlt (g2 (by clear hs;omega))
   | ((repeat' (first|refine zab.ret ?_|refine wk ?_|fail));refine RetK.pure rfl (Le.of_eq ?_) rfl;clear hs hx;refine congrArg (fun z=>SV.t (T.v (Value.int IntKind.i64 z))) ?_;grind)
 have e7:=zar ha
 refine wk ?_
 repeat' (first|refine wu ?_|exact wkc|intro hc|refine wk2 ?_ ?_|fail)
 refine TR.zal n.ensure.length (fun k=>zaa (zaP es) (n.ensure.take k)=0) (fun k=>[(0,.t (ensT es)),(3,.cp (nC n) 0),(9,.i k)]) (fun _=>[]) rfl (fun k hlt ha=>?_) (fun ha=>?_)
 ·have hx:=zbd hlt
  have g1:=zan (f:=(zaP es)) hlt ha
  have g2:=zai (f:=(zaP es)) hlt ha
  have hs:=zde es n.ensure[k] (by have:=zep (n.ensure[k]);have:=zaC (f:=exT) (sz:=6) (List.getElem_mem hlt);omega)
  rw[zaA]at hs
  generalize zaP es n.ensure[k]=xe at*
  generalize n.ensure[k]=u at*
  unfold exC at hx hs
  repeat' (first|refine wu ?_|exact wkc|intro hc|refine wk2 ?_ ?_|refine wv hs ?_|fail)
  all_goals first
   | exact zab.zak hlt (g2 (by clear hs;omega))
   | ((repeat' (first|refine zab.ret ?_|refine wk ?_|fail));refine RetK.pure rfl (Le.of_eq ?_) rfl;clear hs hx;refine congrArg (fun z=>SV.t (T.v (Value.int IntKind.i64 z))) ?_;grind)
 have e9:=zar ha
 refine wk ?_
 repeat' (first|refine wu ?_|exact wkc|intro hc|refine wk2 ?_ ?_|fail)
 all_goals((repeat' (first|refine zab.ret ?_|refine wk ?_|fail));refine RetK.pure rfl (Le.of_eq ?_) rfl;clear hwn;refine congrArg (fun z=>SV.t (T.v (Value.int IntKind.i64 z))) ?_;grind)
theorem zmz(p:Prog)(hw:(T.ag (zav p)).w≤1000000000):Pure Tryz.prog 111 [.t (.ag (zav p))] (.tup [.t (.ag [T.i (zaR p).1.1,T.i (zaR p).1.2]),.i (zaR p).2]):=by
 have l1:(T.sl 2 (p.enums.map enT)).w+(zag p.nodes).w≤(T.ag (zav p)).w:=by rw[w_ag];simp only[zav,List.map_cons,List.map_nil,List.sum_cons,List.sum_nil];omega
 have m1:(p.enums.map enT).length=p.enums.length:=List.length_map _
 have m2:(p.nodes.map nodT).length=p.nodes.length:=List.length_map _
 have hen:∀u,u∈p.enums->Pure Tryz.prog 156 [.t (.ag [.s u.name,.sl 1 (u.tags.map T.s)])] (.i (zdm u)):=fun u hu=>zm9 u (by
  have:=zaC (f:=enT) (sz:=2) hu
  rw[enT,w_ag]at this;simp only[List.map_cons,List.map_nil,List.sum_cons,List.sum_nil]at this
  have:=zaq T.s 1 u.tags
  omega)
 have hnw:∀u,u∈p.nodes->(nodT u).w≤1000000000:=fun u hu=>by
  have:=zaC (f:=nodT) (sz:=8) hu
  have:(zag p.nodes).w=(T.sl 8 (p.nodes.map nodT)).w:=rfl
  omega
 have hz:zaR p=zaR p:=rfl
 conv at hz=>rhs;unfold zaR limE
 generalize zaR p=z at hz⊢
 unfold zav
 refine so Tryz.func111 ?_
 repeat' (first|refine wu ?_|exact wkc|intro hc|refine wk2 ?_ ?_|fail)
 all_goals first
  | (have hzz:z=((-1,-1),3):=by rw[hz];clear hen hnw;grind
     subst hzz
     exact wkr)
  | skip
 rw[if_neg (by clear hen hnw hz;simp;omega)]at hz
 refine TR.zal p.enums.length (fun k=>zaa zdm (p.enums.take k)=0) (fun k=>[(1,.cp [.sl 2 (p.enums.map enT),zag p.nodes] 0),(2,.ref 0 0),(4,.ref 1 0),(5,.i k)])
  (fun k=>[.cells [.i 0,.i 0],.cells [.i (-1),.i (-1)]]) rfl (fun k hlt ha=>?_) (fun ha=>?_)
 ·have hx:(p.enums.map enT)[k]?=some (.ag [.s p.enums[k].name,.sl 1 (p.enums[k].tags.map T.s)]):=zaX enT hlt
  have g1:=zan (f:=zdm) hlt ha
  have g2:=zai (f:=zdm) hlt ha
  have hs:=hen _ (List.getElem_mem hlt)
  generalize zdm p.enums[k]=xe at*
  generalize p.enums[k]=u at*
  clear hen hnw
  repeat' (first|refine wu ?_|exact wkc|intro hc|refine wk2 ?_ ?_|refine wv hs ?_|fail)
  ·rw[if_pos (by rw[g1 hc];exact hc),g1 hc]at hz
   subst hz
   repeat' (first|refine zab.ret ?_|refine wk ?_|fail)
   exact wkr
  ·exact zab.zak hlt (g2 (by clear hs;omega))
 have e1:=zar ha
 rw[if_neg (by simp[e1])]at hz
 clear hen
 refine wk ?_
 repeat' (first|refine wu ?_|exact wkc|intro hc|refine wk2 ?_ ?_|fail)
 refine TR.zal p.nodes.length (fun k=>zaa (fun n=>(zbt p.enums n).2) (p.nodes.take k)=0) (fun k=>[(1,.cp [.sl 2 (p.enums.map enT),zag p.nodes] 0),(2,.ref 0 0),(7,.i k)])
  (fun k=>[.cells [.i 0,.i 0],.cells [.i (-1),.i (-1)]]) rfl (fun k hlt ha=>?_) (fun ha=>?_)
 ·have hx:=zb7 hlt
  have g1:=zan (f:=fun n=>(zbt p.enums n).2) hlt ha
  have g2:=zai (f:=fun n=>(zbt p.enums n).2) hlt ha
  have g3:=zcQ (f:=fun n=>(zbt p.enums n).2) hlt ha
  have hnk:=hnw _ (List.getElem_mem hlt)
  have hh:=zm4 p.enums p.nodes[k] hnk
  have ht:=zmO p.enums p.nodes[k] hnk
  have hq:∀u∈p.nodes[k].eqs,Pure Tryz.prog 158 [.t (ensT p.enums),.t (.ag (equC u))] (.i (equE p.enums u)):=fun u hu=>zkb p.enums u (by have:=zdJ p.nodes[k];have:=zaC (f:=equT) (sz:=7) hu;omega)
  have hat:p.nodes[k]?=some p.nodes[k]:=List.getElem?_eq_getElem hlt
  have hlq:p.nodes[k].eqs.length≤1000000000:=by have:=zdJ p.nodes[k];have:=zaq equT 7 p.nodes[k].eqs;omega
  generalize p.nodes[k]=u at*
  have mq:(u.eqs.map equT).length=u.eqs.length:=List.length_map _
  have hbad:∀(a b:Int),b≠0->zbt p.enums u=(a,b)->z=(((k:Int),a),b):=fun a b hb he=>by
   rw[he]at g1 g3
   rw[if_neg (by rw[g1 hb];exact hb),g3 hb,g1 hb]at hz
   simp only[Int.toNat_natCast,hat,Option.map_some,Option.getD_some,he]at hz
   exact hz
  clear hnw hz
  have hx0:zbt p.enums u=if zek p.enums u≠0 then(-1,zek p.enums u) else if zaa (equE p.enums) u.eqs≠0 then za9 (equE p.enums) u.eqs else(-1,zgw p.enums u):=rfl
  generalize zbt p.enums u=nx at*
  generalize zek p.enums u=he at*
  generalize zgw p.enums u=te at*
  unfold nodC at hx hh ht
  repeat' (first|refine wu ?_|exact wkc|intro hc|refine wk2 ?_ ?_|refine wv hh ?_|fail)
  ·rw[if_pos hc]at hx0
   have hzz:=hbad _ _ hc hx0
   subst hzz
   repeat' (first|refine zab.ret ?_|refine wk ?_|fail)
   exact wkr
  rw[if_neg hc]at hx0
  refine TR.zal u.eqs.length (fun j=>zaa (equE p.enums) (u.eqs.take j)=0) (fun j=>[(1,.cp [.sl 2 (p.enums.map enT),zag p.nodes] 0),(2,.ref 0 0),(7,.i k),(8,.cp (nC u) 0),(10,.i j)])
   (fun _=>[.cells [.i 0,.i 0],.cells [.i (-1),.i (-1)]]) rfl (fun j hlt2 ha2=>?_) (fun ha2=>?_)
  ·have hx2:=zcP hlt2
   have f1:=zan (f:=equE p.enums) hlt2 ha2
   have f2:=zai (f:=equE p.enums) hlt2 ha2
   have f3:=zcQ (f:=equE p.enums) hlt2 ha2
   have hs:=hq _ (List.getElem_mem hlt2)
   generalize equE p.enums u.eqs[j]=xe at*
   generalize u.eqs[j]=v at*
   unfold equC at hx2 hs
   repeat' (first|refine wu ?_|exact wkc|intro hc|refine wk2 ?_ ?_|refine wv hs ?_|fail)
   ·rw[if_pos (by rw[f1 hc];exact hc),f3 hc]at hx0
    have hzz:=hbad _ _ hc hx0
    subst hzz
    repeat' (first|refine zab.ret ?_|refine wk ?_|fail)
    exact wkr
   ·exact zab.zak hlt2 (f2 (by clear hs;omega))
  have e2:=zar ha2
  rw[if_neg (by simp[e2])]at hx0
  refine wk ?_
  repeat' (first|refine wu ?_|exact wkc|intro hc|refine wk2 ?_ ?_|refine wv ht ?_|fail)
  ·have hzz:=hbad _ _ hc hx0
   subst hzz
   repeat' (first|refine zab.ret ?_|refine wk ?_|fail)
   exact wkr
  ·exact zab.zak hlt (g2 (by rw[hx0];show te=0;clear hh ht hq;omega))
 have e2:=zar ha
 rw[if_pos e2]at hz
 subst hz
 refine wk ?_
 repeat' (first|refine wu ?_|exact wkc|intro hc|refine wk2 ?_ ?_|fail)
 exact wkr
end Go.Proofs.YtcbhlhmebbkgnaaGreat
