import Derived.Test.YtlocalghkiepmaaGreatRows
import Derived.Test.YtlocalghkiepmaaGreatPk12
import Derived.Test.YtlocalghkiepmaaGreatPk17
import Derived.Test.YtlocalghkiepmaaGreatPk18
import Derived.Test.YtlocalghkiepmaaGreatPk19
set_option linter.unusedSimpArgs false
set_option linter.unusedVariables false
namespace Go.Proofs.YtlocalghkiepmaaGreat
open Go Go.TL
variable {H:Type}
theorem cz_prog:Tryz.prog.cellsOf 25=2:=by kernel_rfl
theorem agg_prog:aggB Tryz.prog 25=true:=by unfold aggB;rw[Tryz.underlying25]
theorem ty_sta{n:Nat}(rec:∀j,j<n->∀(d:DataW H) ts,TyD Tryz.prog j 68 d ts->∃o:Auto,mkT true ts=autoT o){d:DataW H}{ts:List T}(h:TyD Tryz.prog n 119 d ts):∃o:Sta,mkT true ts=staT o:=by
 cases n with
 | zero=>exact h.elim
 | succ m=>
   simp only[TyD,Tryz.underlying119]at h
   obtain⟨xs,rfl,hl,hx,hf⟩:=h
   rw[cz_states]at hl
   match xs,hx,ts,hl with
   | [x0,x1,x2,x3,x4,x5],_,[a,b,c,e,g,i],_=>
     have f0:TyD Tryz.prog m 9 x0 (([a,b,c,e,g,i].drop 0).take (Tryz.prog.cellsOf 9)):=hf 0 _ x0 rfl rfl
     have f1:TyD Tryz.prog m 45 x1 (([a,b,c,e,g,i].drop 1).take (Tryz.prog.cellsOf 45)):=hf 1 _ x1 rfl rfl
     have f2:TyD Tryz.prog m 46 x2 (([a,b,c,e,g,i].drop 2).take (Tryz.prog.cellsOf 46)):=hf 2 _ x2 rfl rfl
     have f3:TyD Tryz.prog m 47 x3 (([a,b,c,e,g,i].drop 3).take (Tryz.prog.cellsOf 47)):=hf 3 _ x3 rfl rfl
     have f4:TyD Tryz.prog m 117 x4 (([a,b,c,e,g,i].drop 4).take (Tryz.prog.cellsOf 117)):=hf 4 _ x4 rfl rfl
     have f5:TyD Tryz.prog m 117 x5 (([a,b,c,e,g,i].drop 5).take (Tryz.prog.cellsOf 117)):=hf 5 _ x5 rfl rfl
     simp only[c1_autos,c1_decls,c1_eqs,c1_str,c1_trans,List.drop_zero,List.drop_succ_cons,List.take_succ_cons,List.take_zero]at f0 f1 f2 f3 f4 f5
     obtain⟨v0,e0⟩:=ty_s f0
     obtain⟨v1,e1⟩:=ty_sl declT Tryz.underlying45 cz_decls f1 (fun k hk d ts ht=>by
      obtain⟨u,hu⟩:=ty_decl ht
      exact⟨u,by rw[agg_decl];first|exact hu|(rw[hu];rfl)⟩)
     obtain⟨v2,e2⟩:=ty_sl equT Tryz.underlying46 cz_eqs f2 (fun k hk d ts ht=>by
      obtain⟨u,hu⟩:=ty_equ ht
      exact⟨u,by rw[agg_equ];first|exact hu|(rw[hu];rfl)⟩)
     obtain⟨v3,e3⟩:=ty_sl autoT Tryz.underlying47 cz_autos f3 (fun k hk d ts ht=>by
      obtain⟨u,hu⟩:=rec k (by omega) d ts ht
      exact⟨u,by rw[agg_auto];first|exact hu|(rw[hu];rfl)⟩)
     obtain⟨v4,e4⟩:=ty_sl tranT Tryz.underlying117 cz_trans f4 (fun k hk d ts ht=>by
      obtain⟨u,hu⟩:=ty_tran ht
      exact⟨u,by rw[agg_tran];first|exact hu|(rw[hu];rfl)⟩)
     obtain⟨v5,e5⟩:=ty_sl tranT Tryz.underlying117 cz_trans f5 (fun k hk d ts ht=>by
      obtain⟨u,hu⟩:=ty_tran ht
      exact⟨u,by rw[agg_tran];first|exact hu|(rw[hu];rfl)⟩)
     simp only[List.cons.injEq,and_true]at e0 e1 e2 e3 e4 e5
     subst e0 e1 e2 e3 e4 e5
     refine⟨.mk v0 v1 v2 v3 v4 v5,?_⟩
     rw[staT_C];unfold staC
     rfl
theorem ty_auto:∀(n m:Nat),m≤n->∀(d:DataW H) (ts:List T),TyD Tryz.prog m 68 d ts->∃o:Auto,mkT true ts=autoT o:=by
 intro n
 induction n with
 | zero=>intro m hm d ts h;have:m=0:=by omega
         subst this;exact h.elim
 | succ n ih=>
   intro m hm d ts h
   cases m with
   | zero=>exact h.elim
   | succ m=>
     simp only[TyD,Tryz.underlying68]at h
     obtain⟨xs,rfl,hl,hx,hf⟩:=h
     rw[cz_autos]at hl
     match xs,hx,ts,hl with
     | [x0],_,[a],_=>
       have f0:TyD Tryz.prog m 66 x0 (([a].drop 0).take (Tryz.prog.cellsOf 66)):=hf 0 _ x0 rfl rfl
       simp only[c1_states,List.drop_zero,List.take_succ_cons,List.take_zero]at f0
       obtain⟨v0,e0⟩:=ty_sl staT Tryz.underlying66 cz_states f0 (fun k hk d ts ht=>by
        obtain⟨u,hu⟩:=ty_sta (fun j hj d ts h=>ih j (by omega) d ts h) ht
        exact⟨u,by rw[agg_sta];exact hu⟩)
       simp only[List.cons.injEq,and_true]at e0
       subst e0
       refine⟨.mk v0,?_⟩
       rw[autoT_C]
       rfl
theorem ty_nod{n:Nat}{d:DataW H}{ts:List T}(h:TyD Tryz.prog n 49 d ts):∃o:Nod,mkT true ts=nodT o:=by
 cases n with
 | zero=>exact h.elim
 | succ m=>
   simp only[TyD,Tryz.underlying49]at h
   obtain⟨xs,rfl,hl,hx,hf⟩:=h
   rw[cz_nodes]at hl
   match xs,hx,ts,hl with
   | [x0,x1,x2,x3,x4,x5,x6,x7],_,[a,b,c,e,g,i,j,k],_=>
     have f0:TyD Tryz.prog m 9 x0 (([a,b,c,e,g,i,j,k].drop 0).take (Tryz.prog.cellsOf 9)):=hf 0 _ x0 rfl rfl
     have f1:TyD Tryz.prog m 45 x1 (([a,b,c,e,g,i,j,k].drop 1).take (Tryz.prog.cellsOf 45)):=hf 1 _ x1 rfl rfl
     have f2:TyD Tryz.prog m 45 x2 (([a,b,c,e,g,i,j,k].drop 2).take (Tryz.prog.cellsOf 45)):=hf 2 _ x2 rfl rfl
     have f3:TyD Tryz.prog m 45 x3 (([a,b,c,e,g,i,j,k].drop 3).take (Tryz.prog.cellsOf 45)):=hf 3 _ x3 rfl rfl
     have f4:TyD Tryz.prog m 46 x4 (([a,b,c,e,g,i,j,k].drop 4).take (Tryz.prog.cellsOf 46)):=hf 4 _ x4 rfl rfl
     have f5:TyD Tryz.prog m 47 x5 (([a,b,c,e,g,i,j,k].drop 5).take (Tryz.prog.cellsOf 47)):=hf 5 _ x5 rfl rfl
     have f6:TyD Tryz.prog m 33 x6 (([a,b,c,e,g,i,j,k].drop 6).take (Tryz.prog.cellsOf 33)):=hf 6 _ x6 rfl rfl
     have f7:TyD Tryz.prog m 33 x7 (([a,b,c,e,g,i,j,k].drop 7).take (Tryz.prog.cellsOf 33)):=hf 7 _ x7 rfl rfl
     simp only[c1_autos,c1_decls,c1_eqs,c1_exs,c1_str,List.drop_zero,List.drop_succ_cons,List.take_succ_cons,List.take_zero]at f0 f1 f2 f3 f4 f5 f6 f7
     obtain⟨v0,e0⟩:=ty_s f0
     obtain⟨v1,e1⟩:=ty_sl declT Tryz.underlying45 cz_decls f1 (fun k hk d ts ht=>by
      obtain⟨u,hu⟩:=ty_decl ht
      exact⟨u,by rw[agg_decl];first|exact hu|(rw[hu];rfl)⟩)
     obtain⟨v2,e2⟩:=ty_sl declT Tryz.underlying45 cz_decls f2 (fun k hk d ts ht=>by
      obtain⟨u,hu⟩:=ty_decl ht
      exact⟨u,by rw[agg_decl];first|exact hu|(rw[hu];rfl)⟩)
     obtain⟨v3,e3⟩:=ty_sl declT Tryz.underlying45 cz_decls f3 (fun k hk d ts ht=>by
      obtain⟨u,hu⟩:=ty_decl ht
      exact⟨u,by rw[agg_decl];first|exact hu|(rw[hu];rfl)⟩)
     obtain⟨v4,e4⟩:=ty_sl equT Tryz.underlying46 cz_eqs f4 (fun k hk d ts ht=>by
      obtain⟨u,hu⟩:=ty_equ ht
      exact⟨u,by rw[agg_equ];first|exact hu|(rw[hu];rfl)⟩)
     obtain⟨v5,e5⟩:=ty_sl autoT Tryz.underlying47 cz_autos f5 (fun k hk d ts ht=>by
      obtain⟨u,hu⟩:=ty_auto k k (Nat.le_refl _) d ts ht
      exact⟨u,by rw[agg_auto];first|exact hu|(rw[hu];rfl)⟩)
     obtain⟨v6,e6⟩:=ty_sl exT Tryz.underlying33 cz_exs f6 (fun k hk d ts ht=>by
      obtain⟨u,hu⟩:=ty_ex k k (Nat.le_refl _) _ _ ht
      exact⟨u,by rw[agg_ex,hu,exT_eq];rfl⟩)
     obtain⟨v7,e7⟩:=ty_sl exT Tryz.underlying33 cz_exs f7 (fun k hk d ts ht=>by
      obtain⟨u,hu⟩:=ty_ex k k (Nat.le_refl _) _ _ ht
      exact⟨u,by rw[agg_ex,hu,exT_eq];rfl⟩)
     simp only[List.cons.injEq,and_true]at e0 e1 e2 e3 e4 e5 e6 e7
     subst e0 e1 e2 e3 e4 e5 e6 e7
     refine⟨⟨v0,v1,v2,v3,v4,v5,v6,v7⟩,?_⟩
     skip
     rfl
theorem ty_prog{n:Nat}{d:DataW H}{ts:List T}(h:TyD Tryz.prog n 25 d ts):∃o:Prog,mkT true ts= .ag (progC o):=by
 cases n with
 | zero=>exact h.elim
 | succ m=>
   simp only[TyD,Tryz.underlying25]at h
   obtain⟨xs,rfl,hl,hx,hf⟩:=h
   rw[cz_prog]at hl
   match xs,hx,ts,hl with
   | [x0,x1],_,[a,b],_=>
     have f0:TyD Tryz.prog m 22 x0 (([a,b].drop 0).take (Tryz.prog.cellsOf 22)):=hf 0 _ x0 rfl rfl
     have f1:TyD Tryz.prog m 23 x1 (([a,b].drop 1).take (Tryz.prog.cellsOf 23)):=hf 1 _ x1 rfl rfl
     simp only[c1_ens,c1_nodes,List.drop_zero,List.drop_succ_cons,List.take_succ_cons,List.take_zero]at f0 f1
     obtain⟨v0,e0⟩:=ty_sl enT Tryz.underlying22 cz_ens f0 (fun k hk d ts ht=>by
      obtain⟨u,hu⟩:=ty_en ht
      exact⟨u,by rw[agg_en];first|exact hu|(rw[hu];rfl)⟩)
     obtain⟨v1,e1⟩:=ty_sl nodT Tryz.underlying23 cz_nodes f1 (fun k hk d ts ht=>by
      obtain⟨u,hu⟩:=ty_nod ht
      exact⟨u,by rw[agg_nod];first|exact hu|(rw[hu];rfl)⟩)
     simp only[List.cons.injEq,and_true]at e0 e1
     subst e0 e1
     refine⟨⟨v0,v1⟩,?_⟩
     skip
     rfl
end Go.Proofs.YtlocalghkiepmaaGreat
namespace Go.Proofs.YtlocalghkiepmaaGreat
open Go Go.TL
variable {H:Type}
def tilesF(P:Program):Nat->List Field->Nat->Bool
 | o,[],e=>Nat.beq o e
 | o,g::gs,e=>Nat.beq g.offset o && tilesF P (o+P.cellsOf g.type) gs e
def tilesB(P:Program)(t:TypeId):Bool:=match P.underlying t with
 | some (.struct fs)=>tilesF P 0 fs.toList (P.cellsOf t)
 | _=>true
theorem tiles_sum{P:Program}:∀(gs:List Field) (xs:List (DataW H)) (o e:Nat) (ts:List T),gs.length=xs.length->tilesF P o gs e=true->ts.length=e->
  (∀(j:Nat) g x,gs[j]?=some g->xs[j]?=some x->((((ts.drop g.offset).take (P.cellsOf g.type)).map T.w).sum+1≤2*Rows.uptoBulk x))->((ts.drop o).map T.w).sum≤2*Rows.uptoBulkAll xs
 | [],[],o,e,ts,_,ht,hl,_=>by
   simp[tilesF]at ht
   rw[List.drop_of_length_le (by omega)];simp
 | g::gs,x::xs,o,e,ts,hlen,ht,hl,h=>by
   simp only[tilesF,Bool.and_eq_true,Nat.beq_eq]at ht
   obtain⟨h1,h2⟩:=ht
   have ih:=tiles_sum gs xs (o+P.cellsOf g.type) e ts (by simpa using hlen) h2 hl (fun j g x hg hx=>h (j+1) g x (by simpa using hg) (by simpa using hx))
   have h0:=h 0 g x rfl rfl
   rw[h1]at h0
   have hs:ts.drop o=(ts.drop o).take (P.cellsOf g.type)++ts.drop (o+P.cellsOf g.type):=by
    rw[<-List.drop_drop,List.take_append_drop]
   rw[hs,List.map_append,List.sum_append]
   simp only[Rows.uptoBulkAll]
   omega
 | [],_::_,_,_,_,hlen,_,_,_=>by simp at hlen
 | _::_,[],_,_,_,hlen,_,_,_=>by simp at hlen
theorem tyD_w{P:Program}{l:List TypeId}(hP:plainSetB P l=true)(hT:∀t∈l,tilesB P t=true):∀(n:Nat) (t:TypeId),t∈l->∀(d:DataW H) (ts:List T),TyD P n t d ts->(ts.map T.w).sum+1≤2*Rows.uptoBulk d
 | 0,_,_,_,_,h=>h.elim
 | n+1,t,htl,d,ts,h=>by
   unfold TyD at h
   have ht:=hT t htl
   have hcl:=List.all_eq_true.1 hP t htl
   unfold tilesB at ht
   split at h
   ·obtain⟨b,rfl,rfl⟩:=h;simp[Rows.uptoBulk,T.w,strW]
   ·obtain⟨i,rfl,rfl,_⟩:=h;simp[Rows.uptoBulk,T.w,strW]
   ·obtain⟨l,rfl,rfl,_⟩:=h
    have:(T.v (str l)).w=1+l.length:=w_s l
    simp only[List.map_cons,List.map_nil,List.sum_cons,List.sum_nil,Rows.uptoBulk]
    omega
   ·rename_i e hu
    have hel:e∈l:=by rw[hu]at hcl;simp at hcl;exact hcl.1.2
    obtain⟨els,sp,es,hd,rfl,hl,_,he⟩:=h
    have key:∀(es:List T) (els:List (DataW H)),es.length=els.length->(∀(i:Nat) x y,els[i]?=some x->es[i]?=some y->y=mkT (aggB P e) y.cells/\TyD P n e x y.cells)->(es.map T.w).sum≤2*Rows.uptoBulkAll els:=by
     intro es
     induction es with
     | nil=>intro els hl _;simp
     | cons y es ih=>
       intro els hl he
       cases els with
       | nil=>simp at hl
       | cons x els=>
         have h1:=ih els (by simpa using hl) (fun i x y hx hy=>he (i+1) x y (by simpa using hx) (by simpa using hy))
         obtain⟨g1,g2⟩:=he 0 x y rfl rfl
         have h2:=tyD_w hP hT n e hel x y.cells g2
         have h3:y.w≤(y.cells.map T.w).sum+1:=by
          cases y with
          | ag cs=>rw[w_ag];simp[T.cells];omega
          | v x=>simp[T.cells]
          | sl sz es=>simp[T.cells]
         simp only[List.map_cons,List.sum_cons,Rows.uptoBulkAll]
         omega
    have hk:=key es els hl he
    have hw:((T.sl (P.cellsOf e) es).w)=1+(es.map T.w).sum:=w_sl _ _
    simp only[List.map_cons,List.map_nil,List.sum_cons,List.sum_nil]
    rcases hd with ⟨rfl,rfl⟩|rfl
    ·simp[Rows.uptoBulkAll]at hk
     simp only[Rows.uptoBulk];omega
    ·simp only[Rows.uptoBulk];omega
   ·rename_i fs hu
    obtain⟨xs,rfl,hl,hx,hf⟩:=h
    rw[hu]at ht
    have:=tiles_sum fs.toList xs 0 (P.cellsOf t) ts (by simpa using hx.symm) ht hl (fun j g x hg hx=>tyD_w hP hT n g.type (by rw[hu]at hcl;exact List.contains_iff_mem.1 (List.all_eq_true.1 hcl g (List.mem_of_getElem? hg))) x _ (hf j g x (by simpa using hg) hx))
    simp only[List.drop_zero]at this
    simp only[Rows.uptoBulk];omega
   ·exact h.elim
end Go.Proofs.YtlocalghkiepmaaGreat
namespace Go.Proofs.YtlocalghkiepmaaGreat
open Go Go.TL
variable {H:Type}
def progL:List TypeId:=[25,22,108,23,49,45,55,36,57,46,52,33,35,47,68,66,119,117,173,50,9,3,4,5]
theorem plainL:plainSetB Tryz.prog progL=true:=by kernel_rfl
theorem tilesL:∀t∈progL,tilesB Tryz.prog t=true:=List.all_eq_true.1 (by kernel_rfl)
theorem fits_cons{P:Program}{t:TypeId}{ts:List TypeId}{ds:List (DataW H)}{ys:List T}(h:Fits P (t::ts) ds ys):∃d ds' y ys',ds=d::ds'/\ys=y::ys'/\(y=mkT (aggB P t) y.cells/\∃n,TyD P n t d y.cells)/\Fits P ts ds' ys':=by
 cases ds with
 | nil=>cases ys <;> exact h.elim
 | cons d ds=>cases ys with
   | nil=>exact h.elim
   | cons y ys=>exact⟨d,ds,y,ys,rfl,rfl,h.1,h.2⟩
theorem fits_end{P:Program}{ds:List (DataW H)}{ys:List T}(h:Fits P [] ds ys):ds=[]/\ys=[]:=by
 cases ds <;> cases ys <;> first|exact⟨rfl,rfl⟩|exact h.elim
theorem bulk_cons(d:DataW H)(ds:List (DataW H)):Rows.uptoBulkAll (d::ds)=Rows.uptoBulk d+Rows.uptoBulkAll ds:=by simp[Rows.uptoBulkAll]
theorem prog_in{d:DataW H}{y:T}(h:y=mkT (aggB Tryz.prog 25) y.cells/\∃n,TyD Tryz.prog n 25 d y.cells):∃p:Prog,y= .ag (progC p)/\(T.ag (progC p)).w≤2*Rows.uptoBulk d:=by
 obtain⟨h1,n,h2⟩:=h
 obtain⟨p,hp⟩:=ty_prog h2
 rw[agg_prog,hp]at h1
 have:=tyD_w plainL tilesL n _ (by decide +kernel) d y.cells h2
 refine⟨p,h1,?_⟩
 have hc:y.cells=progC p:=by rw[h1];rfl
 rw[hc]at this
 rw[w_ag];omega
end Go.Proofs.YtlocalghkiepmaaGreat
namespace Go.Proofs.YtlocalghkiepmaaGreat
open Go Go.TL
attribute [local irreducible] TR TO Then InBlock RetK Sound LoopK Kf GG ThenL
theorem wka{G Q:Prop}(k:Q)(h:Hold Q->G:=by
  (intro k;apply Go.TL.TO.allocC2 tabOk;exact rfl;exact rfl;exact rfl;exact rfl;exact rfl;exact rfl;exact rfl;exact rfl;exact rfl;exact Nat.le_of_ble_eq_true rfl;exact k.p)):G:=h ⟨k⟩
theorem retQ{rs:List ResultVar}{env:Env}{H H1:Heap}{v:SV}{n q q' c c':Int}(h0:c'≠0)(hc:c'=c)(hq:q'=q)(hN:Nat.ble 1 H.length=true)(hb:blksUnder H.length H=true):
  RetK tab rs 1 (Err0 c v (failV n q c) H1 1) (.panic (failV n q' c')) env H:=by
 subst hc hq;exact RetK.errP h0 hN rfl hb
theorem firstI_at{α:Type}{f:α->Int}{l:List α}{k:Nat}(hk:k<l.length)(h:firstE f (l.take k)=0)(hn:f l[k]≠0):firstI f l=((k:Int),f l[k]):=by
 conv=>lhs;rw[<-List.take_append_drop k l]
 rw[firstI_append,if_pos h,List.drop_eq_getElem_cons hk,firstE,if_neg hn,if_neg hn,firstI,if_neg hn]
 simp;omega
theorem w_nod(n:Nod):(declsT n.ins).w+(declsT n.outs).w+(declsT n.locals).w+(T.sl 7 (n.eqs.map equT)).w+(T.sl 1 (n.autos.map autoT)).w+(T.sl 6 (n.assume.map exT)).w+(T.sl 6 (n.ensure.map exT)).w≤(nodT n).w:=by
 rw[show nodT n= .ag (nodC n) from rfl,w_ag];simp only[nodC,List.map_cons,List.map_nil,List.sum_cons,List.sum_nil];omega
set_option maxHeartbeats 1000000 in
theorem nodeM_sound (es:List En) (a b i:Int) (n:Nod) (hw:(nodT n).w≤1000000000):
  Sound Tryz.prog 113 [.ref 0 0,.i i,.t (.ag (nodC n))] [lookB es a b] (Err (nodeX es n).2 (.tup []) (failV i (nodeX es n).1 (nodeX es n).2) [lookB es i (-1)]):=by
 refine Sound.err rfl (fun _=>rfl) ?_
 have hwn:=w_nod n
 have l1:=w_lenM equT 7 n.eqs
 have l2:=w_lenM autoT 1 n.autos
 have l3:=w_lenM exT 6 n.assume
 have l4:=w_lenM exT 6 n.ensure
 have m1:(n.ins.map declT).length=n.ins.length:=List.length_map _
 have m2:(n.outs.map declT).length=n.outs.length:=List.length_map _
 have m3:(n.locals.map declT).length=n.locals.length:=List.length_map _
 have m4:(n.eqs.map equT).length=n.eqs.length:=List.length_map _
 have m5:(n.autos.map autoT).length=n.autos.length:=List.length_map _
 have m6:(n.assume.map exT).length=n.assume.length:=List.length_map _
 have m7:(n.ensure.map exT).length=n.ensure.length:=List.length_map _
 have hi:=identM_sound es i (-1) n.name
 have hd1:=declsM_sound es i (-1) n.ins true (by omega)
 have hd2:=declsM_sound es i (-1) n.outs true (by omega)
 have hd3:=declsM_sound es i (-1) n.locals false (by omega)
 have heq:∀(q:Int) u,u∈n.eqs->LS 167 [.t (.ag (equC u))] es i q (equE es u):=fun q u hu=>equM_sound es i q u (by have:=w_inM (f:=equT) (sz:=7) hu;omega)
 have hau:∀u,u∈n.autos->LS 168 [.t (.ag (autoC u)),.i 0] es i (-1) (autoE es 3 u):=fun u hu=>autoM_sound es i (-1) u (by have:=w_inM (f:=autoT) (sz:=1) hu;omega)
 have hex:∀u,u∈n.assume\/u∈n.ensure->wEx u≤1000000000:=fun u hu=>by
  have:=wEx_le u
  rcases hu with hu|hu
  ·have:=w_inM (f:=exT) (sz:=6) hu;omega
  ·have:=w_inM (f:=exT) (sz:=6) hu;omega
 have hz:nodeX es n=nodeX es n:=rfl
 conv at hz=>rhs;unfold nodeX headE tailE orE
 generalize nodeX es n=z at hz⊢
 unfold nodC
 clear hwn hw
 refine Sound.of tabOk Tryz.func113 (by kernel_rfl) rfl rfl ?_
 repeat' (first|refine wkt ?_|refine wk ?_|exact wkc|intro hc|refine wk2 ?_ ?_|refine wm ?_|refine we hi ?_ ?_|refine we hd1 ?_ ?_|refine we hd2 ?_ ?_|refine we hd3 ?_ ?_|fail)
 all_goals first
  | ((repeat' (first|refine LoopK.panic ?_|refine wk ?_|fail));apply retQ;(first|assumption|decide);(clear hi hd1 hd2 hd3 heq hau hex;grind);(clear hi hd1 hd2 hd3 heq hau hex;grind);exact rfl;exact rfl)
  | skip
 refine TR.loopN n.eqs.length (fun k=>firstE (equE es) (n.eqs.take k)=0) (fun k=>[(0,.ref 0 0),(5,.cp [.s n.name,declsT n.ins,declsT n.outs,declsT n.locals,.sl 7 (n.eqs.map equT),.sl 1 (n.autos.map autoT),.sl 6 (n.assume.map exT),.sl 6 (n.ensure.map exT)] 0),(80,.t (.sl 7 (n.eqs.map equT))),(81,.i (n.eqs.map equT).length),(82,.i k)]) (fun k=>[lookB es i ((k:Int)-1)]) rfl (fun k hlt ha=>?_) (fun ha=>?_)
 ·have hx:=at_equ hlt
  have g1:=firstE_at (f:=(equE es)) hlt ha
  have g2:=firstE_next (f:=(equE es)) hlt ha
  have hs:=heq k _ (List.getElem_mem hlt)
  have g3:=firstI_at (f:=equE es) hlt ha
  generalize n.eqs[k]=u at*
  unfold equC at hx hs
  repeat' (first|refine wkt ?_|refine wka ?_|refine wk ?_|exact wkc|intro hc|refine wk2 ?_ ?_|refine we hs ?_ ?_|fail)
  all_goals first
   | (refine LoopK.nextN hlt (g2 hc) ?_ (by rw[show((k+1:Nat):Int)-1=k from by omega]);repeat' (first|exact trivial|refine And.intro rfl ?_|fail))
   | ((repeat' (first|refine LoopK.panic ?_|refine wk ?_|fail));apply retQ;(first|assumption|decide);(clear hs hi hd1 hd2 hd3 heq hau hex hx;grind);(clear hs hi hd1 hd2 hd3 heq hau hex hx;grind);exact rfl;exact rfl)
 have e1:=firstE_all ha
 clear hi hd1 hd2 hd3 heq
 refine wk ?_
 repeat' (first|refine wkt ?_|refine wk ?_|exact wkc|intro hc|refine wk2 ?_ ?_|fail)
 refine TR.loopN n.autos.length (fun k=>firstE (autoE es 3) (n.autos.take k)=0) (fun k=>[(0,.ref 0 0),(5,.cp [.s n.name,declsT n.ins,declsT n.outs,declsT n.locals,.sl 7 (n.eqs.map equT),.sl 1 (n.autos.map autoT),.sl 6 (n.assume.map exT),.sl 6 (n.ensure.map exT)] 0),(101,.t (.sl 1 (n.autos.map autoT))),(102,.i (n.autos.map autoT).length),(103,.i k)]) (fun k=>[lookB es i (-1)]) rfl (fun k hlt ha=>?_) (fun ha=>?_)
 ·have hx:=at_auto hlt
  have g1:=firstE_at (f:=(autoE es 3)) hlt ha
  have g2:=firstE_next (f:=(autoE es 3)) hlt ha
  have hs:=hau _ (List.getElem_mem hlt)
  generalize n.autos[k]=u at*
  unfold autoC at hx hs
  repeat' (first|refine wkt ?_|refine wk ?_|exact wkc|intro hc|refine wk2 ?_ ?_|refine we hs ?_ ?_|fail)
  all_goals first
   | exact LoopK.nextN hlt (g2 hc)
   | ((repeat' (first|refine LoopK.panic ?_|refine wk ?_|fail));apply retQ;(first|assumption|decide);(clear hs hau hex hx;grind);(clear hs hau hex hx;grind);exact rfl;exact rfl)
 have e2:=firstE_all ha
 clear hau
 refine wk ?_
 repeat' (first|refine wkt ?_|refine wk ?_|exact wkc|intro hc|refine wk2 ?_ ?_|fail)
 refine TR.loopN n.assume.length (fun k=>firstE (exprX es) (n.assume.take k)=0) (fun k=>[(0,.ref 0 0),(5,.cp [.s n.name,declsT n.ins,declsT n.outs,declsT n.locals,.sl 7 (n.eqs.map equT),.sl 1 (n.autos.map autoT),.sl 6 (n.assume.map exT),.sl 6 (n.ensure.map exT)] 0),(112,.t (.sl 6 (n.assume.map exT))),(113,.i (n.assume.map exT).length),(114,.i k)]) (fun k=>[lookB es i (-1)]) rfl (fun k hlt ha=>?_) (fun ha=>?_)
 ·have hx:=at_exT hlt
  have g1:=firstE_at (f:=(exprX es)) hlt ha
  have g2:=firstE_next (f:=(exprX es)) hlt ha
  have hs:=exprX_sound es _ (hex _ (.inl (List.getElem_mem hlt)))
  rw[exT_eq]at hs
  generalize n.assume[k]=u at*
  unfold exC at hx hs
  have hr:=right_sound es i (-1) (exprX es u)
  generalize exprX es u=xe at*
  repeat' (first|refine wkt ?_|refine wk ?_|exact wkc|intro hc|refine wk2 ?_ ?_|refine wv hs ?_|refine we hr ?_ ?_|fail)
  all_goals first
   | exact LoopK.nextN hlt (g2 hc)
   | ((repeat' (first|refine LoopK.panic ?_|refine wk ?_|fail));apply retQ;(first|assumption|decide);(clear hs hr hex hx;grind);(clear hs hr hex hx;grind);exact rfl;exact rfl)
 have e3:=firstE_all ha
 refine wk ?_
 repeat' (first|refine wkt ?_|refine wk ?_|exact wkc|intro hc|refine wk2 ?_ ?_|fail)
 refine TR.loopN n.ensure.length (fun k=>firstE (exprX es) (n.ensure.take k)=0) (fun k=>[(0,.ref 0 0),(5,.cp [.s n.name,declsT n.ins,declsT n.outs,declsT n.locals,.sl 7 (n.eqs.map equT),.sl 1 (n.autos.map autoT),.sl 6 (n.assume.map exT),.sl 6 (n.ensure.map exT)] 0),(128,.t (.sl 6 (n.ensure.map exT))),(129,.i (n.ensure.map exT).length),(130,.i k)]) (fun k=>[lookB es i (-1)]) rfl (fun k hlt ha=>?_) (fun ha=>?_)
 ·have hx:=at_exT hlt
  have g1:=firstE_at (f:=(exprX es)) hlt ha
  have g2:=firstE_next (f:=(exprX es)) hlt ha
  have hs:=exprX_sound es _ (hex _ (.inr (List.getElem_mem hlt)))
  rw[exT_eq]at hs
  generalize n.ensure[k]=u at*
  unfold exC at hx hs
  have hr:=right_sound es i (-1) (exprX es u)
  generalize exprX es u=xe at*
  repeat' (first|refine wkt ?_|refine wk ?_|exact wkc|intro hc|refine wk2 ?_ ?_|refine wv hs ?_|refine we hr ?_ ?_|fail)
  all_goals first
   | exact LoopK.nextN hlt (g2 hc)
   | ((repeat' (first|refine LoopK.panic ?_|refine wk ?_|fail));apply retQ;(first|assumption|decide);(clear hs hr hex hx;grind);(clear hs hr hex hx;grind);exact rfl;exact rfl)
 have e4:=firstE_all ha
 refine wk ?_
 repeat' (first|refine wkt ?_|refine wk ?_|exact wkc|intro hc|refine wk2 ?_ ?_|fail)
 refine RetK.errN (vs:=[]) ?_ rfl (Le.refl _) rfl rfl rfl rfl rfl
 clear hex;grind
end Go.Proofs.YtlocalghkiepmaaGreat
namespace Go.TL
open Go
section rules
variable {P:Program}{n:Nat}{env:Env}{H:Heap}{K:TK}{all:Array Oper}{rest:List Oper}{tab:Tab}{q:Bool}
variable {d:Nat}{ty:TypeId}{pos:String}{aft:Array Edge}
theorem TO.assert_ok(hT:TabOk P tab){t xt:TypeId}{i:TyI}{x:Operand}{s:SV}(hd:Nat.ble (d+1) n=true)(hx:env.val x=some (.ifc t s))(ht:tab.get t=some i)(ha:i.k.agg=true)
  (k:TO q P n all rest ((d,.tup [s,.b true])::env) H K):TO q P n all (⟨some d,.typeAssert x xt t true,ty,pos,aft,none⟩::rest) env H K:=
 TO.op hd (fun m ac h1 h2 h3=>by
  have hv:=h3.val hx
  generalize hq:ac.eval x=u at hv
  cases hv with
  | ifc _ _ y hy=>
    obtain⟨dd,ti,z,g1,g2,g3,g4,g5,g6,g7,g8,g9⟩:=(hT t i ht).ex
    refine⟨.tuple #[y,.bool true],fun w' hw'=>?_,?_⟩
    ·cases hk:i.k <;> rw[hk]at ha g3 <;> simp[TK'.agg]at ha <;> cases dd <;> simp[TK'.fits]at g3 <;> simp[execOp,hq,Instr.typeAssert,run_underlying g1]
    ·refine .tup _ _ rfl fun j c z hc hz=>?_
     match j with
     | 0=>simp at hc hz;subst hc hz;exact hy
     | 1=>simp at hc hz;subst hc hz;exact .t _ _ (.v _)
     | j+2=>simp at hc) k
theorem TO.assert_nil(hT:TabOk P tab){t xt:TypeId}{i:TyI}{x:Operand}(hd:Nat.ble (d+1) n=true)(hx:env.val x=some (.t (.v .nilIface)))(ht:tab.get t=some i)(ha:i.k.agg=true)
  (k:TO q P n all rest ((d,.tup [.t (.ag i.zero),.b false])::env) H K):TO q P n all (⟨some d,.typeAssert x xt t true,ty,pos,aft,none⟩::rest) env H K:=
 TO.op hd (fun m ac h1 h2 h3=>by
  have hv:=h3.val hx
  generalize hq:ac.eval x=u at hv
  have hu:=hv.v_eq
  subst hu
  obtain⟨dd,ti,z,g1,g2,g3,g4,g5,g6,g7,g8,g9⟩:=(hT t i ht).ex
  obtain⟨cs,rfl⟩:=g8 ha
  obtain⟨z1,z2,z3⟩:=zero_rel (A:=m.A) (w:=m.w) _ _ g7
  refine⟨.tuple #[.agg cs,.bool false],fun w' hw'=>?_,?_⟩
  ·have hz:(zeroValue t).run P w'= .ok (.agg cs) w':=by simp[zeroValue,typeInfo,g2,g6]
   cases hk:i.k <;> rw[hk]at ha g3 <;> simp[TK'.agg]at ha <;> cases dd <;> simp[TK'.fits]at g3 <;> simp[execOp,hq,Instr.typeAssert,run_underlying g1,hz]
  ·refine .tup _ _ rfl fun j c z hc hz=>?_
   match j with
   | 0=>
     simp at hc hz;subst hc hz
     refine .t _ _ (.ag _ _ (by simpa [Value.cells]using z1.symm) (fun i y hy=>z2 i y (by simpa [Value.cells]using hy)) fun i c y hc hy=>z3 i c y hc (by simpa [Value.cells]using hy))
   | 1=>simp at hc hz;subst hc hz;exact .t _ _ (.v _)
   | j+2=>simp at hc) k
end rules
end Go.TL
namespace Go.Proofs.YtlocalghkiepmaaGreat
open Go Go.TL
attribute [local irreducible] TR TO Then InBlock RetK Sound LoopK Kf GG ThenL
theorem close_some(n q c:Int)(a b d:SV)(Hr:Heap)(hb:blksUnder (Hr.length+2) Hr=true):
  DSound Tryz.prog 110 [.ref 0 0,.ref 1 0] (.cells [a,b]:: .cells [d]::Hr) (some (failV n q c)) (fun H3=>H3= .cells [.i n,.i q]:: .cells [.i c]::Hr):=by
 refine DSound.of (tab:=tab) Tryz.func110 (by kernel_rfl) rfl rfl rfl rfl ?_
 repeat' (first|refine wkt ?_|refine wk ?_|exact wkc|intro hc|refine wk2 ?_ ?_|(apply TO.assert_ok tabOk;exact rfl;exact rfl;exact rfl;exact rfl)|fail)
 refine Then.normal ?_
 repeat' (first|refine wkt ?_|fail)
 refine TR.regionM (envF:=?envF) (HF:=.cells [.i n,.i q]:: .cells [.i c]::Hr) [(.cp [T.i n,T.i q,T.i c] 0,false),(.t (.ag [T.i n,T.i q]),false),(.cp [T.i n,T.i q,T.i c] 2,false),(.i c,false),(.any,true),(.any,true)] [.cells [a,b]:: .cells [d]::Hr,.cells [.i n,.i q]:: .cells [d]::Hr,.cells [.i n,.i q]:: .cells [.i c]::Hr] hmix ?hB ?h0 ?hp ?hF ?hE ?hK
 case hB=>(dsimp only[List.map];decide +kernel)
 case h0=>exact rfl
 case hF=>exact rfl
 case hE=>exact rfl
 case hp=>repeat' (first|refine wkt ?_|refine wk ?_|exact trivial|exact And.intro rfl rfl|refine And.intro (fun H env=>?_) ?_|refine And.intro (fun env=>?_) ?_|fail)
 repeat' (first|refine wkt ?_|refine wk ?_|exact wkc|intro hc|refine wk2 ?_ ?_|fail)
 have ht:(Blk.cells [.i n,.i q]::Blk.cells [.i c]::Hr).take (Blk.cells [a,b]::Blk.cells [d]::Hr).length=Blk.cells [.i n,.i q]::Blk.cells [.i c]::Hr:=by simp
 refine⟨Nat.le_refl _,?_,ht⟩
 show blksUnder _ (List.take _ (Blk.cells [.i n,.i q]::Blk.cells [.i c]::Hr))=true
 rw[ht]
 exact hb
theorem close_none(H:Heap)(hb:blksUnder H.length H=true):
  DSound Tryz.prog 110 [.ref 0 0,.ref 1 0] H none (fun H3=>H3=H):=by
 refine DSound.of (tab:=tab) Tryz.func110 (by kernel_rfl) rfl rfl rfl rfl ?_
 repeat' (first|refine wkt ?_|refine wk ?_|exact wkc|intro hc|refine wk2 ?_ ?_|(apply TO.assert_nil tabOk;exact rfl;exact rfl;exact rfl;exact rfl)|fail)
 refine Then.normal ?_
 repeat' (first|refine wkt ?_|refine wk ?_|exact wkc|intro hc|refine wk2 ?_ ?_|fail)
 exact⟨Nat.le_refl _,by rw[List.take_of_length_le (Nat.le_refl _)];exact hb,List.take_of_length_le (Nat.le_refl _)⟩
theorem we3{G Q1 Q2:Prop}{f:FuncId}{cargs:List SV}{v pv:SV}{c:Int}{Hc H1:Heap}(hs:Sound Tryz.prog f cargs Hc (Err c v pv H1))(k1:Q1)(k2:Q2)(h:Sound Tryz.prog f cargs Hc (Err c v pv H1)->Hold Q1->Hold Q2->G:=by
  intro hs k1 k2
  (apply Go.TL.TO.callE [2] hs;exact rfl;exact rfl;exact rfl;(repeat' (first|exact trivial|exact Go.TL.Le.refl _|refine And.intro ?_ ?_|exact Go.TL.Le.any _|exact Go.TL.Le.nil _|exact Go.TL.Le.own _ _ _|refine Go.TL.Le.tree rfl ?_|exact Go.TL.TLe.refl _|exact Go.TL.TLe.nil _|refine Go.TL.TLe.ags ?_|fail));exact rfl;exact Hands.one rfl rfl;exact rfl;exact rfl;exact rfl;exact rfl;exact k1.p;exact k2.p)):G:=h hs ⟨k1⟩ ⟨k2⟩
theorem shapeX_sound(p:Prog)(hw:(T.ag (progC p)).w≤1000000000):Pure Tryz.prog 66 [.t (.ag (progC p))] (.tup [.t (.ag [T.i (shapeX p).1.1,T.i (shapeX p).1.2]),.i (shapeX p).2]):=by
 have l1:(T.sl 2 (p.enums.map enT)).w+(nodesT p.nodes).w≤(T.ag (progC p)).w:=by rw[w_ag];simp only[progC,List.map_cons,List.map_nil,List.sum_cons,List.sum_nil];omega
 refine Sound.ofDefer tabOk Tryz.func66 (by kernel_rfl) rfl rfl (gf:=110) (cv:=[.ref 0 0,.ref 1 0]) ?_
 unfold progC
 refine TD.seq ?_
 repeat' (first|refine wkt ?_|refine wk ?_|fail)
 show TD _ _ (.seq _ _) _ _ _ _ _ _
 refine TD.defer (tz:=0) rfl rfl ?_
 have m1:(p.enums.map enT).length=p.enums.length:=List.length_map _
 have m2:(p.nodes.map nodT).length=p.nodes.length:=List.length_map _
 have b1:=w_lenM enT 2 p.enums
 have b2:=w_lenM nodT 8 p.nodes
 have hen:∀(n q:Int) u,u∈p.enums->LS 112 [.t (.ag [.s u.name,.sl 1 (u.tags.map T.s)])] p.enums n q (enumE u):=fun n q u hu=>enumM_sound p.enums n q u (by
  have:=w_inM (f:=enT) (sz:=2) hu
  rw[enT,w_ag]at this;simp only[List.map_cons,List.map_nil,List.sum_cons,List.sum_nil]at this
  have:=w_lenM T.s 1 u.tags
  omega)
 have hno:∀(a b i:Int) u,u∈p.nodes->Sound Tryz.prog 113 [.ref 0 0,.i i,.t (.ag (nodC u))] [lookB p.enums a b] (Err (nodeX p.enums u).2 (.tup []) (failV i (nodeX p.enums u).1 (nodeX p.enums u).2) [lookB p.enums i (-1)]):=fun a b i u hu=>nodeM_sound p.enums a b i u (by
  have:=w_inM (f:=nodT) (sz:=8) hu
  have:(nodesT p.nodes).w=(T.sl 8 (p.nodes.map nodT)).w:=rfl
  omega)
 have hz:shapeX p=shapeX p:=rfl
 conv at hz=>rhs;unfold shapeX limE
 generalize shapeX p=z at hz⊢
 refine wk ?_
 repeat' (first|refine wkt ?_|refine wka ?_|refine wk ?_|exact wkc|intro hc|refine wk2 ?_ ?_|(apply TO.call1 [2] (must_ok p.enums (-1) (-1) 3);exact rfl;exact rfl;exact rfl;exact⟨Le.refl _,Le.refl _,Le.refl _,trivial⟩;exact rfl;exact Hands.one rfl rfl;exact rfl;exact rfl)|refine we3 (must_no p.enums (-1) (-1) 3 (by decide)) ?_ ?_|fail)
 all_goals first
  | (have hzz:z=((-1,-1),3):=by rw[hz];clear hen hno;grind
     subst hzz
     exact⟨_,close_some _ _ _ _ _ _ _ rfl,fun H3 h=>by subst h;exact wkr⟩)
  | skip
 rw[if_neg (by clear hen hno hz;simp;omega)]at hz
 refine TR.loopN p.enums.length (fun k=>firstE enumE (p.enums.take k)=0) (fun k=>[(1,.cp [.sl 2 (p.enums.map enT),nodesT p.nodes] 0),(2,.ref 0 0),(3,.ref 1 0),(4,.ref 2 0),(28,.t (.sl 2 (p.enums.map enT))),(29,.i (p.enums.map enT).length),(30,.i k)])
  (fun k=>[.cells [.i 0,.i 0],.cells [.i 0],lookB p.enums (-1) (-1)]) rfl (fun k hlt ha=>?_) (fun ha=>?_)
 ·have hx:(p.enums.map enT)[k]?=some (.ag [.s p.enums[k].name,.sl 1 (p.enums[k].tags.map T.s)]):=at_map enT hlt
  have g1:=firstE_at (f:=enumE) hlt ha
  have g2:=firstE_next (f:=enumE) hlt ha
  have hs:=hen (-1) (-1) _ (List.getElem_mem hlt)
  generalize p.enums[k]=u at*
  clear hen hno
  repeat' (first|refine wkt ?_|refine wka ?_|refine wk ?_|exact wkc|intro hc|refine wk2 ?_ ?_|refine we3 hs ?_ ?_|fail)
  ·exact LoopK.nextN hlt (g2 hc)
  ·rw[if_pos (by rw[g1 hc];exact hc),g1 hc]at hz
   subst hz
   refine LoopK.panic ?_
   refine wk ?_
   exact⟨_,close_some _ _ _ _ _ _ _ rfl,fun H3 h=>by subst h;exact wkr⟩
 have e1:=firstE_all ha
 rw[if_neg (by simp[e1])]at hz
 clear hen
 refine wk ?_
 repeat' (first|refine wkt ?_|refine wk ?_|exact wkc|intro hc|refine wk2 ?_ ?_|fail)
 refine TR.loopN p.nodes.length (fun k=>firstE (fun n=>(nodeX p.enums n).2) (p.nodes.take k)=0) (fun k=>[(2,.ref 0 0),(3,.ref 1 0),(4,.ref 2 0),(39,.t (nodesT p.nodes)),(40,.i (p.nodes.map nodT).length),(41,.i k)])
  (fun k=>[.cells [.i 0,.i 0],.cells [.i 0],lookB p.enums ((k:Int)-1) (-1)]) rfl (fun k hlt ha=>?_) (fun ha=>?_)
 ·have hx:=at_nod hlt
  have g1:=firstE_at (f:=fun n=>(nodeX p.enums n).2) hlt ha
  have g2:=firstE_next (f:=fun n=>(nodeX p.enums n).2) hlt ha
  have g3:=firstI_at (f:=fun n=>(nodeX p.enums n).2) hlt ha
  have hs:=hno ((k:Int)-1) (-1) k _ (List.getElem_mem hlt)
  have hat:p.nodes[k]?=some p.nodes[k]:=List.getElem?_eq_getElem hlt
  generalize p.nodes[k]=u at*
  clear hno
  unfold nodC at hx hs
  repeat' (first|refine wkt ?_|refine wka ?_|refine wk ?_|exact wkc|intro hc|refine wk2 ?_ ?_|refine we3 hs ?_ ?_|fail)
  ·refine LoopK.nextN hlt (g2 hc) ?_ (by rw[show((k+1:Nat):Int)-1=k from by omega];rfl)
   repeat' (first|exact trivial|refine And.intro rfl ?_|fail)
  ·rw[if_neg (by rw[g1 hc];exact hc),g3 hc,g1 hc]at hz
   simp only[Int.toNat_natCast,hat,Option.map_some,Option.getD_some]at hz
   subst hz
   refine LoopK.panic ?_
   refine wk ?_
   exact⟨_,close_some _ _ _ _ _ _ _ rfl,fun H3 h=>by subst h;exact wkr⟩
 have e2:=firstE_all ha
 rw[if_pos e2]at hz
 subst hz
 refine wk ?_
 repeat' (first|refine wkt ?_|refine wk ?_|exact wkc|intro hc|refine wk2 ?_ ?_|fail)
 exact⟨_,close_none _ rfl,fun H3 h=>by subst h;exact wkr⟩
end Go.Proofs.YtlocalghkiepmaaGreat
