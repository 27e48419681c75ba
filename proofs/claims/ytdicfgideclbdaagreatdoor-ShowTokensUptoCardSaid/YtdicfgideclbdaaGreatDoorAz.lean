import Derived.KernelRfl
set_option linter.all false
theorem oA{G:Prop}(h:G:=by omega):G:=h
theorem oB{G:Prop}(h:G:=by decide):G:=h
theorem oC{G:Prop}(h:G:=by simp):G:=h
theorem oD{G:Prop}(h:G:=by kernel_rfl):G:=h
theorem oE{G:Prop}(h:G:=by assumption):G:=h
theorem oF{G:Prop}(h:G:=by simp;omega):G:=h
def oG:=@if_pos
def oH:=@if_neg
def oI:=@absurd
def oJ:=@congrArg
def qaa:=@List.getElem?_eq_some_iff
def qab:=@List.length_append
def qac:=@List.length_map
def qad:=@List.getElem?_eq_getElem
def qae:=@List.length_cons
def qaf:=@List.map_cons
def qag:=@Nat.le_refl
def qah:=@List.mem_cons_self
def qai:=@List.mem_cons_of_mem
def qaj:=@Nat.le_of_ble_eq_true
def qak:=@List.getElem_mem
def qal:=@List.length_nil
def qam:=@Array.getElem?_eq_some_iff
def qan:=@List.getElem?_map
def qao:=@Option.bind_eq_some_iff
def qap:=@List.take_length
def qaq:=@Array.getElem?_eq_getElem
def qar:=@Bool.and_eq_true
def qas:=@List.getElem?_append_right
def qat:=@List.getElem?_append_left
def qau:=@List.mem_of_getElem?
def qav:=@And.intro
def qaw:=@List.map_append
def qax:=@Nat.le_trans
def qay:=@List.append_assoc
def qaz:=@List.append_nil
def qaA:=@Classical.byContradiction
def qaB:=@List.all_eq_true
def qaC:=@List.getElem?_set_self
def qaD:=@List.map_nil
def qaE:=@List.take_succ_eq_append_getElem
def qaF:=@List.eq_nil_of_length_eq_zero
def qaG:=@List.sum_cons
def qaH:=@Nat.mul_le_mul_right
def qaI:=@Option.some.injEq
def qaJ:=@List.take_of_length_le
def qaK:=@List.flatten_cons
def qaL:=@List.mem_map
def qaM:=@Nat.zero_le
def qaN:=@List.drop_eq_getElem_cons
def qaO:=@List.take_succ_cons
def qaP:=@List.nil_append
def qaQ:=@Array.getElem?_setIfInBounds
def qaR:=@Bool.eq_false_iff
def qaS:=@List.mem_of_mem_take
def qaT:=@Option.map_some
def qaU:=@List.getElem?_cons_succ
def qaV:=@Nat.zero_add
def qaW:=@List.getElem?_set_ne
def qaX:=@List.take_append_drop
def qaY:=@Nat.eq_of_beq_eq_true
def qaZ:=@List.cons_append
def qa0:=@List.map_map
def qa1:=@Nat.add_assoc
def qa2:=@List.drop_of_length_le
def qa3:=@Nat.add_mul
def qa4:=@List.length_drop
def qa5:=@List.mem_cons
def qa6:=@List.getElem?_take
def qa7:=@Array.getElem?_append_left
def qa8:=@List.getElem?_eq_none
def qa9:=@List.sum_nil
def qba:=@List.length_take
def qbb:=@List.getElem?_drop
def qbc:=@Nat.lt_of_lt_of_le
def qbd:=@List.cons.injEq
def qbe:=@List.mem_append
def qbf:=@List.length_pos_iff
def qbg:=@List.getElem?_of_mem
def qbh:=@List.takeWhile_append_dropWhile
def qbi:=@Array.getElem?_append_right
def qbj:=@List.drop_zero
def qbk:=@List.takeWhile_cons
def qbl:=@List.mem_singleton
def qbm:=@Option.getD_some
def qbn:=@Nat.blt_eq
def qbo:=@List.zipWith_cons_cons
def qbp:=@Array.getD_eq_getD_getElem?
def qbq:=@List.drop_succ_cons
def qbr:=@List.take_zero
def qbs:=@List.nodup_append
def qbt:=@Prod.mk.injEq
def qbu:=@Array.getElem?_replicate
def qbv:=@List.set_getElem_self
def qbw:=@List.sizeOf_lt_of_mem
def qbx:=@Bool.and_true
def qby:=@Classical.axiomOfChoice
def qbz:=@List.nodup_cons
def qbA:=@Bool.not_eq_true'
def qbB:=@List.map_take
def qbC:=@Array.getElem?_modify
def qbD:=@Nat.beq_refl
def qbE:=@Nat.le_of_not_lt
def qbF:=@Nat.lt_succ_self
def qbG:=@List.mem_append_left
def qbH:=@List.all_cons
def qbI:=@List.nodup_nil
def qbJ:=@List.foldl_append
def qbK:=@List.take_add_one
def qbL:=@Bool.or_eq_true
def qbM:=@List.flatten_append
def qbN:=@List.replicate_succ
def qbO:=@List.drop_eq_nil_of_le
def qbP:=@List.length_eq_one_iff
def qbQ:=@List.getD_eq_getElem?_getD
def qbR:=@List.mem_flatten
def qbS:=@List.set_append_right
def qbT:=@List.drop_left
def qbU:=@Nat.mul_le_mul
def qbV:=@Bool.false_or
def qbW:=@List.not_mem_nil
def qbX:=@List.drop_drop
def qbY:=@List.all_append
def qbZ:=@List.contains_iff_mem
def qb0:=@List.foldl_cons
def qb1:=@List.length_replicate
def qb2:=@List.length_singleton
def qb3:=@List.mem_append_right
def qb4:=@List.singleton_append
def qb5:=@Nat.le_of_lt
def qb6:=@Nat.sub_self
def qb7:=@Nat.succ_mul
def qb8:=@List.mapM_cons
def qb9:=@List.mem_of_find?_eq_some
def qca:=@List.flatten_nil
def qcb:=@List.getElem_map
def qcc:=@List.length_zipWith
def qcd:=@Array.append_assoc
def qce:=@Bool.false_ne_true
def qcf:=@List.getElem?_cons_zero
def qcg:=@List.mem_filter
def qch:=@List.set_cons_zero
def qci:=@Option.some.inj
def qcj:=@List.eq_nil_iff_forall_not_mem
def qck:=@Nat.add_comm
def qcl:=@Nat.add_zero
def qcm:=@Nat.ble_eq_true_of_le
def qcn:=@List.drop_append_of_le_length
def qco:=@List.take_append_of_le_length
def qcp:=@Bool.not_true
def qcq:=@Bool.true_and
def qcr:=@List.getElem?_range
def qcs:=@List.length_set
def qct:=@List.sum_append
def qcu:=@Array.getElem?_map
def qcv:=@List.find?_eq_none
def qcw:=@List.map_singleton
def qcx:=@Nat.mul_comm
def qcy:=@Nat.zero_mul
def qcz:=@Array.mapM_eq_mapM_toList
def qcA:=@Bool.false_and
def qcB:=@List.take_left
def qcC:=@Decidable.not_not
def qcD:=@Function.comp_def
def qcE:=@Int.toNat_natCast
def qcF:=@List.getElem?_inj
def qcG:=@List.map_id
def qcH:=@List.any_eq_true
def qcI:=@List.drop_append
def qcJ:=@List.zipIdx_cons
def qcK:=@Nat.lt_of_not_le
def qcL:=@List.getElem_cons_zero
def qcM:=@List.zipWith_nil_right
def qcN:=@Bool.and_eq_false_iff
def qcO:=@List.filter_map
def qcP:=@List.length_filter_le
def qcQ:=@Bool.or_eq_false_iff
def qcR:=@List.set_append_left
def qcS:=@Nat.mul_one
def qcT:=@List.cons.inj
def qcU:=@List.map_set
def qcV:=@List.set_set
def qcW:=@Nat.succ_pos
structure Zh(Q:Prop):Prop where
 p:Q
theorem zqa{G:Prop}(h:G:=by (repeat' (first|exact trivial|exact Le.refl _|refine qav ?_ ?_|exact Le.any _|exact Le.nil _|exact Le.own _ _ _|refine Le.tree rfl ?_|exact TLe.refl _|exact TLe.nil _|refine TLe.ags ?_|fail)) <;> fail):G:=h
theorem zqb{G Q:Prop}(z_:Q)(h:Zh Q->G:=by intro z_;apply TO.zm5 zaf;(iterate 13 exact rfl);(first|omega|(simp only[qab,qae,qal];omega));exact rfl;exact z_.p):G:=h ⟨z_⟩
theorem zqc{G Q:Prop}(z_:Q)(h:Zh Q->G:=by intro z_;apply TO.cat;(iterate 3 exact rfl);(first|omega|(simp only[qab,qae,qal];omega));exact z_.p):G:=h ⟨z_⟩
theorem zqd{G Q:Prop}(z_:Q)(h:Zh Q->G:=by intro z_;apply TO.cat;(iterate 3 exact rfl);(simp only[qab,qae,qal];omega);exact z_.p):G:=h ⟨z_⟩
theorem zqe{G:Prop}(h:G:=by (first|omega|(simp only[qab,qae,qal];omega)) <;> fail):G:=h
theorem zqf{G Q:Prop}(z_:Q)(h:Zh Q->G:=by intro z_;apply TO.indexAddr zaf;(iterate 8 exact rfl);decide;exact rfl;exact z_.p):G:=h ⟨z_⟩
theorem zqg{G Q:Prop}(z_:Q)(h:Zh Q->G:=by intro z_;apply TO.indexAddr zaf;(iterate 8 exact rfl);omega;exact hx;exact z_.p):G:=h ⟨z_⟩
theorem zqh{G Q:Prop}(z_:Q)(h:Zh Q->G:=by intro z_;apply TO.zg6 zaf;(iterate 7 exact rfl);omega;omega;exact z_.p):G:=h ⟨z_⟩
theorem zqi{G Q:Prop}(z_:Q)(h:Zh Q->G:=by intro z_;apply TO.add;(iterate 3 exact rfl);omega;omega;exact z_.p):G:=h ⟨z_⟩
theorem zqj{G Q:Prop}(z_:Q)(h:Zh Q->G:=by intro z_;apply TO.box;(iterate 4 exact rfl);exact z_.p):G:=h ⟨z_⟩
theorem zwa{G:Prop}(h:G:=by
 have he:exC q=[T.n q.kind,T.n q.op,T.n q.t,T.n q.v,.s q.name,.sl 6 (q.args.map exT)]:=rfl;rw[he]at hx hs;repeat' (first|refine wkt ?_|refine zqg ?_|exact wkc|refine wk2 ?_ ?_|intro hc)
 apply TR.zfC (envF:=_) (HF:=ln1 es (ac2++ln)) [(_,false),(_,false),(_,false),(_,false),(_,false),(_,false),(_,false),(_,false),(_,false),(_,true)] [ln1 es ac2,ln1 es (ac2++ln)] hmix
 case hB=>(dsimp only[List.map];decide +kernel)
 case h0=>exact rfl
 case hF=>exact rfl
 case hp=>
  repeat' (first|(refine qav (fun H hH env=>?_) ?_;rcases znK hH with rfl|rfl)|refine qav (fun env=>?_) ?_|refine wma ?_|(apply TO.zbI 1 hs;(iterate 3 exact rfl);exact Les.refl _;(iterate 8 exact rfl))|(apply TO.zbI 3 hadd;(iterate 3 exact rfl);exact Les.refl _;(iterate 8 exact rfl))|(apply TO.cat;(iterate 3 exact rfl);exact zqe)|exact trivial|exact qav rfl rfl|refine wmk ?_|fail)
  done
 case hE=>exact rfl
 case hK=>
  refine ya ?_;exact zac.zaH hlt trivial (by(try dsimp only);exact⟨rfl,rfl,rfl,rfl,rfl,trivial⟩) (by(try dsimp only);rw[hj1])):G:=h
theorem zwb{G:Prop}(h:G:=by
 have hlt2:j<(args.take n).length:=by rw[hl2];exact hlt
 have hx:=zeA hlt2;rw[<-hmt]at hx;have htk:=zbg hlt2;have hmem:(args.take n)[j]∈args:=qaS (qak hlt2);have hs:=hf _ hmem;have hlen:(((args.take n).take j).map (T.s ∘ f)).length≤1000000:=by rw[qac,qba,hl2];omega
 unfold ShC at hs;generalize (args.take n)[j]=x at*;have hgx:(T.s ∘ f) x=T.s (f x):=rfl;generalize f x=g at*;unfold exC at hx hs;refine yc hs ?_;exact zac.zaH hlt trivial (by(try dsimp only);rw[htk,qaw,qcw,hgx];exact⟨rfl,rfl,rfl,rfl,rfl,rfl,rfl,trivial⟩) (by(try dsimp only);rw[htk,qaw,qcw,hgx,qab];rfl)):G:=h
theorem zwc{G:Prop}(h:G:=by
 refine wk ?_;repeat' (first|refine wkt ?_|refine wka ?_|refine zqi ?_|(apply TO.zuc hidx;(iterate 3 exact rfl);exact⟨hlent,LeB.fn1 _ (LeB.cp _ _),trivial⟩;exact Rigid.v _)|(apply TO.rem2;(iterate 3 exact rfl))|(apply TO.quo2;(iterate 3 exact rfl);omega)|(apply TO.zqx zaf;(iterate 7 exact rfl);omega;omega)|(apply TO.zf4 zaf;(iterate 4 exact rfl);exact hbk;exact hc4)|(apply TO.zmG zaf;(iterate 6 exact rfl);exact hgetX;exact hoffX;exact hsetX)|refine wk ?_|exact wkc|(intro hc;exfalso;omega)|refine wk2 ?_ ?_|intro hc)
 exact zac.zaH hk2 (zuO hgk z3 hb)):G:=h
theorem zwd{G:Prop}(h:G:=by
 have htx:zar (5,x,p)=39::x++[39]:=by simp[zar]
 rw[htx];have hs:zao zav (x++39::R)=x:=zcE ha (fun c r e=>by cases e;decide);have hb:behind zav (x++39::R)=39::R:=by rw[behind,hs,qbT]
 refine⟨?_,?_,by simp⟩
 ·have:(39::x++[39]++R:Str)=39::(x++39::R):=by simp
  rw[this];unfold zae;simp only;rw[if_neg (by decide),if_neg (by decide),if_pos (by decide),hs,hb];simp[zdk,zdj,zfm]
 ·exact zkU (c:=39) (r:=x++[39]++R) (by decide) (by decide)):G:=h
theorem zwe{G:Prop}(h:G:=by
 subst hf;clear hfk1 hfk2;cases sm
 all_goals
  repeat' (first|refine wkt ?_|refine wka ?_|refine wkD ?_|refine wk ?_|exact wkc|refine wk2 ?_ ?_|refine wsx ?_|refine wms ?_|refine wsy ?_ ?_|refine wss hs ?_ ?_|refine wb hal ?_ ?_|intro hc)
 all_goals first
  | (exfalso;omega)
  | (refine zac.zaH hlt (g2 rfl) ?_
     simp only[qcA,qcq]at g3
     first|rw[hc]at g3|skip
     simp only[hfs1,g3];repeat' (first|exact trivial|refine qav rfl ?_|fail))):G:=h
theorem zwf{G:Prop}(h:G:=by
 unfold exC at hx hs;have hr:=zfD es i (-1) (zbi es u);generalize zbi es u=xe at*;repeat' (first|refine wu ?_|exact wkc|refine wk2 ?_ ?_|refine wv hs ?_|refine we hr ?_ ?_|intro hc)
 all_goals first
  | exact zac.zaH hlt (g2 hc)
  | ((repeat' (first|refine zac.panic ?_|refine wk ?_|fail));apply retQ;(first|assumption|decide);(clear hs hr hex hx;grind);(clear hs hr hex hx;grind);exact rfl;exact rfl)):G:=h
theorem zwg{G:Prop}(h:G:=by
 have hcx:exC x=[T.n x.kind,T.n x.op,T.n x.t,T.n x.v,.s x.name,.sl 6 (x.args.map exT)]:=rfl;rw[hcx]at ho⊢;repeat' (first|refine wu ?_|exact wkc|refine wk2 ?_ ?_|intro hc)
 refine⟨rfl,?_⟩;repeat' (first|refine wu ?_|exact wkc|refine wk2 ?_ ?_|refine wv ho ?_|intro hc)
 ·refine⟨_,?_,rfl,rfl⟩;rw[errF,if_neg hc];rfl
 ·refine⟨?_,rfl,rfl⟩;rw[errF,if_pos (by simpa using hc)]):G:=h
theorem zwh{G:Prop}(h:G:=by
 cases ad with
 | none=>
   simp only at had;subst had;subst h0;refine Calls.mono (zln p.b (p.lo+off) m.w hy) ?_;rintro e w' ⟨rfl,rfl⟩;exact same _ rfl rfl
 | some a=>
   simp only at had;obtain⟨rfl,hc0⟩:=had;subst h0;refine Calls.mono (zlo p.b (p.lo+off) p1.b cap hc0 m.w hy) ?_;rintro e w' ⟨rfl,rfl⟩;exact same _ rfl rfl):G:=h
theorem zwi{G:Prop}(h:G:=by
 apply TO.call [0,1] hS
 ·exact rfl
 ·exact rfl
 ·exact rfl
 ·exact⟨Le.tref _ _ _ _,trivial⟩
 ·exact rfl
 ·exact Hands.two (by decide) rfl rfl rfl rfl
 ·rintro v Hc' ⟨h1,h2⟩;cases h1;rw[<-ha];repeat' (first|refine wg2 ?_ ?_|refine wg ?_|exact wgc|intro hc)
  exact RetK.pure rfl (Le.refl _) rfl
 ·rintro v Hc' ⟨h1,h2⟩;cases h1):G:=h
theorem zwj{G:Prop}(h:G:=by
 have hd:digit c.toNat=true:=ha c (by rw[hx];exact qah);obtain⟨g1,g2,g3,g4⟩:=znq hd;refine⟨?_,?_,by rw[hx];simp⟩
 ·have:x++R=c::(w++R):=by rw[hx];rfl
  rw[this]at hs⊢;unfold zae;simp only;rw[if_neg (by rw[g1];simp),if_pos hd,hs,hn]
 ·rw[hx];exact zkU g2 g3):G:=h
theorem zwk{G:Prop}(h:G:=by
 unfold zfR at hx;repeat' (first|refine wkt ?_|refine wka ?_|refine wkD ?_|refine wk ?_|exact wkc|refine wk2 ?_ ?_|refine wsx ?_|refine wms ?_|refine wsy ?_ ?_|intro hc)
 refine zac.zaH hlt trivial ?_ (by rw[g2];rfl);repeat' (first|exact trivial|refine qav rfl ?_|fail)):G:=h
theorem zwl{G:Prop}(h:G:=by
 have hjs:=g2 _ e (r3 e he);have h6:i*sz=es.length*sz+(i-es.length)*sz:=by rw[<-qa3];congr 1;omega
 simp only[if_neg (show ¬i*sz+j<es.length*sz from by omega)];rw[show i*sz+j-es.length*sz=(i-es.length)*sz+j from by omega];exact s.trel hm (g3 _ e j c (r3 e he) hc)):G:=h
theorem zwm{G:Prop}(h:G:=by
 obtain⟨g1,g2⟩:=zhO _ _ _ _ hv;have hi:=(qaa.1 g2).1;have hvi:vs[i]?=some (vs[i]'(by rw[h3.1];omega)):=qaq _;exact⟨_,by rw[qa7 (by rw[h3.1];omega)];exact hvi,h3.2 i v _ (by simpa using g2) hvi⟩):G:=h
theorem zwn{G:Prop}(h:G:=by
 refine⟨?_,?_,g7⟩
 ·rw[he]at g6⊢;unfold zae;simp only;rw[if_neg (by rw[g1];simp),if_neg (by rw[g2];simp),if_neg (by rw[g3];simp),g6];unfold zg8;rw[if_neg];intro h0;exact g7 (by simpa using h0)
 ·rw[he]at g5⊢;exact zge g4 g5):G:=h
theorem zwo{G:Prop}(h:G:=by
 intro φ m a h1 h2 h3 h4;refine k φ m a h1 h2 ⟨h3.1,fun j w hw=>?_⟩ h4;by_cases hj:i=j
 ·subst hj;rw[Env.zap]at hw;cases hw;obtain⟨x,x1,x2⟩:=h3.2 i _ hi;exact⟨x,x1,hl m x x2⟩
 ·rw[Env.zah _ _ hj]at hw;exact h3.2 j w hw):G:=h
theorem zwp{G:Prop}(h:G:=by
 rw[<-hmc.len];by_cases h0:l.length=0
 ·omega
 ·have hlt:l.length-1<(cutM m l Hc).β.length:=by simp[cutM];omega
  obtain⟨p',hp',_⟩:=s.ids (l.length-1) _ (qad hlt)
  have:=(qaa.1 hp').1
  omega):G:=h
theorem zwq{G:Prop}(h:G:=by
 all_goals first
  | exact zac.zaH hlt2 (g2 hc)
  | ((repeat' (first|refine zac.panic ?_|refine wk ?_|fail));apply retF;(first|assumption|decide);(clear hi hd1 ht1 ht2 heq hau hx hx2 hs;grind);exact rfl;exact rfl)):G:=h
theorem zwr{G:Prop}(h:G:=by
 refine qax (zcL [44,32] 1000000000000 _ fun y hy=>?_) ?_
 ·obtain⟨x,hx,rfl⟩:=qaL.1 hy;exact hl x (qaS hx)
 ·rw[qac,hl2];exact qaH _ (by omega)):G:=h
theorem zws{G:Prop}(h:G:=by
 rw[this,qaz]at h3;refine RetK.keep 1 rfl (Le.refl _) rfl rfl rfl rfl rfl ⟨by rw[h3];rfl,?_⟩;rw[h3];simp only[qa4,qba];rw[show i+(min k s.length-i)=k from by omega];rfl):G:=h
theorem zwt{G:Prop}(h:G:=by
 have h':∀d:Nat,(Op.equalIn (d+1) t (.pointer p) (.pointer none)).run P w= .ok p.isNone w:=fun d=>by
  cases p <;> simp[Op.equalIn,run_underlying h]
 simp only[Go.binOp];simp[Op.equal,Op.maxDepth,h' 9999]):G:=h
theorem zwu{G:Prop}(h:G:=by
 rw[zbw];cases hpk:(zaC (zaC env0 w++zaM all (V s) env0) (slotsOf all o)).look t with
 | none=>exact e2
 | some u'=>
   have:=hlook t u' (by rw[zbw,hpk])
   rw[this]at e2;exact e2):G:=h
theorem zwv{G:Prop}(h:G:=by
 generalize args.map exT=la at*;clear hop hme hca hf hg hsm hva;refine so Tryz.func43 ?_;refine wkt ?_;refine zqj ?_;refine yj hs ?_;exact RetK.keep 1 rfl (Le.refl _) rfl rfl rfl rfl rfl ⟨rfl,rfl⟩):G:=h
theorem zww{G:Prop}(h:G:=by
 refine⟨?_,?_,by rw[hx];simp⟩
 ·have:x++R=c::(w++R):=by rw[hx];rfl
  rw[this]at hs⊢;unfold zae;simp only;rw[if_pos hc,hs,hn]
 ·rw[hx];obtain⟨g1,g2,_⟩:=zg7 hc;exact zkU g1 g2):G:=h
theorem zwx{G:Prop}(h:G:=by
 refine InR.ite (fun hs=>⟨qag _,zal hs⟩) fun _=>InR.ite (fun hs=>⟨qag _,zal hs⟩) fun _=>(zhk h).bind fun v j h1 h2=>?_
 split
 ·exact⟨h1,h2⟩
 ·exact⟨by omega,by decide⟩):G:=h
theorem zwy{G:Prop}(h:G:=by
 refine so Tryz.func161 ?_;repeat' (first|refine wk ?_|exact wkc|refine wk2 ?_ ?_|refine wv c1 ?_|refine wv c2 ?_|refine wv c3 ?_|refine wv c4 ?_|refine wv c5 ?_|intro hc)
 all_goals exact wkr):G:=h
theorem zwz{G:Prop}(h:G:=by
 rw[if_neg (Bool.not_eq_true _ ▸ hc)]at ha;exact zac.cut 2 (k+1,_) ⟨hlt,ha,fun h=>by simp at h⟩ (by simp only;omega) ⟨rfl,rfl,rfl,rfl,trivial⟩ (by simp only[zoz];rfl) rfl rfl rfl rfl):G:=h
theorem zwba{G:Prop}(h:G:=by
 all_goals first
  | (exfalso;omega)
  | exact zac.zaH hlt trivial (by(try dsimp only);rw[hL1];exact⟨rfl,rfl,rfl,rfl,rfl,trivial⟩) (by(try dsimp only);rw[hL1,qab];rfl)):G:=h
theorem zwbb{G:Prop}(h:G:=by
 refine ya ?_;refine RetK.pure rfl (Le.zAh rfl ?_) rfl;repeat' (first|exact trivial|exact TLs.nil _|refine TLs.agL ?_|refine TLs.slL ?_|refine qav ?_ ?_|exact TLs.refl _|fail)):G:=h
theorem zwbc{G:Prop}(h:G:=by
 rcases k.fromA x o hx with h1|h1|h1
 ·exact h.fromA x o h1
 ·rcases h.fromO x o h1 with h2|h2
  ·exact .inr (.inl h2)
  ·exact .inr (.inr h2)
 ·exact .inr (.inr (qax h.size h1))):G:=h
theorem zwbd{G:Prop}(h:G:=by
 rw[if_pos (by rw[g1 hc];exact hc),g1 hc]at hz;subst hz;repeat' (first|refine zac.panic ?_|refine wk ?_|fail)
 exact⟨_,zh1 _ _ _ _ _ _ _ rfl,fun H3 h=>by subst h;exact wkr⟩):G:=h
theorem zwbe{G:Prop}(h:G:=by
 have h2:(zb0 p.nodes).w=(T.sl 8 (p.nodes.map nodT)).w:=rfl;have h3:=hw;rw[w_ag]at h3;simp only[zbr,qaf,qaD,qaG,qa9]at h3;omega):G:=h
theorem zwbf{G:Prop}(h:G:=by
 refine so Tryz.func7 ?_;repeat' (first|refine wu ?_|exact wkc|refine wk2 ?_ ?_|refine wv s1 ?_|refine wv s2 ?_|intro hc)
 all_goals first
  | exact wkr
  | (exfalso;omega)):G:=h
theorem zwbg{G:Prop}(h:G:=by
 rw[zau]at hlt2;generalize ss[k]=s at*;split at ha
 ·rename_i hb;rw[hb,if_pos rfl]at ht;refine yc ht ?_;exact zac.zaH hlt ⟨ha,by have:=hlt2 hb;omega⟩
 ·cases ha):G:=h
theorem zwbh{G:Prop}(h:G:=by
 refine⟨by simp[g1],fun i x y hx hy=>?_⟩;cases i with
 | zero=>simp at hx hy;subst hx;subst hy;exact h.1
 | succ i=>exact g2 i x y (by simpa using hx) (by simpa using hy)):G:=h
theorem zwbi{G:Prop}(h:G:=by
 rw[if_pos hc]at ha;exact zac.cut 2 (k+1,_) ⟨hlt,ha,fun h=>by simp at h⟩ (by simp only;omega) ⟨rfl,rfl,rfl,rfl,trivial⟩ (by simp only[zoz];rfl) rfl rfl rfl rfl):G:=h
theorem zwbj{G:Prop}(h:G:=by
 unfold zcc;split
 ·simp only[qab,qae,qal];omega
 ·simp only[qab,qae,qal];omega):G:=h
theorem zwbk{G:Prop}(h:G:=by
 rw[hfs,qan]at hf;cases hq:gs.toList[fi]? with
 | none=>rw[hq]at hf;cases hf
 | some g=>rw[hq]at hf;simp at hf;exact⟨g,by simpa using hq,hf.1,hf.2⟩):G:=h
theorem zwbl{G:Prop}(h:G:=by
 refine wk ?_;repeat' (first|refine wz ?_|refine wd m1 ?_|refine wd m2 ?_|refine wd m3 ?_|refine wd m4 ?_|exact wkc|refine wk2 ?_ ?_|intro hc)
 exact zsl hz):G:=h
theorem zwbm{G:Prop}(h:G:=by
 rw[k.frozen x o (qbc hx h.size) (fun ho=>?_) (h.isSome x o hx hc),h.frozen x o hx hn hc];rcases h.fromO x o ho with h1|h1
 ·exact hn h1
 ·omega):G:=h
theorem zwbn{G:Prop}(h:G:=by
 refine⟨.string s,?_⟩
 have:(⟨s.toArray⟩:ByteArray).size≤maxLen:=by
  show s.toArray.size≤maxLen;simp[maxLen];omega
 simp[keyOf,Tryz.underlying9,mapKey,this]):G:=h
theorem zwbo{G:Prop}(h:G:=by
 show _=[rdB l n es k,.tail ((xs++[e]).map equT).length,.tail (as'.map zam).length];rw[qaw,qaf,qaD,qab];rfl):G:=h
theorem zwbp{G:Prop}(h:G:=by
 refine so Tryz.func5 ?_;repeat' (first|refine wu ?_|exact wkc|refine wk2 ?_ ?_|refine wv hs ?_|intro hc)
 all_goals first
  | exact wkr
  | (exfalso;omega)):G:=h
theorem zwbq{G:Prop}(h:G:=by
 have:j*100000003000040≤64*100000003000040:=qaH _ (by omega)
 simp only[qab,qae,qal]at hal;omega):G:=h
theorem zwbr{G:Prop}(h:G:=by
 intro l
 induction l with
 | nil=>intro d hd _;exact hd
 | cons y l ih=>intro d hd hl;exact ih _ (hd.ins (hl y (by simp))) (fun x hx=>hl x (by simp[hx]))):G:=h
theorem zwbs{G:Prop}(h:G:=by
 all_goals first
  | (exfalso;omega)
  | (refine RetK.pure rfl (Le.of_eq ?_) rfl;refine congrArg (fun z=>SV.t (T.v (Value.int IntKind.i64 z))) ?_;omega)):G:=h
theorem zwbt{G:Prop}(h:G:=by
 all_goals
  refine RetK.keep 1 rfl (Le.of_eq (congrArg (fun z=>SV.t (T.v (Value.bool z))) ?_)) rfl rfl rfl rfl rfl ⟨rfl,rfl⟩;clear hx;grind):G:=h
theorem zwbu{G:Prop}(h:G:=by
 all_goals
  refine RetK.keep 2 rfl (Le.of_eq (congrArg (fun z=>SV.t (T.v (Value.bool z))) ?_)) rfl rfl rfl rfl rfl ⟨rfl,rfl⟩;clear hx;grind):G:=h
theorem zwbv{G:Prop}(h:G:=by
 cases hq:zi6 e.kind.1 e.op.1 e.t.1 e.v.1 e.name e.args.length with
 | true=>rfl
 | false=>rw[hq]at h;simp at h;split at h <;> simp at h):G:=h
theorem zwbw{G:Prop}(h:G:=by
 refine so Tryz.func92 ?_;refine wkt ?_;refine zqj ?_;refine ye hf hg ?_;exact RetK.keep 1 rfl (Le.refl _) rfl rfl rfl rfl rfl ⟨rfl,rfl⟩):G:=h
theorem zwbx{G:Prop}(h:G:=by
 show _=[rdB l n es (k+1:Nat),.tail ((xs++[d]).map zak).length];rw[qaw,qaf,qaD,qab];rfl):G:=h
theorem zwby{G:Prop}(h:G:=by
 rename_i n0 h0;have h1:=hi n hn;have h2:=ho n0 h0;refine⟨by omega,fun e=>?_⟩
 have:n0=n:=by omega
 rw[h1.2 this];exact h2.2 (by omega)):G:=h
theorem zwbz{G:Prop}(h:G:=by
 simp only[best,zck,List.foldl,zfg,qaZ,qaP,znA,zkv,qal,qae];simp[g1,g2]):G:=h
theorem zwca{G:Prop}(h:G:=by
 rw[k.block x (qbc hx h.size) (fun o ho=>?_),h.block x hx hn];rcases h.fromO x o ho with h1|h1
 ·exact hn o h1
 ·omega):G:=h
theorem zwcb{G:Prop}(h:G:=by
 constructor <;> constructor <;> dsimp only[Ex.kind,Ex.op,Ex.t,Ex.v,Ex.name,Ex.args] <;> try(first|(intros;omega)|exact fun _=>a5)):G:=h
theorem zwcc{G:Prop}(h:G:=by
 rw[k.cell x o (qbc hx h.size) (fun ho=>?_),h.cell x o hx hn];rcases h.fromO x o ho with h1|h1
 ·exact hn h1
 ·omega):G:=h
theorem zwcd{G:Prop}(h:G:=by
 simp only[qay,qaZ,qaP,qab,qae,qal];congr 1;omega):G:=h
theorem zwce{G:Prop}(h:G:=by
 have e1:=zaF ha;refine ya ?_;exact zmr e1 (Ch.ble _ _ _ _ _) (Ch.ble _ _ _ _ _) (Ch.tkl _ _ _ _ _) (Ch.und _ _ _ _ _)):G:=h
theorem zwcf{G:Prop}(h:G:=by
 rw[qaJ (by omega),qaJ (qag _),qa2 (by omega),qaz]):G:=h
theorem zwcg{G:Prop}(h:G:=by
 rw[qap];repeat' (first|refine wu ?_|exact wkc|refine wk2 ?_ ?_|intro hc)
 all_goals exact⟨rfl,⟨rfl,trivial⟩,rfl⟩):G:=h
theorem zwch{G:Prop}(h:G:=by
 intro b o hn;exact World.cell?_setCells_out _ _ _ _ _ fun q1 _=>by simp only[qac,List.length_range]at *;omega):G:=h
theorem zwci{G:Prop}(h:G:=by
 refine zac.zaH hlt (by rw[g2];exact hc) ?_ (by rw[g2];rfl);repeat' (first|exact trivial|refine qav rfl ?_|fail)):G:=h
theorem zwcj{G:Prop}(h:G:=by
 have:=b2 o ho ho'
 have hlt:=h2.inO i p _ g1 g2 rfl (by omega);unfold Free at this⊢;rw[hc _ _ hlt,hf _ _ hlt];exact this):G:=h
theorem zwck{G:Prop}(h:G:=by
 have:=b2 o ho ho'
 unfold Free at this⊢;show(w'.cell? _).isSome=true/\w'.frozen? _=false;rw[h.cell,h.frozen];exact this):G:=h
theorem zwcl{G:Prop}(h:G:=by
 cases hq:zlj e.kind.1 e.op.1 e.t.1 e.v.1 e.args.length with
 | true=>rfl
 | false=>exact absurd (.inr (.inr hq)) h1):G:=h
theorem zwcm{G:Prop}(h:G:=by
 have hs:=zgl hn;generalize wgs g q (l.take k) l.length=n at*;rw[hs];refine ya ?_;exact⟨rfl,⟨rfl,trivial⟩,rfl⟩):G:=h
theorem zwcn{G:Prop}(h:G:=by
 obtain⟨_,a,b,c,_,_,_,d⟩:=zdL h;have hb:=zme (o:=o) b;exact⟨of_decide_eq_true a,znS c,hb.1,hb.2,d rfl rfl⟩):G:=h
theorem zwco{G:Prop}(h:G:=by
 rcases hd (flT (tkQ R.es) n.eqs++(flT (tkAu R.es 3) n.autos++(tTel::L)))with ⟨T,e⟩|⟨T,e⟩|⟨T,e⟩ <;> rw[e] <;> rfl):G:=h
theorem zwcp{G:Prop}(h:G:=by
 subst hz;refine zac.panic ?_;refine wk ?_;exact⟨_,zjs _ _ _ _ _ _ _ rfl,fun H3 h=>by subst h;exact wkr⟩):G:=h
theorem zwcq{G:Prop}(h:G:=by
 refine ya ?_;exact zac.zaH hlt trivial (by(try dsimp only);rw[hst];exact⟨rfl,rfl,rfl,rfl,rfl,trivial⟩) rfl):G:=h
theorem zwcr{G:Prop}(h:G:=by
 cases hr;refine ya ?_;refine rdO rfl ?_;unfold vDs;rw[qaw,qaf,qaD]
 exact leX):G:=h
theorem zwcs{G:Prop}(h:G:=by
 have:=hl x hx
 unfold grS;split
 ·omega
 ·simp only[qab,qae,qal];omega):G:=h
theorem zwct{G:Prop}(h:G:=by
 intro v x h i c y hc hy;cases i with
 | zero=>simp at hc hy;subst hc;subst hy;exact h
 | succ i=>simp at hc):G:=h
theorem zwcu{G:Prop}(h:G:=by
 show _=some (SV.sl 7 ((xs++[e]).map equT) 1);rw[qaw,qaf,qaD,zxq e];rfl):G:=h
theorem zwcv{G:Prop}(h:G:=by
 all_goals first
  | (exfalso;omega)
  | exact RetK.zih 3 rfl (Le.refl _) rfl rfl rfl rfl rfl ⟨rfl,rfl⟩):G:=h
theorem zwcw{G:Prop}(h:G:=by
 rw[hN,zep g3,g2];simp only[zdP,zbo,g1]
 (first|exact⟨trivial,rfl⟩|exact⟨trivial,trivial⟩)):G:=h
theorem zwcx{G:Prop}(h:G:=by
 rw[hflat,zbo,hf];simp only[];rw[zib l hlt,zdx,hsc];simp only[];rw[zdx,ho]):G:=h
theorem zwcy{G:Prop}(h:G:=by
 simp only[qab,qae,qal,qaT,qbm];omega):G:=h
theorem zwcz{G:Prop}(h:G:=by
 rw[qap];refine yb hj ?_;exact RetK.keep 1 rfl (Le.refl _) rfl rfl rfl rfl rfl ⟨rfl,rfl⟩):G:=h
theorem zwda{G:Prop}(h:G:=by
 rw[qap];refine ya ?_;exact RetK.zih 3 rfl (Le.refl _) rfl rfl rfl rfl rfl ⟨rfl,rfl⟩):G:=h
theorem zwdb{G:Prop}(h:G:=by
 constructor
 ·split at hle <;> simp at hle <;> omega
 ·intro h;rw[if_pos h]at hle;simp at hle;omega):G:=h
theorem zwdc{G:Prop}(h:G:=by
 show(xs++[d]).length≤k+1;rw[qab];simp only[qae,qal];omega):G:=h
theorem zwdd{G:Prop}(h:G:=by
 simp at hy;obtain⟨r,hr',rfl⟩:=hy
 have:=qau hr'
 simp at this;exact(hf r this).2.1):G:=h
theorem zwde{G:Prop}(h:G:=by
 show _=some (SV.sl 3 ((xs++[d]).map zak) 1);rw[qaw,qaf,qaD];rfl):G:=h
theorem zwdf{G:Prop}(h:G:=by
 all_goals try(refine RetK.pure rfl ?_ rfl;exact Le.of_eq (by simp_all [pack,zbj] <;> omega))):G:=h
theorem zwdg{G:Prop}(h:G:=by
 obtain⟨dd,ti,z,h1,h2,h3,_⟩:=h.ex;rw[hk]at h3;cases dd <;> simp[TK'.fits]at h3
 subst h3;exact h1):G:=h
theorem zwdh{G:Prop}(h:G:=by
 show(xs++[e]).length≤k;rw[qab];simp only[qae,qal];omega):G:=h
theorem zwdi{G:Prop}(h:G:=by
 exact⟨y,fun _=>⟨hy1,hy0,fun c hc=>by rw[qad hj]at hc;cases hc;exact hy2⟩⟩):G:=h
theorem zwdj{G:Prop}(h:G:=by
 refine ya ?_;exact zac.zaH hlt trivial ⟨rfl,rfl,by(try dsimp only);rw[hs];rfl,rfl,trivial⟩):G:=h
theorem zwdk{G:Prop}(h:G:=by
 intro i p k h1 h2 h3;cases i with
 | zero=>simp at h1;subst h1;right;simp
 | succ i=>simp at h1):G:=h
theorem zwdl{G:Prop}(h:G:=by
 have:=h2 o ho ho'
 unfold Free at this⊢;rw[(hk o ho ho').1,(hk o ho ho').2 this.1];exact this):G:=h
theorem zwdm{G:Prop}(h:G:=by
 rw[h2,if_neg (by omega)];exact .inr ⟨j+1,by simpa using h1,by omega,by rw[h3];congr 1;omega⟩):G:=h
theorem zwdn{G:Prop}(h:G:=by
 obtain⟨z,z1,_,z2⟩:=r5 j (zvw c) (by simp[za6,hj]);rw[zbh,<-hlo,z1];cases z2;rfl):G:=h
theorem zwdo{G:Prop}(h:G:=by
 rcases k.fromO x o hx with h1|h1
 ·exact h.fromO x o h1
 ·exact .inr (qax h.size h1)):G:=h
theorem zwdp{G:Prop}(h:G:=by
 have:=(zbY (A:=m.A) (w:=m.w) _ _ hz2).1
 have h2:=(hT e ie he).len;simp at this;omega):G:=h
theorem zwdq{G:Prop}(h:G:=by
 have:=qaH sz (show q+1≤es.length from hq)
 rw[qb7]at this;omega):G:=h
theorem zwdr{G:Prop}(h:G:=by
 obtain⟨y,k,h1,h2⟩:=zjm hr;exact⟨y,k,h1,(h y k h1).1,(h y k h1).2.1,(h y k h1).2.2,h2⟩):G:=h
theorem zwds{G:Prop}(h:G:=by
 unfold Rd.txt;simp only[qan,qad hlt,qaT]):G:=h
theorem zwdt{G:Prop}(h:G:=by
 unfold errF;split <;> rename_i hq <;> split at hq <;> cases hq
 ·trivial
 ·exact⟨rfl,rfl⟩):G:=h
theorem zwdu{G:Prop}(h:G:=by
 exact zac.zaH hlj trivial ⟨rfl,rfl,rfl,by(try dsimp only);rw[hs2];rfl,rfl,trivial⟩):G:=h
theorem zwdv{G:Prop}(h:G:=by
 intro x h i y hy;cases i with
 | zero=>simp at hy;subst hy;exact h
 | succ i=>simp at hy):G:=h
theorem zwdw{G:Prop}(h:G:=by
 rw[h2];simp only[qay,qaf,qb4];congr 1;omega):G:=h
theorem zwdx{G:Prop}(h:G:=by
 unfold Rd.txt;simp only[qan,qad h,qaT]):G:=h
theorem zwdy{G:Prop}(h:G:=by
 have:(i+1)*sz≤es.length*sz:=qaH _ r1
 rw[qa3]at this;omega):G:=h
theorem zwdz{G:Prop}(h:G:=by
 rw[zda];simp only[qab,qae,qal];omega):G:=h
theorem zwea{G:Prop}(h:G:=by
 exact zac.zaH hlt trivial ⟨rfl,rfl,by(try dsimp only);rw[hs];rfl,rfl,trivial⟩):G:=h
theorem zweb{G:Prop}(h:G:=by
 intro a ha;have ha:a<3:=ha;rcases(by omega:a=0\/a=1\/a=2)with rfl|rfl|rfl <;> rfl):G:=h
theorem zwec{G:Prop}(h:G:=by
 simp only[if_neg (show ¬i*sz+j<es.length*sz from by omega)];exact g1 _ (by omega)):G:=h
theorem zwed{G:Prop}(h:G:=by
 unfold orE at h;split at h
 ·exact⟨by assumption,h⟩
 ·rename_i ha;exact absurd h ha):G:=h
theorem zwee{G:Prop}(h:G:=by
 exact RetK.at 1 rfl (Le.refl _) (qaM _) rfl rfl (zk9 1 _) ⟨rfl,rfl⟩):G:=h
theorem zwef{G:Prop}(h:G:=by
 simp only[nodC,qaf,qaD,qaG,qa9,w_s];omega):G:=h
theorem zweg{G:Prop}(h:G:=by
 refine ya ?_;exact RetK.keep 1 rfl (Le.refl _) rfl rfl rfl rfl rfl ⟨rfl,rfl⟩):G:=h
theorem zweh{G:Prop}(h:G:=by
 refine ya ?_;exact RetK.keep 2 rfl (Le.refl _) rfl rfl rfl rfl rfl ⟨rfl,rfl⟩):G:=h
theorem zwei{G:Prop}(h:G:=by
 simp only[qae,qab,qal];congr 1;omega):G:=h
theorem zwej{G:Prop}(h:G:=by
 all_goals exact RetK.zih 2 rfl (Le.refl _) rfl rfl rfl rfl rfl ⟨rfl,rfl⟩):G:=h
theorem zwek{G:Prop}(h:G:=by
 all_goals exact RetK.zih 3 rfl (Le.refl _) rfl rfl rfl rfl rfl ⟨rfl,rfl⟩):G:=h
theorem zwel{G:Prop}(h:G:=by
 obtain⟨h1,h2⟩:=zgE full t v r h;exact⟨qai _ h1,h2⟩):G:=h
theorem zwem{G:Prop}(h:G:=by
 split at h
 ·rename_i t ht;exact(qaa.1 ht).1
 ·cases h):G:=h
theorem zwen{G:Prop}(h:G:=by
 rw[e1,e2];exact RetK.keep 1 rfl (Le.refl _) rfl rfl rfl rfl rfl ⟨rfl,rfl⟩):G:=h
theorem zweo{G:Prop}(h:G:=by
 simp only[smpS,qab,qae,qal];omega):G:=h
theorem zwep{G:Prop}(h:G:=by
 exact zn8 _ _ _ (by rw[qac,qac,he];rfl)):G:=h
theorem zweq{G:Prop}(h:G:=by
 rw[if_pos hd,if_pos (by simpa using hd)];exact .inr ⟨0,by simp,rfl,rfl⟩):G:=h
theorem zwer{G:Prop}(h:G:=by
 simp only[str,Value.string.injEq,ByteArray.mk.injEq]at h;simpa using h):G:=h
theorem zwes{G:Prop}(h:G:=by
 have:=zmV (T.s x)
 simp only[qae,qal];omega):G:=h
theorem zwet{G:Prop}(h:G:=by
 obtain⟨j',h1,h2⟩:=zkk l h;exact⟨j',qai _ h1,h2⟩):G:=h
theorem zweu{G:Prop}(h:G:=by
 rw[qaw,qaf,qaD,qab];rfl):G:=h
theorem zwev{G:Prop}(h:G:=by
 rw[qap]at ha;rw[zfZ p l ha];refine yd ?_;exact wkr):G:=h
theorem zwew{G:Prop}(h:G:=by
 obtain⟨d,hdd,rfl⟩:=qaL.1 hx;exact zrK h hT (hd d hdd)):G:=h
theorem zwex{G:Prop}(h:G:=by
 simp only[qab,qae,qal];omega):G:=h
theorem zwey{G:Prop}(h:G:=by
 simp only[qab,qae,qal];omega):G:=h
theorem zwez{G:Prop}(h:G:=by
 exact zvU (ih a (by simp)).po.1 (zwQ (ih a (by simp)).cl) _):G:=h
theorem zwfa{G:Prop}(h:G:=by
 intro i j p q hij h1 h2;cases i <;> cases j <;> simp at h1 h2 hij):G:=h
theorem zwfb{G:Prop}(h:G:=by
 refine⟨p2,hp2,h1.trans h2 fun n hn hb=>?_⟩;exact(h2.zcU hb).2):G:=h
theorem zwfc{G:Prop}(h:G:=by
 rw[hN,zep g3,g2];exact zat g4.2 (hun _ _)):G:=h
theorem zwfd{G:Prop}(h:G:=by
 rw[show l.length+(j-l.length)=j from by omega]at this;exact this):G:=h
theorem zwfe{G:Prop}(h:G:=by
 simp only[qay];exact HdO.name (hn.nm (by omega)) _):G:=h
theorem zwff{G:Prop}(h:G:=by
 simp only[h,if_true];exact zs6 g left n q Hd l _ (by simp)):G:=h
theorem zwfg{G:Prop}(h:G:=by
 exact RetK.keep 1 rfl (Le.refl _) rfl rfl rfl rfl rfl ⟨rfl,rfl⟩):G:=h
theorem zwfh{G:Prop}(h:G:=by
 exact RetK.keep 2 rfl (Le.refl _) rfl rfl rfl rfl rfl ⟨rfl,rfl⟩):G:=h
theorem zwfi{G:Prop}(h:G:=by
 have:=(zbY (A:=m.A) (w:=m.w) _ _ hz2).1
 simp at this;omega):G:=h
theorem zwfj{G:Prop}(h:G:=by
 rw[zau,e]at hin;exact⟨h x j e (hin hi).1 (hin hi).2,hin hi⟩):G:=h
theorem zwfk{G:Prop}(h:G:=by
 have:=hz4 hag
 cases zz <;> simp[Value.oneCell']at this <;> rfl):G:=h
theorem zwfl{G:Prop}(h:G:=by
 rcases hk with hk|hk <;> rw[hk]at ha <;> simp at ha <;> omega):G:=h
theorem zwfm{G:Prop}(h:G:=by
 refine zac.zaH hlt ?_;rw[htk,qbY,ha];simp[hc]):G:=h
theorem zwfn{G:Prop}(h:G:=by
 cases h;exact⟨⟨by decide,by decide⟩,.inl ⟨rfl,by decide⟩⟩):G:=h
theorem zwfo{G:Prop}(h:G:=by
 cases r with
 | ok v k=>exact⟨v,k,rfl,h⟩
 | er k c=>cases h):G:=h
