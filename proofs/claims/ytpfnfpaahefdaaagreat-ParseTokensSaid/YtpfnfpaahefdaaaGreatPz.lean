import Derived.KernelRfl
set_option linter.all false
def qaa:=@List.getElem?_eq_some_iff
def qab:=@List.getElem?_eq_getElem
def qac:=@List.length_cons
def qad:=@List.length_map
def qae:=@Nat.le_refl
def qaf:=@List.length_nil
def qag:=@Nat.le_of_ble_eq_true
def qah:=@List.map_cons
def qai:=@And.intro
def qaj:=@Array.getElem?_eq_some_iff
def qak:=@Array.getElem?_eq_getElem
def qal:=@List.length_append
def qam:=@Decidable.not_not
def qan:=@Option.bind_eq_some_iff
def qao:=@List.getElem?_append_left
def qap:=@List.getElem?_set_self
def qaq:=@List.getElem?_append_right
def qar:=@List.getElem?_map
def qas:=@List.map_nil
def qat:=@Bool.and_eq_true
def qau:=@List.getElem?_set_ne
def qav:=@List.map_append
def qaw:=@List.all_eq_true
def qax:=@List.sum_cons
def qay:=@List.eq_nil_of_length_eq_zero
def qaz:=@List.getElem_mem
def qaA:=@List.mem_cons_of_mem
def qaB:=@List.mem_of_getElem?
def qaC:=@List.mem_cons_self
def qaD:=@Option.some.injEq
def qaE:=@Array.getElem?_setIfInBounds
def qaF:=@List.drop_eq_getElem_cons
def qaG:=@List.getElem?_eq_none
def qaH:=@List.take_of_length_le
def qaI:=@Nat.eq_of_beq_eq_true
def qaJ:=@List.take_succ_eq_append_getElem
def qaK:=@List.sum_nil
def qaL:=@Nat.mul_le_mul_right
def qaM:=@Nat.zero_add
def qaN:=@List.getElem?_take
def qaO:=@Nat.lt_of_lt_of_le
def qaP:=@Array.getElem?_replicate
def qaQ:=@List.length_drop
def qaR:=@List.getElem?_cons_succ
def qaS:=@Nat.add_mul
def qaT:=@Array.getElem?_append_left
def qaU:=@List.append_nil
def qaV:=@Nat.zero_le
def qaW:=@List.getElem?_drop
def qaX:=@Option.map_some
def qaY:=@Nat.add_assoc
def qaZ:=@List.drop_of_length_le
def qa0:=@Array.getD_eq_getD_getElem?
def qa1:=@Array.getElem?_append_right
def qa2:=@List.mem_map
def qa3:=@Nat.blt_eq
def qa4:=@List.takeWhile_cons
def qa5:=@List.length_take
def qa6:=@List.getElem?_of_mem
def qa7:=@List.zipWith_cons_cons
def qa8:=@List.mem_cons
def qa9:=@Nat.le_trans
def qba:=@Bool.and_true
def qbb:=@List.flatten_cons
def qbc:=@List.cons_append
def qbd:=@List.take_length
def qbe:=@List.sizeOf_lt_of_mem
def qbf:=@List.take_append_drop
def qbg:=@Nat.beq_refl
def qbh:=@Classical.axiomOfChoice
def qbi:=@List.mem_append
def qbj:=@Array.getElem?_modify
def qbk:=@List.nil_append
def qbl:=@Array.append_assoc
def qbm:=@Nat.le_of_not_lt
def qbn:=@List.append_assoc
def qbo:=@List.length_pos_iff
def qbp:=@List.drop_eq_nil_of_le
def qbq:=@List.getD_eq_getElem?_getD
def qbr:=@List.all_cons
def qbs:=@Prod.mk.injEq
def qbt:=@List.set_append_left
def qbu:=@List.cons.injEq
def qbv:=@List.length_set
def qbw:=@List.takeWhile_append_dropWhile
def qbx:=@List.take_add_one
def qby:=@List.eq_nil_iff_forall_not_mem
def qbz:=@Bool.false_or
def qbA:=@List.take_succ_cons
def qbB:=@List.nodup_nil
def qbC:=@Classical.byContradiction
def qbD:=@List.mapM_cons
def qbE:=@Nat.mul_le_mul
def qbF:=@Nat.lt_succ_self
def qbG:=@List.length_zipWith
def qbH:=@List.replicate_succ
def qbI:=@Bool.false_ne_true
def qbJ:=@List.foldl_cons
def qbK:=@List.set_cons_zero
def qbL:=@List.sum_append
def qbM:=@Bool.not_eq_true'
def qbN:=@List.drop_left
def qbO:=@List.contains_iff_mem
def qbP:=@List.length_replicate
def qbQ:=@List.map_map
def qbR:=@List.mem_append_right
def qbS:=@List.set_getElem_self
def qbT:=@Nat.lt_of_not_le
def qbU:=@Option.getD_some
def qbV:=@List.mem_append_left
def qbW:=@Bool.not_true
def qbX:=@Bool.or_eq_true
def qbY:=@List.getElem?_range
def qbZ:=@List.mem_filter
def qb0:=@List.nodup_cons
def qb1:=@Array.getElem?_map
def qb2:=@List.map_replicate
def qb3:=@Nat.le_of_lt
def qb4:=@Nat.succ_mul
def qb5:=@Array.mapM_eq_mapM_toList
def qb6:=@List.drop_drop
def qb7:=@List.drop_zero
def qb8:=@List.foldl_append
def qb9:=@List.getElem?_replicate
def qca:=@List.map_take
def qcb:=@List.zipWith_nil_right
def qcc:=@List.all_append
def qcd:=@List.filter_map
def qce:=@List.set_append_right
def qcf:=@Nat.add_comm
def qcg:=@Nat.ble_eq_true_of_le
def qch:=@List.take_left
def qci:=@List.set_set
def qcj:=@Nat.add_zero
def qck:=@Nat.mul_comm
def qcl:=@Nat.sub_self
def qcm:=@Nat.zero_mul
structure Zh(Q:Prop):Prop where
 p:Q
theorem zqa{G:Prop}(h:G:=by (repeat' (first|exact trivial|exact Le.refl _|refine qai ?_ ?_|exact Le.any _|exact Le.nil _|exact Le.own _ _ _|refine Le.tree rfl ?_|exact TLe.refl _|exact TLe.nil _|refine TLe.ags ?_|fail)) <;> fail):G:=h
theorem zqb{G Q:Prop}(z_:Q)(h:Zh Q->G:=by intro z_;apply TO.zl9 zaa;(iterate 13 exact rfl);(first|omega|(simp only[qal,qac,qaf];omega));exact rfl;exact z_.p):G:=h ⟨z_⟩
theorem zqc{G Q:Prop}(z_:Q)(h:Zh Q->G:=by intro z_;apply TO.cat;(iterate 3 exact rfl);(first|omega|(simp only[qal,qac,qaf];omega));exact z_.p):G:=h ⟨z_⟩
theorem zqd{G Q:Prop}(z_:Q)(h:Zh Q->G:=by intro z_;apply TO.store zaa;(iterate 6 exact rfl);exact leB;exact rfl;exact hoff;exact set5 hspl;exact z_.p):G:=h ⟨z_⟩
theorem zqe{G Q:Prop}(z_:Q)(h:Zh Q->G:=by intro z_;apply TO.store zaa;(iterate 6 exact rfl);exact leB;exact rfl;exact leB;exact rfl;exact z_.p):G:=h ⟨z_⟩
theorem zqf{G:Prop}(h:G:=by (first|omega|(simp only[qal,qac,qaf];omega)) <;> fail):G:=h
theorem zqg{G Q:Prop}(z_:Q)(h:Zh Q->G:=by intro z_;apply TO.zay zaa;(iterate 8 exact rfl);assumption;exact rfl;exact z_.p):G:=h ⟨z_⟩
theorem zqh{G Q:Prop}(z_:Q)(h:Zh Q->G:=by intro z_;apply TO.indexAddr zaa;(iterate 8 exact rfl);omega;exact hx;exact z_.p):G:=h ⟨z_⟩
theorem zqi{G Q:Prop}(z_:Q)(h:Zh Q->G:=by intro z_;apply TO.zfl zaa;(iterate 7 exact rfl);omega;omega;exact z_.p):G:=h ⟨z_⟩
theorem zqj{G Q:Prop}(z_:Q)(h:Zh Q->G:=by intro z_;apply TO.ssl2 zaa;(iterate 9 exact rfl);omega;omega;exact z_.p):G:=h ⟨z_⟩
theorem zqk{G Q:Prop}(z_:Q)(h:Zh Q->G:=by intro z_;apply TO.zfT zaa;(iterate 10 exact rfl);exact z_.p):G:=h ⟨z_⟩
theorem zql{G Q:Prop}(z_:Q)(h:Zh Q->G:=by intro z_;apply TO.ssl_lo zaa;(iterate 8 exact rfl);omega;exact z_.p):G:=h ⟨z_⟩
theorem zqm{G:Prop}(h:G:=by (dsimp only[List.map,List.length];decide +kernel) <;> fail):G:=h
theorem zqn{G Q:Prop}(z_:Q)(h:Zh Q->G:=by intro z_;apply TO.add;(iterate 3 exact rfl);omega;omega;exact z_.p):G:=h ⟨z_⟩
theorem zqo{G Q:Prop}(z_:Q)(h:Zh Q->G:=by intro z_;apply TO.alloc zaa;(iterate 3 exact rfl);exact z_.p):G:=h ⟨z_⟩
theorem zqp{G Q:Prop}(z_:Q)(h:Zh Q->G:=by intro z_;apply TO.box;(iterate 4 exact rfl);exact z_.p):G:=h ⟨z_⟩
theorem zwa{G:Prop}(h:G:=by
 apply TO.call [0,1] hS
 ·exact rfl
 ·exact rfl
 ·exact rfl
 ·exact⟨Le.tref _ _ _ _,trivial⟩
 ·exact rfl
 ·exact Hands.two (by decide) rfl rfl rfl rfl
 ·rintro v Hc' ⟨h1,h2⟩
  cases h1
  rw[<-ha]
  repeat' (first
   | (apply TO.move;exact rfl;exact rfl)
   | (apply TO.assign;exact rfl;exact rfl)
   | (apply TO.want;exact rfl)
   | refine zqn ?_
   | refine zqc ?_
   | (apply TO.eqs;(iterate 3 exact rfl))
   | (apply TO.nes;(iterate 3 exact rfl))
   | (apply TO.cmp;(iterate 4 exact rfl))
   | (intro hc;exact absurd hc (by decide))
   | (intro hc;exfalso;simp only[decide_eq_true_eq,decide_eq_false_iff_not,beq_iff_eq,beq_eq_false_iff_ne,bne_iff_ne,bne_eq_false_iff_eq,ne_eq,qam,not_true_eq_false]at hc;done)
   | (intro hc;exfalso;(first|simp only[decide_eq_true_eq,decide_eq_false_iff_not,beq_iff_eq,beq_eq_false_iff_ne,bne_iff_ne,bne_eq_false_iff_eq,ne_eq,qam,not_true_eq_false]at hc|skip);first|omega|(simp only[qaf,qac]at *;omega))
   | intro hc
   | (apply TO.pick;(iterate 3 exact rfl))
   | (apply TO.pass;exact rfl;exact rfl)
   | (apply TO.zbP;exact rfl)
   | (apply TO.load zaa;(iterate 5 exact rfl))
   | (apply TO.zaD zaa;(iterate 6 exact rfl))
   | (apply TO.fieldAddr zaa;(iterate 5 exact rfl);decide;exact rfl)
   | (apply TO.zaj zaa;(iterate 5 exact rfl);decide;exact rfl)
   | (apply TO.nilCheck;(iterate 3 exact rfl))
   | (apply TO.zaw zaa;(iterate 5 exact rfl);assumption)
   | (apply TO.zau zaa;(iterate 5 exact rfl);decide;exact rfl)
   | (apply TO.zaT zaa;(iterate 4 exact rfl))
   | (apply TO.zba zaa;(iterate 7 exact rfl))
   | refine zqg ?_
   | (apply TO.extract;(iterate 3 exact rfl))
   | refine TO.nil ?_
   | refine TR.seq ?_
   | refine TR.region ?_
   | (apply TR.zbO;exact rfl)
   | (apply TR.zbN;exact rfl)
   | refine Then.normal ?_
   | refine TR.block ?_
   | refine TR.skip ?_
   | (apply TR.zaU hmix;kernel_rfl;exact rfl)
   | refine TR.exit ?_
   | refine TR.ret ?_
   | refine Then.exit ?_
   | refine Then.ret ?_
   | refine zac.exit ?_
   | refine zac.ret ?_
   | refine zab.normal ?_
   | refine zab.ret ?_
   | (apply zab.same;exact rfl)
   | (apply zab.other;exact rfl)
   | (apply TO.zaI;(iterate 3 exact rfl);omega;omega)
   | (apply TO.mul64;(iterate 3 exact rfl);omega;omega)
   | (apply TO.convert_u8;exact rfl;kernel_rfl;kernel_rfl;exact rfl)
   | (apply TO.bin;(iterate 4 exact rfl))
   | (apply TO.zbb zaa;(iterate 6 exact rfl);omega;omega)
   | (apply TO.zaB zaa;(iterate 5 exact rfl);omega)
   | (apply TO.zaE zaa;(iterate 5 exact rfl);omega)
   | (apply TO.not;exact rfl;exact rfl)
   | (apply TO.zan;exact rfl;exact rfl)
   | (apply TO.zaH zaa;(iterate 4 exact rfl);exact leB)
   | (apply TO.zak zaa;(iterate 5 exact rfl);exact leB)
   | (apply TO.za9 zaa;(iterate 4 exact rfl))
   | (apply TO.za6 zaa;(iterate 7 exact rfl))
   | (apply TO.build zaa;(iterate 6 exact rfl))
   | refine zqp ?_
   | refine zqo ?_
   | refine zqe ?_
   | refine zqk ?_
   | refine zqb ?_
   | (apply TO.eqb;(iterate 3 exact rfl);kernel_rfl)
   | (apply TO.neb;(iterate 3 exact rfl);kernel_rfl)
   | (apply TO.zay (j:=0) zaa;(iterate 10 exact rfl))
   | (apply TO.makeFunc;exact rfl;exact rfl)
   | (apply TO.zah zaa;(iterate 5 exact rfl);decide;exact rfl)
   | (apply TO.zar zaa;(iterate 5 exact rfl))
   | (apply TO.zaq zaa;(iterate 4 exact rfl))
   | (apply TO.ne_nil_ptr zaa;(iterate 5 exact rfl))
   | (apply TO.ne_nil_nil zaa;(iterate 4 exact rfl))
   | refine zqj ?_
   | refine zql ?_
   | (apply TO.ssl_hi zaa;(iterate 8 exact rfl);omega))
  exact RetK.pure rfl (Le.refl _) rfl
 ·rintro v Hc' ⟨h1,h2⟩
  cases h1):G:=h
theorem zwb{G:Prop}(h:G:=by
 clear h1 h2 h3 hn
 refine TR.zbd (ι:=Nat×Nat×Ex) (fun x=>i≤x.2.1/\x.2.1≤l.length/\l.length-x.2.1≤x.1/\(rdr l es).whens x.1 x.2.2 x.2.1=r) (fun x=>l.length-x.2.1) (fun _=>[(0,.ref 0 0),(3,.ref 2 0),(2,.ref 1 0)]) (fun x=>[rdB l n es x.2.1,exZ,exB x.2.2]) ((rdr l es).K.length,j,e)
  ⟨by show i≤j;omega,hj2,by rw[zaf];show l.length-j≤l.length;omega,hr⟩ ⟨rfl,rfl,rfl,trivial⟩ rfl ?_
 clear hj1 hj2 hr
 clear j e
 rintro⟨m,j,e⟩ ⟨q1,q2,q3,q4⟩
 replace q1:i≤j:=q1
 replace q2:j≤l.length:=q2
 replace q3:l.length-j≤m:=q3
 replace q4:(rdr l es).whens m e j=r:=q4
 have ht:=zal l n es j [119,104,101,110] hl q2
 cases hw:(rdr l es).isAt j [119,104,101,110] with
 | false=>
   rw[hw,if_neg (by decide)]at ht
   rw[zl4 hw]at q4
   subst q4
   repeat' (first|refine wu ?_|exact wkc|intro hc|refine wk2 ?_ ?_|refine wd ht ?_|fail)
   apply rdV rfl
   ·exact rfl
   ·rw[vlE,zao]
    unfold exC
    exact zqa
   all_goals exact rfl
 | true=>
   have hlt:=zam hw
   rw[zaf]at hlt
   rw[hw,if_pos rfl]at ht
   cases m with
   | zero=>exfalso;omega
   | succ m=>
   rw[Rd.whens,if_pos hw]at q4
   have hs:=zdU l n es (j+1) hl hlt he ⟨[],toI 0,toI 0⟩
   have hsin:=zdB (R:=rdr l es) (i:=j+1) (by rw[zaf];exact hlt)
   rw[zaf]at hsin
   cases hq:(rdr l es).sampling (j+1) with
   | er k c=>
     rw[hq]at hs hsin q4
     have hc0:=hsin.2
     replace hs:=hs.er
     simp only[PR.vl]at hs
     simp only[PR.bind]at q4
     repeat' (first|refine wu ?_|exact wkc|intro hc|refine wk2 ?_ ?_|refine wd ht ?_|refine we hs ?_ ?_|fail)
     repeat' (first|refine zac.panic ?_|refine wk ?_|fail)
     exact rdP q4.symm hc0
   | ok o j2=>
     rw[hq]at hs hsin q4
     obtain⟨hs1,hs2⟩:=hsin
     replace hs:=hs.ok
     simp only[PR.vl]at hs
     simp only[PR.bind]at q4
     unfold onT at hs
     repeat' (first|refine wu ?_|exact wkc|intro hc|refine wk2 ?_ ?_|refine wd ht ?_|refine we hs ?_ ?_|fail)
     refine zac.cut 3 (m,j2,.mk (toI 8) (toI 0) o.t o.tag o.name [e]) ⟨?_,hs2,?_,q4⟩ ?_ ⟨rfl,rfl,rfl,trivial⟩ rfl rfl ?_ rfl rfl
     ·show i≤j2;omega
     ·show l.length-j2≤m;omega
     ·show l.length-j2<l.length-j;omega
     ·show _=[rdB l n es j2,exZ,exB (.mk (toI 8) (toI 0) o.t o.tag o.name [e])]
      unfold exB
      simp only[Ex.kind,Ex.op,Ex.t,Ex.v,Ex.name,Ex.args,qah,qas,zao e];rfl):G:=h
theorem zwc{G:Prop}(h:G:=by
 rw[if_neg (by omega)]at hr
 refine so Tryz.func116 ?_
 repeat' (first|refine wkt ?_|(apply TO.want;exact rfl)|refine wd h1 ?_|refine wd h2 ?_|refine wd h3 ?_|exact wkc|intro hc|refine wk2 ?_ ?_|fail)
 refine rgS [.ref 0 0,.ref 0 0,.ref 0 0,.ref 0 0,.t (.sl 3 (l.map tokT)),.ref 0 0,.ref 0 0,.ref 0 2,.i i,.cp [T.i tk.1,.s tk.2.1,T.i tk.2.2] 0,.cp [T.i tk.1,.s tk.2.1,T.i tk.2.2] 1,.s tk.2.1,.tup [.i (u:Int),.i (w:Int),.b true],.tup [.i (u:Int),.i (w:Int),.b true],.i (u:Int),.i (w:Int),.b true,.i (u:Int),.i (w:Int),.b true] ?_ ?_
 ·repeat' (first|refine wkt ?_|exact trivial|exact⟨⟨rfl,rfl⟩,trivial⟩|refine qai (fun env=>?_) ?_|refine qai ?_ ?_|refine wd hg ?_|refine wk ?_|exact wkc|intro hc|refine wk2 ?_ ?_|fail)
  done
 ·repeat' (first|refine wu ?_|exact wkc|intro hc|refine wk2 ?_ ?_|refine we hf ?_ ?_|fail)
  first
   | exact rdP hr.symm (by decide)
   | exact rdV (vs:=[]) hr.symm rfl (Le.refl _) rfl rfl rfl
   | exact rdN (vs:=[]) hr.symm rfl (Le.refl _) rfl rfl rfl):G:=h
theorem zwd{G:Prop}(h:G:=by
 have h:=ze5 s
 generalize scan s=x at*
 obtain⟨x1,x2,x3⟩:=x
 simp only at hs h
 subst hs
 refine so Tryz.func14 ?_
 repeat' (first|refine wkb ?_|refine wv h ?_|fail)
 refine wk2 ?_ ?_
 ·intro hc;exact absurd rfl hc
 intro hc
 repeat' (first|refine zqp ?_|(apply TO.go zaa 0 false;exact rfl;(first|apply GG.to|apply GG.stop|apply GG.tr0|apply GG.tr|apply GG.ex))|(apply TR.go0 zaa 0 false;exact rfl;(first|apply GG.to|apply GG.stop|apply GG.tr0|apply GG.tr|apply GG.ex))|(apply TR.go zaa 0 false;exact rfl;(first|apply GG.to|apply GG.stop|apply GG.tr0|apply GG.tr|apply GG.ex))|(apply TO.go0 zaa 0 false;exact rfl;(first|apply GG.to|apply GG.stop|apply GG.tr0|apply GG.tr|apply GG.ex))|(apply zds.go zaa 0 false;exact rfl;(first|apply GG.to|apply GG.stop|apply GG.tr0|apply GG.tr|apply GG.ex))|fail)
 exact RetK.keep 1 rfl (Le.refl _) rfl rfl rfl rfl rfl ⟨rfl,rfl⟩):G:=h
theorem zwe{G:Prop}(h:G:=by
 refine Sound.zdb zaa Tryz.func7 (by kernel_rfl) rfl rfl (gf:=15) (cv:=[.ref 0 0,.ref 1 0,.ref 2 0]) ?_
 refine TD.seq ?_
 repeat' (first|refine wkb ?_|refine wk ?_|fail)
 refine zaC ?_
 refine TD.seq ?_
 refine wk ?_
 repeat' (first|refine wkb ?_|(apply TO.zjl h1;(iterate 3 exact rfl);exact⟨Le.refl _,Le.refl _,trivial⟩;exact rfl;exact rfl)|refine wk ?_|exact wkc|intro hc|refine wk2 ?_ ?_|fail)
 refine zaC ?_
 refine TD.seq ?_
 repeat' (first|refine wkb ?_|refine wk ?_|exact wkc|intro hc|refine wk2 ?_ ?_|fail)
 refine zaC ?_
 refine TD.defer (tz:=0) rfl rfl ?_
 repeat' (first|refine wkb ?_|refine wk ?_|refine we4 hx ?_ ?_|refine we4 hfi ?_ ?_|refine wv hsh ?_|exact wkc|intro hc|refine wk2 ?_ ?_|fail)
 exact⟨_,zjn _ rfl,fun H3 h=>by subst h;exact wkr⟩):G:=h
theorem zwf{G:Prop}(h:G:=by
 refine wk ?_
 repeat' (first|refine wkt ?_|refine wka ?_|refine zqn ?_|(apply TO.zmn hidx;(iterate 3 exact rfl);exact⟨hlent,LeB.fn1 _ (LeB.cp _ _),trivial⟩;exact Rigid.v _)|(apply TO.rem2;(iterate 3 exact rfl))|(apply TO.quo2;(iterate 3 exact rfl);omega)|(apply TO.zly zaa;(iterate 7 exact rfl);omega;omega)|(apply TO.zaD zaa;(iterate 4 exact rfl);exact hbk;exact hc4)|(apply TO.znm zaa;(iterate 6 exact rfl);exact hgetX;exact hoffX;exact hsetX)|refine wk ?_|exact wkc|(intro hc;exfalso;omega)|intro hc|refine wk2 ?_ ?_|fail)
 exact zac.zb0 hk2 (zog hgk z3 hb)):G:=h
theorem zwg{G:Prop}(h:G:=by
 have:envA l.toArray (t.map (·.1)) (fun i=>(Array.replicate l.toArray.size false).getD i false) (List.range l.toArray.size)=[]:=by
  have:∀x:List Nat,envA l.toArray (t.map (·.1)) (fun i=>(Array.replicate l.toArray.size false).getD i false) x=[]:=by
   intro x
   induction x with
   | nil=>rfl
   | cons i x ih=>
     have:(Array.replicate l.toArray.size false).getD i false=false:=by
      rw[qa0,qaP]
      split <;> rfl
     simp only[envA,this,ih]
  exact this _
 rw[this,qbk]
 exact h3.step h2 s0.1):G:=h
theorem zwh{G:Prop}(h:G:=by
 refine zac.next (m,k+1,xs++[d]) ⟨?_,hltb,?_,?_,hr⟩ ?_ ⟨rfl,rfl,rfl,?_,trivial⟩ ?_
 ·show i≤k+1;omega
 ·show l.length-(k+1)<m;omega
 ·show(xs++[d]).length≤k+1;rw[qal];simp only[qac,qaf];omega
 ·show l.length-(k+1)<l.length-j3;omega
 ·show _=some (SV.sl 3 ((xs++[d]).map zag) 1);rw[qav,qah,qas,zfA d];rfl
 ·show _=[rdB l n es (k+1:Nat),.tail ((xs++[d]).map zag).length];rw[qav,qah,qas,qal];rfl):G:=h
theorem zwi{G:Prop}(h:G:=by
 show zad 5 [rdB l n es j13,nodZ,nodB s (.sl 3 (a.map zag)) (.sl 3 (b.map zag)) (.sl 3 (dl.map zag)) (rowV 6 (xs++[e]).length 3) (rowV 6 ys.length 4),rowB (xs++[e]).length ((exCs (xs++[e])).map .t),rowB ys.length ((exCs ys).map .t)]=true
 have h9:(nodB s (.sl 3 (a.map zag)) (.sl 3 (b.map zag)) (.sl 3 (dl.map zag)) (rowV 6 (xs++[e]).length 3) (rowV 6 ys.length 4)).under 5=true:=zhc (zbS (by decide)) (zbS (by decide))
 simp only[zad,zcJ,h9,qba];rfl):G:=h
theorem zwj{G:Prop}(h:G:=by
 show zad 5 [rdB l n es j13,nodZ,nodB s (.sl 3 (a.map zag)) (.sl 3 (b.map zag)) (.sl 3 (dl.map zag)) (rowV 6 xs.length 3) (rowV 6 (ys++[e]).length 4),rowB xs.length ((exCs xs).map .t),rowB (ys++[e]).length ((exCs (ys++[e])).map .t)]=true
 have h9:(nodB s (.sl 3 (a.map zag)) (.sl 3 (b.map zag)) (.sl 3 (dl.map zag)) (rowV 6 xs.length 3) (rowV 6 (ys++[e]).length 4)).under 5=true:=zhc (zbS (by decide)) (zbS (by decide))
 simp only[zad,zcJ,h9,qba];rfl):G:=h
theorem zwk{G:Prop}(h:G:=by
 rw[if_pos (by simpa using ht2)]at hr
 have hf:=zbi l n es j2 (j+1) 5 (by decide) hl
 have hc0:(5:Int)≠0:=by decide
 refine wk ?_
 repeat' (first|refine wkt ?_|(apply TO.want;exact rfl)|(apply TO.zaI;(iterate 3 exact rfl);omega;omega)|refine zqn ?_|refine we m1 ?_ ?_|refine we w1 ?_ ?_|refine we a1 ?_ ?_|refine we hf ?_ ?_|exact wkc|intro hc|refine wk2 ?_ ?_|fail)
 repeat' (first|refine zac.panic ?_|refine wk ?_|fail)
 first
  | exact rdP hr.symm hc0 rfl (zby _ rfl)
  | exact rdP hr.symm hc0):G:=h
theorem zwl{G:Prop}(h:G:=by
 unfold exC at hx hs
 have hr:=zeq es i (-1) (zcp es u)
 generalize zcp es u=xe at*
 repeat' (first|refine wu ?_|exact wkc|intro hc|refine wk2 ?_ ?_|refine wv hs ?_|refine we hr ?_ ?_|fail)
 all_goals first
  | exact zac.zb0 hlt (g2 hc)
  | ((repeat' (first|refine zac.panic ?_|refine wk ?_|fail));apply retQ;(first|assumption|decide);(clear hs hr hex hx;grind);(clear hs hr hex hx;grind);exact rfl;exact rfl)):G:=h
theorem zwm{G:Prop}(h:G:=by
 unfold zbc
 congr 1
 have:∀l:List Nat,(∀i∈l,i<all.size)->envA all vs (fun i=>L.getD i false) l=envA all vs (fun _=>true) l:=by
  intro l
  induction l with
  | nil=>intro _;rfl
  | cons i l ih=>
    intro hl
    have h1:L.getD i false=true:=gT.2 (hA i (hl i qaC))
    simp only[envA,h1,ih fun j hj=>hl j (qaA _ hj)]
 exact this _ fun i hi=>by simpa using hi):G:=h
theorem zwn{G:Prop}(h:G:=by
 have hcx:exC x=[T.n x.kind,T.n x.op,T.n x.t,T.n x.v,.s x.name,.sl 6 (x.args.map exT)]:=rfl
 rw[hcx]at ho⊢
 repeat' (first|refine wu ?_|exact wkc|intro hc|refine wk2 ?_ ?_|fail)
 refine⟨rfl,?_⟩
 repeat' (first|refine wu ?_|exact wkc|intro hc|refine wk2 ?_ ?_|refine wv ho ?_|fail)
 ·refine⟨_,?_,rfl,rfl⟩
  rw[errF,if_neg hc]
  rfl
 ·refine⟨?_,rfl,rfl⟩
  rw[errF,if_pos (by simpa using hc)]):G:=h
theorem zwo{G:Prop}(h:G:=by
 have hst:=run_storeCells_cells (P:=P) m.w.heap.size 0 (a1.eval y).cells.toList 0 w1 (fun q hq=>hsome q hq) (fun q hq=>World.frozen?_alloc_new ..) (fun u hu=>by
  obtain⟨q,hq⟩:=qa6 hu
  exact g0 q u (by simpa using hq))
 have hne:(a1.eval y).cells.size=i.size:=by omega
 simp[execOp,hev,pv,Instr.storeAt,Instr.sureAddr,storeVar,(hT t i ht).sizeOf,hne,hst,w2]):G:=h
theorem zwp{G:Prop}(h:G:=by
 unfold Rd.branch at h
 obtain⟨_,k1,h1,h⟩:=zae h
 obtain⟨_,k2,h2,h⟩:=zae h
 obtain⟨tv,k3,h3,h⟩:=zae h
 rcases zaL h with ⟨_,h⟩|⟨_,h⟩
 ·cases h
 obtain⟨_,k4,h4,h⟩:=zae h
 obtain⟨e,k5,h5,h⟩:=zae h
 obtain⟨_,k6,h6,h⟩:=zae h
 have e1:=zbk h1
 have e3:=zl7 h3
 have e4:=zbk h4
 have e5:=hf h5
 have e6:=zbk h6
 cases h
 simp only
 omega):G:=h
theorem zwq{G:Prop}(h:G:=by
 show some (nodB s (.sl 3 (a.map zag)) (.sl 3 (b.map zag)) (.sl 3 (dl.map zag)) (.ms 6 5 0 (xs.length+1)) (rowV 6 ys.length 4))=some ((nodB s (.sl 3 (a.map zag)) (.sl 3 (b.map zag)) (.sl 3 (dl.map zag)) (rowV 6 (xs++[e]).length 3) (rowV 6 ys.length 4)).ren _)
 rw[zkG,zcE,zcE,zcl (n:=(xs++[e]).length) (by omega),hxl];rfl):G:=h
theorem zwr{G:Prop}(h:G:=by
 show some (nodB s (.sl 3 (a.map zag)) (.sl 3 (b.map zag)) (.sl 3 (dl.map zag)) (rowV 6 xs.length 3) (.ms 6 5 0 (ys.length+1)))=some ((nodB s (.sl 3 (a.map zag)) (.sl 3 (b.map zag)) (.sl 3 (dl.map zag)) (rowV 6 xs.length 3) (rowV 6 (ys++[e]).length 4)).ren _)
 rw[zkG,zcE,zcE,zcl (n:=(ys++[e]).length) (by omega),hxl];rfl):G:=h
theorem zws{G:Prop}(h:G:=by
 intro i hi
 have:L[i]?=some (L[i]'(by omega)):=qak (by omega)
 rw[this]
 cases hb:L[i]'(by omega)
 ·exfalso
  have hmem:i∈(List.range all.size).filter fun i=>L[i]? == some false:=by
   rw[qbZ]
   exact⟨by simpa using hi,by rw[this,hb];rfl⟩
  have:=List.length_pos_of_mem hmem
  unfold unl at hun
  omega
 ·rfl):G:=h
theorem zwt{G:Prop}(h:G:=by
 have:∀(l:List (Int×Str×Nat)),a∈l->(zaJ (a.1,a.2.1,0)).length≤(l.map fun a=>(zaJ (a.1,a.2.1,0)).length).sum:=by
  intro l
  induction l with
  | nil=>intro h;cases h
  | cons b l ih=>
    intro h
    rw[qah,qax]
    rcases qa8.1 h with rfl|h
    ·omega
    ·have:=ih h;omega
 exact this _ ha):G:=h
theorem zwu{G:Prop}(h:G:=by
 intro i o s j ho hs' hj
 have:=hall' i (qaj.1 ho).1
 simp only[qat,ho]at this
 have:=qaw.1 this.1.2 s hs'
 have:=qaw.1 this j (by simpa using hdl j s hj)
 rw[hj]at this
 refine⟨fun h=>?_,fun h=>?_⟩
 ·rw[h]at this;simpa using this
 ·rw[h]at this;simpa using this):G:=h
theorem zwv{G:Prop}(h:G:=by
 have:=filter_lt (p:=fun x=>L[x]? == some false) (q:=fun x=>(L.setIfInBounds i true)[x]? == some false) (fun x hx=>by
  rw[hset]at hx
  split at hx
  ·cases hx
  ·exact hx) (List.range all.size) i (by simpa using hil) (by rw[g1];rfl) (by rw[hset,if_pos rfl];rfl)
 unfold unl at hun⊢
 omega):G:=h
theorem zww{G:Prop}(h:G:=by
 have hjs:=g2 _ e (r3 e he)
 have h6:i*sz=es.length*sz+(i-es.length)*sz:=by rw[<-qaS];congr 1;omega
 simp only[if_neg (show ¬i*sz+j<es.length*sz from by omega)]
 rw[show i*sz+j-es.length*sz=(i-es.length)*sz+j from by omega]
 exact s.trel hm (g3 _ e j c (r3 e he) hc)):G:=h
theorem zwx{G:Prop}(h:G:=by
 obtain⟨g1,g2⟩:=zfR _ _ _ _ hv
 have hi:=(qaa.1 g2).1
 have hvi:vs[i]?=some (vs[i]'(by rw[h3.1];omega)):=qak _
 exact⟨_,by rw[qaT (by rw[h3.1];omega)];exact hvi,h3.2 i v _ (by simpa using g2) hvi⟩):G:=h
theorem zwy{G:Prop}(h:G:=by
 cases od
 ·exact⟨(fun j=>s j || decide (i=j),false),v,fun j=>rfl,fun j _=>by rw[hV,hV'],by rw[hV'];exact htl,by rw[hV,hS,hS'];exact hg.1⟩
 ·exact⟨(fun j=>s j || decide (i=j),true),w,fun j=>rfl,fun j _=>by rw[hV,hV'],by rw[hV'];exact hul,by rw[hV,hS,hS'];exact hg.2⟩):G:=h
theorem zwz{G:Prop}(h:G:=by
 refine Sound.err rfl (fun _=>rfl) ?_
 refine so Tryz.func43 ?_
 repeat' (first|refine wu ?_|exact wkc|intro hc|refine wk2 ?_ ?_|(apply TO.makeInterface;exact rfl;kernel_rfl;exact rfl)|(apply TO.panic;exact rfl)|refine wd ha ?_|fail)
 exact RetK.errP hc0 rfl rfl rfl):G:=h
theorem zwba{G:Prop}(h:G:=by
 induction l generalizing k with
 | nil=>simp
 | cons a l ih=>
   cases k with
   | zero=>simp only[qbK,qah,qax];omega
   | succ k=>
     have:=ih (k:=k)
     simp only[List.set_cons_succ,qah,qax];omega):G:=h
theorem zwbb{G:Prop}(h:G:=by
 intro i q k h1 h2
 by_cases hi:i=id
 ·subst hi
  rw[qap hidβ]at h1
  rw[qap hid]at h2
  cases h1;cases h2;exact .inl ⟨rfl,rfl,rfl⟩
 ·rw[qau (by omega)]at h1 h2
  exact .inr ⟨hi,h1,h2⟩):G:=h
theorem zwbc{G:Prop}(h:G:=by
 rw[if_pos (.inr ⟨rfl,hkk⟩)]at hr
 subst hr
 repeat' (first|refine wu ?_|exact wkc|intro hc|refine wk2 ?_ ?_|fail)
 apply rdV rfl
 ·exact rfl
 ·rw[vlE,qav,qah,qas,zfA d]
  exact zqa
 all_goals exact rfl):G:=h
theorem zwbd{G:Prop}(h:G:=by
 rw[<-hmc.len]
 by_cases h0:l.length=0
 ·omega
 ·have hlt:l.length-1<(cutM m l Hc).β.length:=by simp[cutM];omega
  obtain⟨p',hp',_⟩:=s.ids (l.length-1) _ (qab hlt)
  have:=(qaa.1 hp').1
  omega):G:=h
theorem zwbe{G:Prop}(h:G:=by
 all_goals first
  | exact zac.zb0 hlt2 (g2 hc)
  | ((repeat' (first|refine zac.panic ?_|refine wk ?_|fail));apply retF;(first|assumption|decide);(clear hi hd1 ht1 ht2 heq hau hx hx2 hs;grind);exact rfl;exact rfl)):G:=h
theorem zwbf{G:Prop}(h:G:=by
 intro fl'
 induction fl' with
 | nil=>intro x h;cases h
 | cons b fl' ih=>
   intro x h
   cases x with
   | zero=>simp at h;subst h;simp
   | succ x=>
     have:=ih x (by simpa using h)
     cases b <;> simp <;> exact this):G:=h
theorem zwbg{G:Prop}(h:G:=by
 cases hc:w.contains t with
 | false=>rfl
 | true=>
   have h0:=hw t hc
   cases he0:env0.look t with
   | none=>rw[he0]at h0;cases h0
   | some u0=>exact absurd hwl (by rw[zgp he0 w (by simpa using hc)];simp)):G:=h
theorem zwbh{G:Prop}(h:G:=by
 rw[this,qaU]at h3
 refine RetK.keep 1 rfl (Le.refl _) rfl rfl rfl rfl rfl ⟨by rw[h3];rfl,?_⟩
 rw[h3]
 simp only[qaQ,qa5]
 rw[show i+(min k s.length-i)=k from by omega];rfl):G:=h
theorem zwbi{G:Prop}(h:G:=by
 have:L[i]?=some (L[i]'(by omega)):=qak (by omega)
 rw[this]
 cases hb:L[i]'(by omega)
 ·exfalso
  obtain⟨j,_,hj,_⟩:=zdw hL hd (n:=i) (by rw[this,hb])
  rw[hr]at hj;cases hj
 ·rfl):G:=h
theorem zwbj{G:Prop}(h:G:=by
 rw[zaR]
 cases hpk:(zaS (zaS env0 w++zbc all (V s) env0) (slotsOf all o)).look t with
 | none=>exact e2
 | some u'=>
   have:=hlook t u' (by rw[zaR,hpk])
   rw[this]at e2
   exact e2):G:=h
theorem zwbk{G:Prop}(h:G:=by
 rw[zaR]
 cases hpk:(zaS (zaS env0 w++zbc all vs env0) (slotsOf all o)).look t with
 | none=>exact e2
 | some u'=>
   have:=hlook t u' (by rw[zaR,hpk])
   rw[this]at e2
   exact e2):G:=h
theorem zwbl{G:Prop}(h:G:=by
 refine so Tryz.func98 ?_
 repeat' (first|refine wk ?_|exact wkc|intro hc|refine wk2 ?_ ?_|refine wv c1 ?_|refine wv c2 ?_|refine wv c3 ?_|refine wv c4 ?_|refine wv c5 ?_|fail)
 all_goals exact wkr):G:=h
theorem zwbm{G:Prop}(h:G:=by
 refine InR.ite (fun hs=>⟨qae _,zam hs⟩) fun _=>InR.ite (fun hs=>⟨qae _,zam hs⟩) fun _=>(zea h).bind fun v j h1 h2=>?_
 split
 ·exact⟨h1,h2⟩
 ·exact⟨by omega,by decide⟩):G:=h
theorem zwbn{G:Prop}(h:G:=by
 obtain⟨_,k,h1,h⟩:=zae h
 obtain⟨x,k2,h2,h⟩:=zae h
 obtain⟨_,k3,h3,h⟩:=zae h
 have e2:=zmA hS h2
 have e3:=zbI _ h3
 unfold om at e2
 exact zko hS m h (by rw[zfn];omega)):G:=h
theorem zwbo{G:Prop}(h:G:=by
 rw[if_neg (Bool.not_eq_true _ ▸ hc)]at ha
 exact zac.cut 2 (k+1,_) ⟨hlt,ha,fun h=>by simp at h⟩ (by simp only;omega) ⟨rfl,rfl,rfl,rfl,trivial⟩ (by simp only[zki];rfl) rfl rfl rfl rfl):G:=h
theorem zwbp{G:Prop}(h:G:=by
 refine zdh _ fun j hj hjl hjd=>?_
 have hjt:=gT.1 hjl
 have:=zcc hdc 8 (zaP all j) (hdc j hjt) i ((hcv i o t j ho k1 hjd).1 (by simpa using w1))
 rw[g1]at this
 cases this):G:=h
theorem zwbq{G:Prop}(h:G:=by
 rcases k.fromA x o hx with h1|h1|h1
 ·exact h.fromA x o h1
 ·rcases h.fromO x o h1 with h2|h2
  ·exact .inr (.inl h2)
  ·exact .inr (.inr h2)
 ·exact .inr (.inr (qa9 h.size h1))):G:=h
theorem zwbr{G:Prop}(h:G:=by
 intro i j d h1 h2
 have:=hall' i (hdl i d h1)
 simp only[qat]at this
 have:=qaw.1 this.1.1 j (by simpa using hdl j d h2)
 rw[h1,h2]at this
 simpa using this):G:=h
theorem zwbs{G:Prop}(h:G:=by
 show splice _ (0+xs.length*6) _=_
 rw[show 0+xs.length*6=((exCs xs).map SV.t).length by rw[hcx];omega]
 exact zgA _ _ _ (by rw[qad,qad,he];rfl)):G:=h
theorem zwbt{G:Prop}(h:G:=by
 show splice _ (0+ys.length*6) _=_
 rw[show 0+ys.length*6=((exCs ys).map SV.t).length by rw[hcy];omega]
 exact zgA _ _ _ (by rw[qad,qad,he];rfl)):G:=h
theorem zwbu{G:Prop}(h:G:=by
 apply rdV rfl
 ·exact rfl
 ·rw[vlE,zbG _ _ _ _ _ _ rfl rfl rfl rfl,qah,qah,qas,zao a,zao b]
  unfold exC
  exact zqa
 all_goals exact rfl):G:=h
theorem zwbv{G:Prop}(h:G:=by
 refine⟨by simp[g1],fun i x y hx hy=>?_⟩
 cases i with
 | zero=>simp at hx hy;subst hx;subst hy;exact h.1
 | succ i=>exact g2 i x y (by simpa using hx) (by simpa using hy)):G:=h
theorem zwbw{G:Prop}(h:G:=by
 rw[if_pos hc]at ha
 exact zac.cut 2 (k+1,_) ⟨hlt,ha,fun h=>by simp at h⟩ (by simp only;omega) ⟨rfl,rfl,rfl,rfl,trivial⟩ (by simp only[zki];rfl) rfl rfl rfl rfl):G:=h
theorem zwbx{G:Prop}(h:G:=by
 apply rdV rfl
 ·exact rfl
 ·rw[vlE,zbG _ _ _ _ _ _ rfl rfl rfl rfl,qav,qah,qas,zao b]
  unfold exC
  exact zqa
 all_goals exact rfl):G:=h
theorem zwby{G:Prop}(h:G:=by
 subst hq
 rw[qap hjl]at hc
 cases hc
 obtain⟨y,hy1,hy0,hy2⟩:=b3 q _ hi
 refine⟨_,hy1,hy0,?_⟩
 cases hy2 with
 | sl _ _ _ _ p h hp ho=>exact .t _ _ h):G:=h
theorem zwbz{G:Prop}(h:G:=by
 refine⟨0,fun i hi=>⟨fun h=>by omega,fun h=>?_⟩,qaV _,by rw[h0];simp[h1],fun j h=>?_⟩
 all_goals
  rw[qaP]at h
  split at h <;> cases h):G:=h
theorem zwca{G:Prop}(h:G:=by
 cases hdd:o.dst with
 | none=>exact e3
 | some d=>
   have:d≠t:=fun e=>hne (by unfold zb9;rw[ho];simp[hdd,e])
   rw[putE,Env.zaz _ _ this]
   exact e3):G:=h
theorem zwcb{G:Prop}(h:G:=by
 obtain⟨b,k2,h2,h⟩:=zae h
 have h2:=pF_o hS m _ h2
 cases h
 rw[zeJ];simp only[qah,qas,qax,qaK,qaf];omega):G:=h
theorem zwcc{G:Prop}(h:G:=by
 refine so Tryz.func70 ?_
 repeat' (first|refine wu ?_|exact wkc|intro hc|refine wk2 ?_ ?_|fail)
 exact RetK.keep 1 rfl (Le.refl _) rfl rfl rfl rfl rfl ⟨rfl,rfl⟩):G:=h
theorem zwcd{G:Prop}(h:G:=by
 refine so Tryz.func70 ?_
 repeat' (first|refine wu ?_|exact wkc|intro hc|refine wk2 ?_ ?_|fail)
 exact RetK.keep 2 rfl (Le.refl _) rfl rfl rfl rfl rfl ⟨rfl,rfl⟩):G:=h
theorem zwce{G:Prop}(h:G:=by
 rw[hfs,qar]at hf
 cases hq:gs.toList[fi]? with
 | none=>rw[hq]at hf;cases hf
 | some g=>rw[hq]at hf;simp at hf;exact⟨g,by simpa using hq,hf.1,hf.2⟩):G:=h
theorem zwcf{G:Prop}(h:G:=by
 by_cases hb':b=p.b
 ·by_cases hl:p.hi≤p.lo
  ·exact .inr hl
  ·exact absurd (ownp p.lo (qae _) (by omega)) (by rw[<-hb'];exact hno p.lo)
 ·exact .inl hb'):G:=h
theorem zwcg{G:Prop}(h:G:=by
 show Le _ (.sl 2 ((gs++[(s,j7-1)]).map goT) 1)
 rw[qav]
 show Le _ (.sl 2 (gs.map goT++[.ag [.s s,.i ((j7-1:Nat):Int)]]) 1)
 rw[hj7];exact Le.refl _):G:=h
theorem zwch{G:Prop}(h:G:=by
 rw[k.frozen x o (qaO hx h.size) (fun ho=>?_) (h.isSome x o hx hc),h.frozen x o hx hn hc]
 rcases h.fromO x o ho with h1|h1
 ·exact hn h1
 ·omega):G:=h
theorem zwci{G:Prop}(h:G:=by
 show _=some ((rowB (xs++[e]).length ((exCs (xs++[e])).map .t)).ren _)
 rw[zc4,zbR (show 0<(xs++[e]).length by omega),zkp,qav];rfl):G:=h
theorem zwcj{G:Prop}(h:G:=by
 show _=some ((rowB (ys++[e]).length ((exCs (ys++[e])).map .t)).ren _)
 rw[zc4,zbR (show 0<(ys++[e]).length by omega),zkp,qav];rfl):G:=h
theorem zwck{G:Prop}(h:G:=by
 first
  | exact rdP hr.symm (by decide)
  | exact rdV (vs:=[]) hr.symm rfl (Le.refl _) rfl rfl rfl
  | exact rdN (vs:=[]) hr.symm rfl (Le.refl _) rfl rfl rfl):G:=h
theorem zwcl{G:Prop}(h:G:=by
 show _=[rdB l n es k,.tail ((xs++[e]).map equT).length,.tail (as'.map zaG).length];rw[qav,qah,qas,qal];rfl):G:=h
theorem zwcm{G:Prop}(h:G:=by
 unfold unl
 have:=List.length_filter_le (fun i=>(Array.replicate l.toArray.size false)[i]? == some false) (List.range l.toArray.size)
 simpa using this):G:=h
theorem zwcn{G:Prop}(h:G:=by
 subst hq
 rw[qap hjl]at hc
 cases hc
 obtain⟨y,hy1,hy0,hy2⟩:=b3 q _ hi
 have:=hy2.v_eq
 subst this
 exact⟨_,hy1,rfl,zkF h2 sz⟩):G:=h
theorem zwco{G:Prop}(h:G:=by
 subst hq
 rw[qap hjl]at hc
 cases hc
 obtain⟨y,hy1,hy0,hy2⟩:=b3 q _ hi
 have:=hy2.v_eq
 subst this
 exact⟨_,hy1,rfl,zpL h2 e⟩):G:=h
theorem zwcp{G:Prop}(h:G:=by
 all_goals
  refine RetK.keep 1 rfl (Le.of_eq (congrArg (fun z=>SV.t (T.v (Value.bool z))) ?_)) rfl rfl rfl rfl rfl ⟨rfl,rfl⟩
  clear hx
  grind):G:=h
theorem zwcq{G:Prop}(h:G:=by
 all_goals
  refine RetK.keep 2 rfl (Le.of_eq (congrArg (fun z=>SV.t (T.v (Value.bool z))) ?_)) rfl rfl rfl rfl rfl ⟨rfl,rfl⟩
  clear hx
  grind):G:=h
theorem zwcr{G:Prop}(h:G:=by
 obtain⟨b,k2,h2,h⟩:=zae h
 have h2:=pF_w m _ h2
 cases h
 rw[zcv];simp only[qah,qas,qax,qaK];omega):G:=h
theorem zwcs{G:Prop}(h:G:=by
 rcases hA' b o h with h|h|h
 ·exact qaO (hm.inA b o h) hsz
 ·rw[h.1];exact qaO (hpin (by omega)) hsz
 ·exact h.2):G:=h
theorem zwct{G:Prop}(h:G:=by
 rename_i n0 h0
 have h1:=hi n hn
 have h2:=ho n0 h0
 refine⟨by omega,fun e=>?_⟩
 have:n0=n:=by omega
 rw[h1.2 this]
 exact h2.2 (by omega)):G:=h
theorem zwcu{G:Prop}(h:G:=by
 rw[k.block x (qaO hx h.size) (fun o ho=>?_),h.block x hx hn]
 rcases h.fromO x o ho with h1|h1
 ·exact hn o h1
 ·omega):G:=h
theorem zwcv{G:Prop}(h:G:=by
 rw[k.cell x o (qaO hx h.size) (fun ho=>?_),h.cell x o hx hn]
 rcases h.fromO x o ho with h1|h1
 ·exact hn h1
 ·omega):G:=h
theorem zwcw{G:Prop}(h:G:=by
 rw[qbd]at ha
 rw[ziw p l ha]
 repeat' (first|refine wk ?_|exact wkc|intro hc|refine wk2 ?_ ?_|fail)
 exact wkr):G:=h
theorem zwcx{G:Prop}(h:G:=by
 rw[qaH (by omega),qaH (qae _),qaZ (by omega),qaU]):G:=h
theorem zwcy{G:Prop}(h:G:=by
 intro b o hn
 exact World.cell?_setCells_out _ _ _ _ _ fun q1 _=>by simp only[qad,List.length_range]at *;omega):G:=h
theorem zwcz{G:Prop}(h:G:=by
 rcases hA' b o h with h|h|h
 ·exact .inl h
 ·exact .inr (.inl (by rw[h.1];exact ownp o h.2.1 h.2.2))
 ·exact .inr (.inr h.1)):G:=h
theorem zwda{G:Prop}(h:G:=by
 have:=b2 o ho ho'
 have hlt:=h2.inO i p _ g1 g2 rfl (by omega)
 unfold Free at this⊢
 rw[hc _ _ hlt,hf _ _ hlt];exact this):G:=h
theorem zwdb{G:Prop}(h:G:=by
 have:=b2 o ho ho'
 unfold Free at this⊢
 show(w'.cell? _).isSome=true/\w'.frozen? _=false
 rw[h.cell,h.frozen];exact this):G:=h
theorem zwdc{G:Prop}(h:G:=by
 unfold zb9 at h
 cases ho:all[i]? with
 | none=>rw[ho]at h;cases h
 | some o=>exact(qaj.1 ho).1):G:=h
theorem zwdd{G:Prop}(h:G:=by
 apply rdV rfl
 ·exact rfl
 ·rw[vlE,zbG _ _ _ _ _ _ rfl rfl rfl rfl,qas]
  exact zqa
 all_goals exact rfl):G:=h
theorem zwde{G:Prop}(h:G:=by
 subst hz
 refine zac.panic ?_
 refine wk ?_
 exact⟨_,zg5 _ _ _ _ _ _ _ rfl,fun H3 h=>by subst h;exact wkr⟩):G:=h
theorem zwdf{G:Prop}(h:G:=by
 rw[zaR,zdh (List.range all.size) fun j hj hjp=>hno j (by simpa using hj) (gT.1 hjp)]
 exact htu):G:=h
theorem zwdg{G:Prop}(h:G:=by
 obtain⟨a,k1,h1,h⟩:=zae h
 obtain⟨_,k2,h2,h⟩:=zae h
 have h1:=hf h1
 have h2:=zbk h2
 cases h;omega):G:=h
theorem zwdh{G:Prop}(h:G:=by
 intro v x h i c y hc hy
 cases i with
 | zero=>simp at hc hy;subst hc;subst hy;exact h
 | succ i=>simp at hc):G:=h
theorem zwdi{G:Prop}(h:G:=by
 obtain⟨k1,hst⟩:=harr2.2 hr
 exact⟨k1,s1.trans (zc8 hs hst fun he=>by have:=zcP he;simp at this)⟩):G:=h
theorem zwdj{G:Prop}(h:G:=by
 rw[if_neg h2]
 simp only[]
 repeat' (first|refine wu ?_|exact wkc|intro hc|refine wk2 ?_ ?_|fail)
 exact wkr):G:=h
theorem zwdk{G:Prop}(h:G:=by
 show _=some (SV.sl 7 ((xs++[e]).map equT) 1);rw[qav,qah,qas,zjv e];rfl):G:=h
theorem zwdl{G:Prop}(h:G:=by
 obtain⟨todo,hst⟩:=harr2.1 hr
 exact⟨todo,s1.trans (zc8 hs hst fun he=>by simp[lone,Frame.atR]at he)⟩):G:=h
theorem zwdm{G:Prop}(h:G:=by
 refine so Tryz.func5 ?_
 repeat' (first|refine wu ?_|exact wkc|intro hc|refine wk2 ?_ ?_|fail)
 exact wkr):G:=h
theorem zwdn{G:Prop}(h:G:=by
 show(gs++[(s,j7-1)]).length≤j8;rw[qal];simp only[qac,qaf];omega):G:=h
theorem zwdo{G:Prop}(h:G:=by
 rw[hN,zdF g3,g2]
 simp only[zdf,zbx,g1]
 (first|exact⟨trivial,rfl⟩|exact⟨trivial,trivial⟩)):G:=h
theorem zwdp{G:Prop}(h:G:=by
 rw[hflat,zbx,hf]
 simp only[]
 rw[zf9 l hlt,zc5,hsc]
 simp only[]
 rw[zc5,ho]):G:=h
theorem zwdq{G:Prop}(h:G:=by
 unfold zcp zg4
 simp only[zlq,zlr,zn4,wx0,wx1,wx2,dx0,dx1,dx2]
 decide +kernel):G:=h
theorem zwdr{G:Prop}(h:G:=by
 show _=some (Blk.tail ((gs++[(s,j7-1)]).map goT).length);rw[qav,qal];rfl):G:=h
theorem zwds{G:Prop}(h:G:=by
 constructor
 ·split at hle <;> simp at hle <;> omega
 ·intro h;rw[if_pos h]at hle;simp at hle;omega):G:=h
theorem zwdt{G:Prop}(h:G:=by
 show(xs++[o]).length≤k+1;rw[qal];simp only[qac,qaf];omega):G:=h
theorem zwdu{G:Prop}(h:G:=by
 simp at hy
 obtain⟨r,hr',rfl⟩:=hy
 have:=qaB hr'
 simp at this
 exact(hf r this).2.1):G:=h
theorem zwdv{G:Prop}(h:G:=by
 simp only[Env.under,qbr,List.all_nil,zbS (show 2<3 by decide),qba];rfl):G:=h
theorem zwdw{G:Prop}(h:G:=by
 have h3:=qaL ti.bytes h2
 rw[qaS,Nat.mul_assoc,hti2]at h3
 rw[hti2];omega):G:=h
theorem zwdx{G:Prop}(h:G:=by
 rw[if_pos h2,h2]
 repeat' (first|refine wu ?_|exact wkc|intro hc|refine wk2 ?_ ?_|fail)
 exact wkr):G:=h
theorem zwdy{G:Prop}(h:G:=by
 all_goals try(refine RetK.pure rfl ?_ rfl;exact Le.of_eq (by simp_all [pack,zbp] <;> omega))):G:=h
theorem zwdz{G:Prop}(h:G:=by
 obtain⟨dd,ti,z,h1,h2,h3,_⟩:=h.ex
 rw[hk]at h3
 cases dd <;> simp[TK'.fits]at h3
 subst h3
 exact h1):G:=h
theorem zwea{G:Prop}(h:G:=by
 show(xs++[e]).length≤k;rw[qal];simp only[qac,qaf];omega):G:=h
theorem zweb{G:Prop}(h:G:=by
 show(xs++[o]).length≤4;rw[qal];simp only[qac,qaf];omega):G:=h
theorem zwec{G:Prop}(h:G:=by
 cases j3
 unfold zb9 at j2
 rw[ho]at j2
 have:o.dst=some t:=j2
 rw[this,putE,Env.zaN]):G:=h
theorem zwed{G:Prop}(h:G:=by
 exact⟨y,fun _=>⟨hy1,hy0,fun c hc=>by rw[qab hj]at hc;cases hc;exact hy2⟩⟩):G:=h
theorem zwee{G:Prop}(h:G:=by
 intro i p k h1 h2 h3
 cases i with
 | zero=>simp at h1;subst h1;right;simp
 | succ i=>simp at h1):G:=h
theorem zwef{G:Prop}(h:G:=by
 intro x
 induction x with
 | nil=>rfl
 | cons i x ih=>
   have h0:=hrep i
   simp only[envA,h0,ih]):G:=h
theorem zweg{G:Prop}(h:G:=by
 have:=h2 o ho ho'
 unfold Free at this⊢
 rw[(hk o ho ho').1,(hk o ho ho').2 this.1];exact this):G:=h
theorem zweh{G:Prop}(h:G:=by
 rw[h2,if_neg (by omega)]
 exact .inr ⟨j+1,by simpa using h1,by omega,by rw[h3];congr 1;omega⟩):G:=h
theorem zwei{G:Prop}(h:G:=by
 rw[vlE]
 show Le _ (.t (.ag [.s s,.v (.int .i64 tv.1),.sl 3 (xs.map onT)]))
 rw[htv]
 exact zqa):G:=h
theorem zwej{G:Prop}(h:G:=by
 have hw:=hS i;cases h;rw[zeJ];simp only[qas,qaK,qaf];omega):G:=h
theorem zwek{G:Prop}(h:G:=by
 rcases k.fromO x o hx with h1|h1
 ·exact h.fromO x o h1
 ·exact .inr (qa9 h.size h1)):G:=h
theorem zwel{G:Prop}(h:G:=by
 have:=(zb3 (A:=m.A) (w:=m.w) _ _ hz2).1
 have h2:=(hT e ie he).len
 simp at this;omega):G:=h
theorem zwem{G:Prop}(h:G:=by
 have:=qaL sz (show q+1≤es.length from hq)
 rw[qb4]at this
 omega):G:=h
theorem zwen{G:Prop}(h:G:=by
 unfold errF
 split <;> rename_i hq <;> split at hq <;> cases hq
 ·trivial
 ·exact⟨rfl,rfl⟩):G:=h
theorem zweo{G:Prop}(h:G:=by
 intro x h i y hy
 cases i with
 | zero=>simp at hy;subst hy;exact h
 | succ i=>simp at hy):G:=h
theorem zwep{G:Prop}(h:G:=by
 unfold Rd.txt
 simp only[qar,qab h,qaX]):G:=h
theorem zweq{G:Prop}(h:G:=by
 have:(i+1)*sz≤es.length*sz:=qaL _ r1
 rw[qaS]at this;omega):G:=h
theorem zwer{G:Prop}(h:G:=by
 intro a ha
 have ha:a<3:=ha
 rcases(by omega:a=0\/a=1\/a=2)with rfl|rfl|rfl <;> rfl):G:=h
theorem zwes{G:Prop}(h:G:=by
 simp only[if_neg (show ¬i*sz+j<es.length*sz from by omega)]
 exact g1 _ (by omega)):G:=h
theorem zwet{G:Prop}(h:G:=by
 all_goals exact RetK.zqN 2 rfl (Le.refl _) rfl rfl rfl rfl rfl ⟨rfl,rfl⟩):G:=h
theorem zweu{G:Prop}(h:G:=by
 exact hm.still b o ha (by rw[<-h4,g.1];exact ownp o (by omega) (by omega))):G:=h
theorem zwev{G:Prop}(h:G:=by
 intro j
 rw[qaE]
 split
 ·rw[if_pos (by omega)]
 ·rfl):G:=h
theorem zwew{G:Prop}(h:G:=by
 obtain⟨h1,h2⟩:=zdk full t v r h
 exact⟨qaA _ h1,h2⟩):G:=h
theorem zwex{G:Prop}(h:G:=by
 split at h
 ·rename_i t ht;exact(qaa.1 ht).1
 ·cases h):G:=h
theorem zwey{G:Prop}(h:G:=by
 rw[qao (qaa.1 hq).1];exact hq):G:=h
theorem zwez{G:Prop}(h:G:=by
 rw[e1,e2]
 exact RetK.keep 1 rfl (Le.refl _) rfl rfl rfl rfl rfl ⟨rfl,rfl⟩):G:=h
theorem zwfa{G:Prop}(h:G:=by
 intro a ha
 have ha:a<2:=ha
 rcases(by omega:a=0\/a=1)with rfl|rfl <;> rfl):G:=h
theorem zwfb{G:Prop}(h:G:=by
 show _=some ((rowB xs.length ((exCs xs).map .t)).ren _)
 rw[zc4];rfl):G:=h
theorem zwfc{G:Prop}(h:G:=by
 show _=some ((rowB ys.length ((exCs ys).map .t)).ren _)
 rw[zc4];rfl):G:=h
theorem zwfd{G:Prop}(h:G:=by
 intro h
 have:(IntKind.i64.max:Int)=9223372036854775807:=by decide
 omega):G:=h
theorem zwfe{G:Prop}(h:G:=by
 rw[qbq,qar,hx]at hb
 simpa using hb):G:=h
theorem zwff{G:Prop}(h:G:=by
 rw[if_pos hd,if_pos (by simpa using hd)]
 exact .inr ⟨0,by simp,rfl,rfl⟩):G:=h
theorem zwfg{G:Prop}(h:G:=by
 rw[qa0,qaP]
 split <;> rfl):G:=h
theorem zwfh{G:Prop}(h:G:=by
 intro i hi
 rw[qaP]at hi
 split at hi <;> cases hi):G:=h
theorem zwfi{G:Prop}(h:G:=by
 obtain⟨j',h1,h2⟩:=zeB l h
 exact⟨j',qaA _ h1,h2⟩):G:=h
theorem zwfj{G:Prop}(h:G:=by
 rw[qav,qah,qas,qal];rfl):G:=h
theorem zwfk{G:Prop}(h:G:=by
 rw[qal,hcx]
 show 0+xs.length*6+6≤xs.length*6+6
 omega):G:=h
theorem zwfl{G:Prop}(h:G:=by
 rw[qal,hcy]
 show 0+ys.length*6+6≤ys.length*6+6
 omega):G:=h
theorem zwfm{G:Prop}(h:G:=by
 simp only[Ex.kind,Ex.op,Ex.t,Ex.v,Ex.name,Ex.args,T.n,hk,ho,ht,hv]):G:=h
theorem zwfn{G:Prop}(h:G:=by
 intro i j p q hij h1 h2
 cases i <;> cases j <;> simp at h1 h2 hij):G:=h
theorem zwfo{G:Prop}(h:G:=by
 refine⟨p2,hp2,h1.trans h2 fun n hn hb=>?_⟩
 exact(h2.zcx hb).2):G:=h
theorem zwfp{G:Prop}(h:G:=by
 rw[hN,zdF g3,g2];exact zax g4.2 (hun _ _)):G:=h
theorem zwfq{G:Prop}(h:G:=by
 rw[show l.length+(j-l.length)=j from by omega]at this
 exact this):G:=h
theorem zwfr{G:Prop}(h:G:=by
 exact .inl (by rw[<-h4,g.1];exact ownp o (by omega) (by omega))):G:=h
theorem zwfs{G:Prop}(h:G:=by
 exact RetK.keep 1 rfl (Le.refl _) rfl rfl rfl rfl rfl ⟨rfl,rfl⟩):G:=h
theorem zwft{G:Prop}(h:G:=by
 exact RetK.keep 2 rfl (Le.refl _) rfl rfl rfl rfl rfl ⟨rfl,rfl⟩):G:=h
theorem zwfu{G:Prop}(h:G:=by
 refine zac.zb0 hlt ?_
 rw[htk,qcc,ha]
 simp[hc]):G:=h
theorem zwfv{G:Prop}(h:G:=by
 cases h;exact⟨⟨by decide,by decide⟩,.inl ⟨rfl,by decide⟩⟩):G:=h
