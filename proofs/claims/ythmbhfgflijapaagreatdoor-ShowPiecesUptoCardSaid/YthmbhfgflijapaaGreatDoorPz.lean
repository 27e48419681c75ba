set_option linter.all false
def qaa:=@List.getElem?_eq_some_iff
def qab:=@List.length_map
def qac:=@List.getElem?_eq_getElem
def qad:=@List.length_append
def qae:=@Nat.le_refl
def qaf:=@List.getElem_mem
def qag:=@Nat.le_of_ble_eq_true
def qah:=@List.map_cons
def qai:=@And.intro
def qaj:=@Array.getElem?_eq_some_iff
def qak:=@List.mem_cons_self
def qal:=@List.length_cons
def qam:=@Array.getElem?_eq_getElem
def qan:=@List.mem_cons_of_mem
def qao:=@Option.bind_eq_some_iff
def qap:=@List.take_length
def qaq:=@Nat.le_trans
def qar:=@List.getElem?_map
def qas:=@List.mem_of_getElem?
def qat:=@List.getElem?_append_left
def qau:=@Bool.and_eq_true
def qav:=@List.getElem?_set_self
def qaw:=@List.all_eq_true
def qax:=@List.take_succ_eq_append_getElem
def qay:=@List.sum_cons
def qaz:=@List.length_nil
def qaA:=@List.getElem?_append_right
def qaB:=@Classical.byContradiction
def qaC:=@List.map_nil
def qaD:=@Nat.mul_le_mul_right
def qaE:=@Option.some.injEq
def qaF:=@List.getElem?_set_ne
def qaG:=@List.append_nil
def qaH:=@List.map_append
def qaI:=@List.take_of_length_le
def qaJ:=@Nat.zero_le
def qaK:=@Array.getElem?_setIfInBounds
def qaL:=@List.take_succ_cons
def qaM:=@List.eq_nil_of_length_eq_zero
def qaN:=@List.mem_of_mem_take
def qaO:=@List.append_assoc
def qaP:=@List.mem_map
def qaQ:=@List.sum_nil
def qaR:=@Array.getElem?_replicate
def qaS:=@List.getElem?_take
def qaT:=@List.drop_eq_getElem_cons
def qaU:=@Nat.zero_add
def qaV:=@List.take_append_drop
def qaW:=@Option.map_some
def qaX:=@Nat.add_mul
def qaY:=@List.drop_of_length_le
def qaZ:=@List.length_drop
def qa0:=@Nat.lt_of_lt_of_le
def qa1:=@Array.getElem?_append_left
def qa2:=@List.mem_cons
def qa3:=@List.flatten_cons
def qa4:=@Nat.add_assoc
def qa5:=@List.takeWhile_append_dropWhile
def qa6:=@List.getElem?_drop
def qa7:=@List.getElem?_eq_none
def qa8:=@List.map_map
def qa9:=@List.nil_append
def qba:=@List.length_pos_iff
def qbb:=@List.takeWhile_cons
def qbc:=@List.getElem?_of_mem
def qbd:=@Array.getElem?_append_right
def qbe:=@List.drop_zero
def qbf:=@Nat.eq_of_beq_eq_true
def qbg:=@List.mem_singleton
def qbh:=@Array.getD_eq_getD_getElem?
def qbi:=@List.cons.injEq
def qbj:=@List.drop_succ_cons
def qbk:=@List.cons_append
def qbl:=@List.take_zero
def qbm:=@Option.getD_some
def qbn:=@List.length_take
def qbo:=@Prod.mk.injEq
def qbp:=@List.sizeOf_lt_of_mem
def qbq:=@Nat.blt_eq
def qbr:=@List.getD_eq_getElem?_getD
def qbs:=@Bool.not_eq_true'
def qbt:=@List.nodup_append
def qbu:=@Array.getElem?_modify
def qbv:=@Bool.or_eq_true
def qbw:=@List.mem_append
def qbx:=@List.mem_flatten
def qby:=@Nat.le_of_not_lt
def qbz:=@List.nodup_nil
def qbA:=@List.foldl_append
def qbB:=@List.flatten_append
def qbC:=@List.length_eq_one_iff
def qbD:=@Nat.lt_succ_self
def qbE:=@Array.append_assoc
def qbF:=@List.all_cons
def qbG:=@List.length_replicate
def qbH:=@List.map_take
def qbI:=@List.nodup_cons
def qbJ:=@Classical.axiomOfChoice
def qbK:=@List.getElem?_cons_succ
def qbL:=@List.getElem?_replicate
def qbM:=@List.replicate_succ
def qbN:=@List.not_mem_nil
def qbO:=@Nat.lt_of_not_le
def qbP:=@List.drop_drop
def qbQ:=@List.drop_left
def qbR:=@List.drop_eq_nil_of_le
def qbS:=@List.all_append
def qbT:=@List.contains_iff_mem
def qbU:=@List.foldl_cons
def qbV:=@List.length_set
def qbW:=@List.length_singleton
def qbX:=@List.singleton_append
def qbY:=@Nat.le_of_lt
def qbZ:=@Nat.succ_mul
def qb0:=@List.mapM_cons
def qb1:=@List.mem_of_find?_eq_some
def qb2:=@Nat.mul_le_mul
def qb3:=@List.flatten_nil
def qb4:=@Bool.false_ne_true
def qb5:=@Bool.false_or
def qb6:=@List.mem_filter
def qb7:=@Classical.choose_spec
def qb8:=@List.eq_nil_iff_forall_not_mem
def qb9:=@List.mem_append_right
def qca:=@List.set_append_right
def qcb:=@List.set_getElem_self
def qcc:=@Nat.add_zero
def qcd:=@Nat.sub_self
def qce:=@List.drop_append_of_le_length
def qcf:=@List.take_append_of_le_length
def qcg:=@List.mem_append_left
def qch:=@List.set_append_left
def qci:=@Bool.not_true
def qcj:=@Bool.true_and
def qck:=@List.sum_append
def qcl:=@Array.getElem?_map
def qcm:=@List.find?_eq_none
def qcn:=@List.map_singleton
def qco:=@Nat.mul_comm
def qcp:=@Nat.zero_mul
def qcq:=@Array.mapM_eq_mapM_toList
def qcr:=@Bool.false_and
def qcs:=@List.exists_mem_of_ne_nil
def qct:=@Decidable.not_not
def qcu:=@Function.comp_def
def qcv:=@Int.toNat_natCast
def qcw:=@List.getElem?_inj
def qcx:=@List.getElem?_cons_zero
def qcy:=@List.map_id
def qcz:=@List.any_eq_true
def qcA:=@List.drop_append
def qcB:=@List.getElem_map
def qcC:=@List.getElem_cons_zero
def qcD:=@Bool.and_eq_false_iff
def qcE:=@List.filter_map
def qcF:=@List.length_filter_le
def qcG:=@Nat.add_comm
def qcH:=@Nat.beq_refl
def qcI:=@Nat.ble_eq_true_of_le
def qcJ:=@Option.some.inj
def qcK:=@Bool.or_eq_false_iff
def qcL:=@List.take_left
def qcM:=@Nat.succ_pos
structure Zh(Q:Prop):Prop where
 p:Q
theorem zqa{G:Prop}(h:G:=by (repeat' (first|exact trivial|exact Le.refl _|refine qai ?_ ?_|exact Le.any _|exact Le.nil _|exact Le.own _ _ _|refine Le.tree rfl ?_|exact TLe.refl _|exact TLe.nil _|refine TLe.ags ?_|fail)) <;> fail):G:=h
theorem zqb{G Q:Prop}(z_:Q)(h:Zh Q->G:=by intro z_;apply TO.cat;(iterate 3 exact rfl);(first|omega|(simp only[qad,qal,qaz];omega));exact z_.p):G:=h ⟨z_⟩
theorem zqc{G Q:Prop}(z_:Q)(h:Zh Q->G:=by intro z_;apply TO.cat;(iterate 3 exact rfl);(simp only[qad,qal,qaz];omega);exact z_.p):G:=h ⟨z_⟩
theorem zqd{G:Prop}(h:G:=by (first|omega|(simp only[qad,qal,qaz];omega)) <;> fail):G:=h
theorem zqe{G Q:Prop}(z_:Q)(h:Zh Q->G:=by intro z_;apply TO.indexAddr zaf;(iterate 8 exact rfl);decide;exact rfl;exact z_.p):G:=h ⟨z_⟩
theorem zqf{G Q:Prop}(z_:Q)(h:Zh Q->G:=by intro z_;apply TO.indexAddr zaf;(iterate 8 exact rfl);omega;exact hx;exact z_.p):G:=h ⟨z_⟩
theorem zqg{G Q:Prop}(z_:Q)(h:Zh Q->G:=by intro z_;apply TO.zkC zaf;(iterate 7 exact rfl);omega;omega;exact z_.p):G:=h ⟨z_⟩
theorem zqh{G Q:Prop}(z_:Q)(h:Zh Q->G:=by intro z_;apply TO.add;(iterate 3 exact rfl);omega;omega;exact z_.p):G:=h ⟨z_⟩
theorem zqi{G Q:Prop}(z_:Q)(h:Zh Q->G:=by intro z_;apply TO.alloc zaf;(iterate 3 exact rfl);exact z_.p):G:=h ⟨z_⟩
theorem zqj{G Q:Prop}(z_:Q)(h:Zh Q->G:=by intro z_;apply TO.box;(iterate 4 exact rfl);exact z_.p):G:=h ⟨z_⟩
theorem zwa{G:Prop}(h:G:=by
 clear h1 h2 h3 hn
 refine TR.zcS (ι:=Nat×Nat×Ex) (fun x=>i≤x.2.1/\x.2.1≤l.length/\l.length-x.2.1≤x.1/\(rdr l es).whens x.1 x.2.2 x.2.1=r) (fun x=>l.length-x.2.1) (fun _=>[(0,.ref 0 0),(3,.ref 2 0),(2,.ref 1 0)]) (fun x=>[rdB l n es x.2.1,exZ,exB x.2.2]) ((rdr l es).K.length,j,e)
  ⟨by show i≤j;omega,hj2,by rw[zal];show l.length-j≤l.length;omega,hr⟩ ⟨rfl,rfl,rfl,trivial⟩ rfl ?_
 clear hj1 hj2 hr
 clear j e
 rintro⟨m,j,e⟩ ⟨q1,q2,q3,q4⟩
 replace q1:i≤j:=q1
 replace q2:j≤l.length:=q2
 replace q3:l.length-j≤m:=q3
 replace q4:(rdr l es).whens m e j=r:=q4
 have ht:=zam l n es j [119,104,101,110] hl q2
 cases hw:(rdr l es).isAt j [119,104,101,110] with
 | false=>
   rw[hw,if_neg (by decide)]at ht
   rw[zoQ hw]at q4
   subst q4
   repeat' (first|refine wu ?_|exact wkc|intro hc|refine wk2 ?_ ?_|refine wd ht ?_|fail)
   apply rdV rfl
   ·exact rfl
   ·rw[vlE,zae]
    unfold exC
    exact zqa
   all_goals exact rfl
 | true=>
   have hlt:=zaE hw
   rw[zal]at hlt
   rw[hw,if_pos rfl]at ht
   cases m with
   | zero=>exfalso;omega
   | succ m=>
   rw[Rd.whens,if_pos hw]at q4
   have hs:=zhO l n es (j+1) hl hlt he ⟨[],toI 0,toI 0⟩
   have hsin:=zhP (R:=rdr l es) (i:=j+1) (by rw[zal];exact hlt)
   rw[zal]at hsin
   cases hq:(rdr l es).sampling (j+1) with
   | er k c=>
     rw[hq]at hs hsin q4
     have hc0:=hsin.2
     replace hs:=hs.er
     simp only[PR.vl]at hs
     simp only[PR.bind]at q4
     repeat' (first|refine wu ?_|exact wkc|intro hc|refine wk2 ?_ ?_|refine wd ht ?_|refine we hs ?_ ?_|fail)
     repeat' (first|refine zab.panic ?_|refine wk ?_|fail)
     exact rdP q4.symm hc0
   | ok o j2=>
     rw[hq]at hs hsin q4
     obtain⟨hs1,hs2⟩:=hsin
     replace hs:=hs.ok
     simp only[PR.vl]at hs
     simp only[PR.bind]at q4
     unfold onT at hs
     repeat' (first|refine wu ?_|exact wkc|intro hc|refine wk2 ?_ ?_|refine wd ht ?_|refine we hs ?_ ?_|fail)
     refine zab.cut 3 (m,j2,.mk (toI 8) (toI 0) o.t o.tag o.name [e]) ⟨?_,hs2,?_,q4⟩ ?_ ⟨rfl,rfl,rfl,trivial⟩ rfl rfl ?_ rfl rfl
     ·show i≤j2;omega
     ·show l.length-j2≤m;omega
     ·show l.length-j2<l.length-j;omega
     ·show _=[rdB l n es j2,exZ,exB (.mk (toI 8) (toI 0) o.t o.tag o.name [e])]
      unfold exB
      simp only[Ex.kind,Ex.op,Ex.t,Ex.v,Ex.name,Ex.args,qah,qaC,zae e];rfl):G:=h
theorem zwb{G:Prop}(h:G:=by
 obtain⟨g1,g2⟩:=(zbo hL).1 hi
 have hiM:i∈Region.ready .any all M:=by
  refine(zbo hM).2 ⟨by rw[h1 i hik];exact g1,fun j hj=>?_⟩
  have hjl:=(qaj.1 (g2 j hj)).1
  by_cases hjk:j<k
  ·rw[h1 j hjk];exact g2 j hj
  ·exact h2 j (by omega) (by omega)
 have hnext:∀a' w',C w'->wpAnyQIn (Fr r) 0 P .any all C Q u (M.setIfInBounds i true) a'->wpAnyIn (Fr r) 0 P .any all Q' (u+n2) (L.setIfInBounds i true) a' w':=by
  intro a' w' hC' hk'
  refine ih (L.setIfInBounds i true) (M.setIfInBounds i true) a' w' (by simpa using hL) (by simpa using hM) ?_ ?_ ?_ (zsR hL hdc hi) hC' hk'
  ·intro j hj
   rw[qaK,qaK,h1 j hj,hL,hM]
  ·intro j hj hja
   rw[qaK,if_neg (by omega)]
   exact h2 j hj hja
  ·intro j hj hja
   rw[qaK,if_neg (by omega)]
   exact h3 j hj hja
 have h4:=h.2 i hiM
 unfold qOpIn at h4
 unfold wpOpIn
 cases ho:all[i]? with
 | none=>simp only[ho]at h4⊢;exact hnext _ _ hC h4
 | some o=>
   simp only[ho]at h4⊢
   obtain⟨_,h4⟩:=h4
   split
   ·rename_i hwt
    rw[if_pos hwt]at h4
    exact zhE (hp i o hik ho) hC (fun a' w' hw' hk=>hnext a' w' hw' hk) h4
   ·rename_i hwt
    rw[if_neg hwt]at h4
    exact⟨fun _ _=>trivial,hnext _ _ hC h4⟩):G:=h
theorem zwc{G:Prop}(h:G:=by
 have he:exC q=[T.n q.kind,T.n q.op,T.n q.t,T.n q.v,.s q.name,.sl 6 (q.args.map exT)]:=rfl
 rw[he]at hx hs
 repeat' (first|refine wkt ?_|refine zqf ?_|exact wkc|intro hc|refine wk2 ?_ ?_|fail)
 apply TR.zfa (envF:=_) (HF:=ln1 es (ac2++ln)) [(_,false),(_,false),(_,false),(_,false),(_,false),(_,false),(_,false),(_,false),(_,false),(_,true)] [ln1 es ac2,ln1 es (ac2++ln)] hmix
 case hB=>(dsimp only[List.map];decide +kernel)
 case h0=>exact rfl
 case hF=>exact rfl
 case hp=>
  repeat' (first|(refine qai (fun H hH env=>?_) ?_;rcases zmf hH with rfl|rfl)|refine qai (fun env=>?_) ?_|refine wma ?_|(apply TO.zbH 1 hs;(iterate 3 exact rfl);exact Les.refl _;(iterate 8 exact rfl))|(apply TO.zbH 3 hadd;(iterate 3 exact rfl);exact Les.refl _;(iterate 8 exact rfl))|(apply TO.cat;(iterate 3 exact rfl);exact zqd)|exact trivial|exact qai rfl rfl|refine wmk ?_|fail)
  done
 case hE=>exact rfl
 case hK=>
  repeat' (first|refine wu ?_|exact wkc|intro hc|refine wk2 ?_ ?_|fail)
  exact zab.zaI hlt trivial (by(try dsimp only);exact⟨rfl,rfl,rfl,rfl,rfl,trivial⟩) (by(try dsimp only);rw[hj1])):G:=h
theorem zwd{G:Prop}(h:G:=by
 rw[if_neg (by omega)]at hr
 refine so Tryz.func170 ?_
 repeat' (first|refine wkt ?_|(apply TO.want;exact rfl)|refine wd h1 ?_|refine wd h2 ?_|refine wd h3 ?_|exact wkc|intro hc|refine wk2 ?_ ?_|fail)
 refine rgS [.ref 0 0,.ref 0 0,.ref 0 0,.ref 0 0,.t (.sl 3 (l.map tokT)),.ref 0 0,.ref 0 0,.ref 0 2,.i i,.cp [T.i tk.1,.s tk.2.1,T.i tk.2.2] 0,.cp [T.i tk.1,.s tk.2.1,T.i tk.2.2] 1,.s tk.2.1,.tup [.i (u:Int),.i (w:Int),.b true],.tup [.i (u:Int),.i (w:Int),.b true],.i (u:Int),.i (w:Int),.b true,.i (u:Int),.i (w:Int),.b true] ?_ ?_
 ·repeat' (first|refine wkt ?_|exact trivial|exact⟨⟨rfl,rfl⟩,trivial⟩|refine qai (fun env=>?_) ?_|refine qai ?_ ?_|refine wd hg ?_|refine wk ?_|exact wkc|intro hc|refine wk2 ?_ ?_|fail)
  done
 ·repeat' (first|refine wu ?_|exact wkc|intro hc|refine wk2 ?_ ?_|refine we hf ?_ ?_|fail)
  first
   | exact rdP hr.symm (by decide)
   | exact rdV (vs:=[]) hr.symm rfl (Le.refl _) rfl rfl rfl
   | exact rdN (vs:=[]) hr.symm rfl (Le.refl _) rfl rfl rfl):G:=h
theorem zwe{G:Prop}(h:G:=by
 have hlt2:j<(args.take n).length:=by rw[hl2];exact hlt
 have hx:=zd3 hlt2
 rw[<-hmt]at hx
 have htk:=zbr hlt2
 have hmem:(args.take n)[j]∈args:=qaN (qaf hlt2)
 have hs:=hf _ hmem
 have hlen:(((args.take n).take j).map (T.s ∘ f)).length≤1000000:=by rw[qab,qbn,hl2];omega
 unfold ShC at hs
 generalize (args.take n)[j]=x at*
 have hgx:(T.s ∘ f) x=T.s (f x):=rfl
 generalize f x=g at*
 unfold exC at hx hs
 repeat' (first|refine wu ?_|exact wkc|intro hc|refine wk2 ?_ ?_|refine wd hs ?_|fail)
 exact zab.zaI hlt trivial (by(try dsimp only);rw[htk,qaH,qcn,hgx];exact⟨rfl,rfl,rfl,rfl,rfl,rfl,rfl,trivial⟩) (by(try dsimp only);rw[htk,qaH,qcn,hgx,qad];rfl)):G:=h
theorem zwf{G:Prop}(h:G:=by
 intro i o v ho hv hb
 obtain⟨⟨v',b⟩,hx,rfl⟩:∃x,t[i]?=some x/\x.1=v:=by simpa using hv
 have hlt:(((t.map (·.2)).take i).filter id).length<((t.map (·.2)).filter id).length:=by
  have hm:∀(fl':List Bool) (x:Nat),fl'.getD x false=true->((fl'.take x).filter id).length<(fl'.filter id).length:=by
   intro fl'
   induction fl' with
   | nil=>intro x h;cases h
   | cons b fl' ih=>
     intro x h
     cases x with
     | zero=>simp at h;subst h;simp
     | succ x=>
       have:=ih x (by simpa using h)
       cases b <;> simp <;> exact this
  exact hm _ i hb
 exact⟨H0,H0,hsi _ (by omega),hsi _ (by omega),fun env=>g2 i o v' b (by simpa using ho) hx env⟩):G:=h
theorem zwg{G:Prop}(h:G:=by
 refine .t _ _ (.sl sz es p.b (p.lo+0) cap f hc (fun j e he=>hsz e (qas he)) (fun q j hq hj=>.inr ⟨rfl,by omega,by have:=hlt q j hq hj;omega⟩) (fun q j hq hj=>(hf _ (hlt q j hq hj)).1) (fun q j hq hj=>(hf _ (hlt q j hq hj)).2.1) (fun q e j c he hc'=>?_))
 have hq:=(qaa.1 he).1
 have hj:=(qaa.1 hc').1
 rw[hsz e (qas he)]at hj
 have hcc:cs[q*sz+j]?=some (.t c):=hcs _ _ (by rw[qar,l2 q j e c he hc'];rfl)
 have:=(hf _ (hlt q j hq hj)).2.2 _ hcc
 cases this with
 | t _ _ h=>exact s.trel h2 h):G:=h
theorem zwh{G:Prop}(h:G:=by
 have hx:=zmQ (F:=Fr φ.r) (N:=0) (P:=P) (C:=Keeps m.w) (md:=.any) (Q:=fun a'=>∀w',Keeps m.w w'->wpListIn (Fr φ.r) 0 P l.toArray (Post φ m n K) (l.drop k) a' w') hB1 (l.take k) 0
  (Array.replicate k false++Array.replicate (l.toArray.size-k) true) a (fun j hj=>by rw[qaS,if_pos (by omega)];simp) (by rw[hlt];exact hB5) (zgU _ a (zdp ?_ _ a hq))
 ·rw[hlt]at hx;exact hx
 ·rintro a' ⟨env',g1,g2,g3⟩ w' hw'
  obtain⟨s,hm'⟩:=zcJ h2 hw'
  have:=g3 φ ⟨m.A,m.β,m.H,w'⟩ a' h1 hm' (g1.step h2 s) (g2.step h2 s)
  exact TO.zeM s this):G:=h
theorem zwi{G:Prop}(h:G:=by
 have:envA l.toArray (t.map (·.1)) (fun i=>(Array.replicate l.toArray.size false).getD i false) (List.range l.toArray.size)=[]:=by
  have:∀x:List Nat,envA l.toArray (t.map (·.1)) (fun i=>(Array.replicate l.toArray.size false).getD i false) x=[]:=by
   intro x
   induction x with
   | nil=>rfl
   | cons i x ih=>
     have:(Array.replicate l.toArray.size false).getD i false=false:=by
      rw[qbh,qaR]
      split <;> rfl
     simp only[envA,this,ih]
  exact this _
 rw[this,qa9]
 exact h3.step h2 s0.1):G:=h
theorem zwj{G:Prop}(h:G:=by
 rw[if_pos (by simpa using ht2)]at hr
 have hf:=zb8 l n es j2 (j+1) 5 (by decide) hl
 have hc0:(5:Int)≠0:=by decide
 refine wk ?_
 repeat' (first|refine wkt ?_|(apply TO.want;exact rfl)|(apply TO.zaV;(iterate 3 exact rfl);omega;omega)|refine zqh ?_|refine we m1 ?_ ?_|refine we w1 ?_ ?_|refine we a1 ?_ ?_|refine we hf ?_ ?_|exact wkc|intro hc|refine wk2 ?_ ?_|fail)
 repeat' (first|refine zab.panic ?_|refine wk ?_|fail)
 first
  | exact rdP hr.symm hc0 rfl (zbC _ rfl)
  | exact rdP hr.symm hc0):G:=h
theorem zwk{G:Prop}(h:G:=by
 have htx:zax (5,x,p)=39::x++[39]:=by simp[zax]
 rw[htx]
 have hs:zao zau (x++39::R)=x:=zcy ha (fun c r e=>by cases e;decide)
 have hb:behind zau (x++39::R)=39::R:=by rw[behind,hs,qbQ]
 refine⟨?_,?_,by simp⟩
 ·have:(39::x++[39]++R:Str)=39::(x++39::R):=by simp
  rw[this]
  unfold zad
  simp only
  rw[if_neg (by decide),if_neg (by decide),if_pos (by decide),hs,hb]
  simp[zc8,zc7,zeR]
 ·exact zjJ (c:=39) (r:=x++[39]++R) (by decide) (by decide)):G:=h
theorem zwl{G:Prop}(h:G:=by
 subst hf
 clear hfk1 hfk2
 cases sm
 all_goals
  repeat' (first|refine wkt ?_|refine wka ?_|refine wkD ?_|refine wk ?_|exact wkc|intro hc|refine wk2 ?_ ?_|refine wsx ?_|refine wms ?_|refine wsy ?_ ?_|refine wss hs ?_ ?_|refine wb hal ?_ ?_|fail)
 all_goals first
  | (exfalso;omega)
  | (refine zab.zaI hlt (g2 rfl) ?_
     simp only[qcr,qcj]at g3
     first|rw[hc]at g3|skip
     simp only[hfs1,g3]
     repeat' (first|exact trivial|refine qai rfl ?_|fail))):G:=h
theorem zwm{G:Prop}(h:G:=by
 unfold exC at hx hs
 have hr:=zfb es i (-1) (za4 es u)
 generalize za4 es u=xe at*
 repeat' (first|refine wu ?_|exact wkc|intro hc|refine wk2 ?_ ?_|refine wv hs ?_|refine we hr ?_ ?_|fail)
 all_goals first
  | exact zab.zaI hlt (g2 hc)
  | ((repeat' (first|refine zab.panic ?_|refine wk ?_|fail));apply retQ;(first|assumption|decide);(clear hs hr hex hx;grind);(clear hs hr hex hx;grind);exact rfl;exact rfl)):G:=h
theorem zwn{G:Prop}(h:G:=by
 have hcx:exC x=[T.n x.kind,T.n x.op,T.n x.t,T.n x.v,.s x.name,.sl 6 (x.args.map exT)]:=rfl
 rw[hcx]at ho⊢
 repeat' (first|refine wu ?_|exact wkc|intro hc|refine wk2 ?_ ?_|fail)
 refine⟨rfl,?_⟩
 repeat' (first|refine wu ?_|exact wkc|intro hc|refine wk2 ?_ ?_|refine wv ho ?_|fail)
 ·refine⟨_,?_,rfl,rfl⟩
  rw[errF,if_neg hc]
  rfl
 ·refine⟨?_,rfl,rfl⟩
  rw[errF,if_pos (by simpa using hc)]):G:=h
theorem zwo{G:Prop}(h:G:=by
 have hst:=run_storeCells_cells (P:=P) m.w.heap.size 0 (a1.eval y).cells.toList 0 w1 (fun q hq=>hsome q hq) (fun q hq=>World.frozen?_alloc_new ..) (fun u hu=>by
  obtain⟨q,hq⟩:=qbc hu
  exact g0 q u (by simpa using hq))
 have hne:(a1.eval y).cells.size=i.size:=by omega
 simp[execOp,hev,pv,Instr.storeAt,Instr.sureAddr,storeVar,(hT t i ht).sizeOf,hne,hst,w2]):G:=h
theorem zwp{G:Prop}(h:G:=by
 intro L M hL hM h1 h2 hdc hr i hi hia
 refine qaB fun hne=>?_
 have hMi:M[i]?=some false:=by
  rw[h1 i hi]
  have:L[i]?=some (L[i]'(by omega)):=qam (by omega)
  rw[this]at hne⊢
  cases h:L[i]'(by omega)
  ·rfl
  ·rw[h]at hne;exact absurd rfl hne
 obtain⟨m,_,hm,_⟩:=zdQ hM hd hMi
 rw[hr]at hm;cases hm):G:=h
theorem zwq{G:Prop}(h:G:=by
 have hsz:all.size≤p:=qby fun hlt=>by
  have:=hl 0
  rw[qcc,qam hlt]at this
  cases this
 refine⟨?_,h⟩
 refine qb8.2 fun i hi=>?_
 have:=((zbo hL).1 hi).1
 have hlt:=(qaj.1 this).1
 rw[h1 i (by omega) (by omega)]at this
 cases this):G:=h
theorem zwr{G:Prop}(h:G:=by
 refine⟨by simp[g1],fun i o' v' b' ho hv=>?_⟩
 cases i with
 | zero=>simp at ho hv;obtain⟨rfl,rfl⟩:=hv;subst ho;exact⟨fun e=>by(cases e),fun _=>⟨H1,H2,rfl,rfl,h1⟩⟩
 | succ i=>
   have:=g2 i o' v' b' (by simpa using ho) (by simpa using hv)
   have e:effs ((v,true)::t) (i+1)=effs t i+1:=by simp[effs]
   rw[e]
   simpa using this):G:=h
theorem zws{G:Prop}(h:G:=by
 intro i o v ho hv hb
 obtain⟨⟨v',b⟩,hx,rfl⟩:∃x,t[i]?=some x/\x.1=v:=by simpa using hv
 have hb':b=true:=by
  rw[qbr,qar,hx]at hb
  simpa using hb
 have:=(g2 i o v' b (by simpa using ho) hx).2 hb'
 rw[hef]
 obtain⟨H1,H2,e1,e2,e3⟩:=this
 exact⟨H1,H2,e1,e2,fun env=>(e3 env).nkp trivial⟩):G:=h
theorem zwt{G:Prop}(h:G:=by
 intro i hi j hj
 have hil:=(qaj.1 hi).1
 have hip:i<p:=qbO fun hle=>by rw[h2 i hle (by omega)]at hi;cases hi
 have:=qaw.1 hd i (by simp;omega)
 have:=qaw.1 this j hj
 have hji:j<i:=by simpa using this
 exact h1 j (by omega) (by omega)):G:=h
theorem zwu{G:Prop}(h:G:=by
 have hd:digit c.toNat=true:=ha c (by rw[hx];exact qak)
 obtain⟨g1,g2,g3,g4⟩:=zlV hd
 refine⟨?_,?_,by rw[hx];simp⟩
 ·have:x++R=c::(w++R):=by rw[hx];rfl
  rw[this]at hs⊢
  unfold zad
  simp only
  rw[if_neg (by rw[g1];simp),if_pos hd,hs,hn]
 ·rw[hx]
  exact zjJ g2 g3):G:=h
theorem zwv{G:Prop}(h:G:=by
 unfold zfm at hx
 repeat' (first|refine wkt ?_|refine wka ?_|refine wkD ?_|refine wk ?_|exact wkc|intro hc|refine wk2 ?_ ?_|refine wsx ?_|refine wms ?_|refine wsy ?_ ?_|fail)
 refine zab.zaI hlt trivial ?_ (by rw[g2];rfl)
 repeat' (first|exact trivial|refine qai rfl ?_|fail)):G:=h
theorem zww{G:Prop}(h:G:=by
 generalize args.map exT=la at*
 clear hop hme hca hf hg hsm hva
 refine so Tryz.func18 ?_
 refine wkt ?_
 refine zqj ?_
 repeat' (first|refine wkt ?_|refine wd hs ?_|exact wkc|intro hc|refine wk2 ?_ ?_|refine wk ?_|fail)
 exact RetK.keep 1 rfl (Le.refl _) rfl rfl rfl rfl rfl ⟨rfl,rfl⟩):G:=h
theorem zwx{G:Prop}(h:G:=by
 have hjs:=g2 _ e (r3 e he)
 have h6:i*sz=es.length*sz+(i-es.length)*sz:=by rw[<-qaX];congr 1;omega
 simp only[if_neg (show ¬i*sz+j<es.length*sz from by omega)]
 rw[show i*sz+j-es.length*sz=(i-es.length)*sz+j from by omega]
 exact s.trel hm (g3 _ e j c (r3 e he) hc)):G:=h
theorem zwy{G:Prop}(h:G:=by
 obtain⟨g1,g2⟩:=zg6 _ _ _ _ hv
 have hi:=(qaa.1 g2).1
 have hvi:vs[i]?=some (vs[i]'(by rw[h3.1];omega)):=qam _
 exact⟨_,by rw[qa1 (by rw[h3.1];omega)];exact hvi,h3.2 i v _ (by simpa using g2) hvi⟩):G:=h
theorem zwz{G:Prop}(h:G:=by
 refine so Tryz.func42 ?_
 refine wkt ?_
 refine zqj ?_
 repeat' (first|refine wkt ?_|refine wd hf ?_|refine wd hg ?_|refine zqc ?_|exact wkc|intro hc|refine wk2 ?_ ?_|refine wk ?_|fail)
 exact RetK.keep 1 rfl (Le.refl _) rfl rfl rfl rfl rfl ⟨rfl,rfl⟩):G:=h
theorem zwba{G:Prop}(h:G:=by
 refine⟨?_,?_,g7⟩
 ·rw[he]at g6⊢
  unfold zad
  simp only
  rw[if_neg (by rw[g1];simp),if_neg (by rw[g2];simp),if_neg (by rw[g3];simp),g6]
  unfold zgu
  rw[if_neg]
  intro h0
  exact g7 (by simpa using h0)
 ·rw[he]at g5⊢
  exact zfG g4 g5):G:=h
theorem zwbb{G:Prop}(h:G:=by
 intro φ m a h1 h2 h3 h4
 refine k φ m a h1 h2 ⟨h3.1,fun j w hw=>?_⟩ h4
 by_cases hj:i=j
 ·subst hj
  rw[Env.zat]at hw
  cases hw
  obtain⟨x,x1,x2⟩:=h3.2 i _ hi
  exact⟨x,x1,hl m x x2⟩
 ·rw[Env.zak _ _ hj]at hw
  exact h3.2 j w hw):G:=h
theorem zwbc{G:Prop}(h:G:=by
 refine⟨by simp[g1],fun i o' v' b' ho hv=>?_⟩
 cases i with
 | zero=>simp at ho hv;obtain⟨rfl,rfl⟩:=hv;subst ho;exact⟨fun _=>h1,fun e=>by cases e⟩
 | succ i=>
   have:=g2 i o' v' b' (by simpa using ho) (by simpa using hv)
   simpa [effs]using this):G:=h
theorem zwbd{G:Prop}(h:G:=by
 intro i q k h1 h2
 by_cases hi:i=id
 ·subst hi
  rw[qav hidβ]at h1
  rw[qav hid]at h2
  cases h1;cases h2;exact .inl ⟨rfl,rfl,rfl⟩
 ·rw[qaF (by omega)]at h1 h2
  exact .inr ⟨hi,h1,h2⟩):G:=h
theorem zwbe{G:Prop}(h:G:=by
 rw[<-hmc.len]
 by_cases h0:l.length=0
 ·omega
 ·have hlt:l.length-1<(cutM m l Hc).β.length:=by simp[cutM];omega
  obtain⟨p',hp',_⟩:=s.ids (l.length-1) _ (qac hlt)
  have:=(qaa.1 hp').1
  omega):G:=h
theorem zwbf{G:Prop}(h:G:=by
 intro j
 by_cases hj:j<cs.length
 ·obtain⟨y,hy1,hy0,hy2⟩:=b3 j cs[j] (qac hj)
  exact⟨y,fun _=>⟨hy1,hy0,fun c hc=>by rw[qac hj]at hc;cases hc;exact hy2⟩⟩
 ·exact⟨undef,fun h=>absurd h hj⟩):G:=h
theorem zwbg{G:Prop}(h:G:=by
 all_goals first
  | exact zab.zaI hlt2 (g2 hc)
  | ((repeat' (first|refine zab.panic ?_|refine wk ?_|fail));apply retF;(first|assumption|decide);(clear hi hd1 ht1 ht2 heq hau hx hx2 hs;grind);exact rfl;exact rfl)):G:=h
theorem zwbh{G:Prop}(h:G:=by
 have h2:=zaN (f:=enT) (sz:=2) hu
 rw[show enT u= .ag [.s u.name,.sl 1 (u.tags.map T.s)] from rfl,w_ag]at h2
 simp only[qah,qaC,qay,qaQ]at h2
 have h3:=zaB T.s 1 u.tags
 omega):G:=h
theorem zwbi{G:Prop}(h:G:=by
 refine qaq (zcF [44,32] 1000000000000 _ fun y hy=>?_) ?_
 ·obtain⟨x,hx,rfl⟩:=qaP.1 hy
  exact hl x (qaN hx)
 ·rw[qab,hl2]
  exact qaD _ (by omega)):G:=h
theorem zwbj{G:Prop}(h:G:=by
 rw[this,qaG]at h3
 refine RetK.keep 1 rfl (Le.refl _) rfl rfl rfl rfl rfl ⟨by rw[h3];rfl,?_⟩
 rw[h3]
 simp only[qaZ,qbn]
 rw[show i+(min k s.length-i)=k from by omega];rfl):G:=h
theorem zwbk{G:Prop}(h:G:=by
 have h':∀d:Nat,(Op.equalIn (d+1) t (.pointer p) (.pointer none)).run P w= .ok p.isNone w:=fun d=>by
  cases p <;> simp[Op.equalIn,run_underlying h]
 simp only[Go.binOp]
 simp[Op.equal,Op.maxDepth,h' 9999]):G:=h
theorem zwbl{G:Prop}(h:G:=by
 refine so Tryz.func110 ?_
 repeat' (first|refine wk ?_|exact wkc|intro hc|refine wk2 ?_ ?_|refine wv c1 ?_|refine wv c2 ?_|refine wv c3 ?_|refine wv c4 ?_|refine wv c5 ?_|fail)
 all_goals exact wkr):G:=h
theorem zwbm{G:Prop}(h:G:=by
 rw[zby]
 cases hpk:(zaM (zaM env0 w++zbT all vs env0) (slotsOf all o)).look t with
 | none=>exact e2
 | some u'=>
   have:=hlook t u' (by rw[zby,hpk])
   rw[this]at e2
   exact e2):G:=h
theorem zwbn{G:Prop}(h:G:=by
 unfold wpListIn at h
 unfold wpOpIn
 simp only[hpo]
 split
 ·rename_i hw
  rw[if_pos hw]at h
  exact Oper.wpIn_mono (fun a w h=>hnext a w h) h
 ·rename_i hw
  rw[if_neg hw]at h
  exact⟨h.1,hnext _ _ h.2⟩):G:=h
theorem zwbo{G:Prop}(h:G:=by
 refine⟨?_,?_,by rw[hx];simp⟩
 ·have:x++R=c::(w++R):=by rw[hx];rfl
  rw[this]at hs⊢
  unfold zad
  simp only
  rw[if_pos hc,hs,hn]
 ·rw[hx]
  obtain⟨g1,g2,_⟩:=zgs hc
  exact zjJ g1 g2):G:=h
theorem zwbp{G:Prop}(h:G:=by
 all_goals first
  | (exfalso;omega)
  | exact zab.zaI hlt trivial (by(try dsimp only);rw[hL1];exact⟨rfl,rfl,rfl,rfl,rfl,trivial⟩) (by(try dsimp only);rw[hL1,qad];rfl)):G:=h
theorem zwbq{G:Prop}(h:G:=by
 have e1:=zaF ha
 repeat' (first|refine wu ?_|exact wkc|intro hc|refine wk2 ?_ ?_|fail)
 exact zk7 e1 (Ch.ble _ _ _ _ _) (Ch.ble _ _ _ _ _) (Ch.tkl _ _ _ _ _) (Ch.und _ _ _ _ _)):G:=h
theorem zwbr{G:Prop}(h:G:=by
 rw[if_pos (by rw[g1 hc];exact hc),g1 hc]at hz
 subst hz
 repeat' (first|refine zab.panic ?_|refine wk ?_|fail)
 exact⟨_,zhl _ _ _ _ _ _ _ rfl,fun H3 h=>by subst h;exact wkr⟩):G:=h
theorem zwbs{G:Prop}(h:G:=by
 refine⟨0,fun i hi=>⟨fun h=>by omega,fun h=>?_⟩,qaJ _,by rw[hsi 0 (qaJ _)];simp[h1],fun j h=>?_⟩
 all_goals
  rw[qaR]at h
  split at h <;> cases h):G:=h
theorem zwbt{G:Prop}(h:G:=by
 refine so Tryz.func6 ?_
 repeat' (first|refine wu ?_|exact wkc|intro hc|refine wk2 ?_ ?_|refine wv s1 ?_|refine wv s2 ?_|fail)
 all_goals first
  | exact wkr
  | (exfalso;omega)):G:=h
theorem zwbu{G:Prop}(h:G:=by
 apply rdV rfl
 ·exact rfl
 ·rw[vlE,zbI _ _ _ _ _ _ rfl rfl rfl rfl,qah,qah,qaC,zae a,zae b]
  unfold exC
  exact zqa
 all_goals exact rfl):G:=h
theorem zwbv{G:Prop}(h:G:=by
 rw[qap]
 repeat' (first|refine wu ?_|exact wkc|intro hc|refine wk2 ?_ ?_|refine wv hj ?_|fail)
 exact RetK.keep 1 rfl (Le.refl _) rfl rfl rfl rfl rfl ⟨rfl,rfl⟩):G:=h
theorem zwbw{G:Prop}(h:G:=by
 have h2:(zbB p.nodes).w=(T.sl 8 (p.nodes.map nodT)).w:=rfl
 have h3:=hw
 rw[w_ag]at h3
 simp only[za8,qah,qaC,qay,qaQ]at h3
 omega):G:=h
theorem zwbx{G:Prop}(h:G:=by
 refine RetK.pure rfl (Le.zvY rfl ?_) rfl
 repeat' (first|exact trivial|exact TLs.nil _|refine TLs.agL ?_|refine TLs.slL ?_|refine qai ?_ ?_|exact TLs.refl _|fail)):G:=h
theorem zwby{G:Prop}(h:G:=by
 refine⟨by simp[g1],fun i x y hx hy=>?_⟩
 cases i with
 | zero=>simp at hx hy;subst hx;subst hy;exact h.1
 | succ i=>exact g2 i x y (by simpa using hx) (by simpa using hy)):G:=h
theorem zwbz{G:Prop}(h:G:=by
 apply rdV rfl
 ·exact rfl
 ·rw[vlE,zbI _ _ _ _ _ _ rfl rfl rfl rfl,qaH,qah,qaC,zae b]
  unfold exC
  exact zqa
 all_goals exact rfl):G:=h
theorem zwca{G:Prop}(h:G:=by
 refine⟨0,fun i hi=>⟨fun h=>by omega,fun h=>?_⟩,qaJ _,by rw[h0];simp[h1],fun j h=>?_⟩
 all_goals
  rw[qaR]at h
  split at h <;> cases h):G:=h
theorem zwcb{G:Prop}(h:G:=by
 unfold zcE
 split
 ·simp only[qad,qal,qaz];omega
 ·simp only[qad,qal,qaz];omega):G:=h
theorem zwcc{G:Prop}(h:G:=by
 refine so Tryz.func85 ?_
 repeat' (first|refine wu ?_|exact wkc|intro hc|refine wk2 ?_ ?_|fail)
 exact RetK.keep 1 rfl (Le.refl _) rfl rfl rfl rfl rfl ⟨rfl,rfl⟩):G:=h
theorem zwcd{G:Prop}(h:G:=by
 rw[hfs,qar]at hf
 cases hq:gs.toList[fi]? with
 | none=>rw[hq]at hf;cases hf
 | some g=>rw[hq]at hf;simp at hf;exact⟨g,by simpa using hq,hf.1,hf.2⟩):G:=h
theorem zwce{G:Prop}(h:G:=by
 by_cases hb':b=p.b
 ·by_cases hl:p.hi≤p.lo
  ·exact .inr hl
  ·exact absurd (ownp p.lo (qae _) (by omega)) (by rw[<-hb'];exact hno p.lo)
 ·exact .inl hb'):G:=h
theorem zwcf{G:Prop}(h:G:=by
 intro i o v ho hv hb c H hc _ env
 obtain⟨⟨v',b⟩,hx,rfl⟩:∃x,t[i]?=some x/\x.1=v:=by simpa using hv
 rw[hsg c H hc]
 exact g2 i o v' b (by simpa using ho) hx env):G:=h
theorem zwcg{G:Prop}(h:G:=by
 refine so Tryz.func4 ?_
 repeat' (first|refine wu ?_|exact wkc|intro hc|refine wk2 ?_ ?_|refine wv hs ?_|fail)
 all_goals first
  | exact wkr
  | (exfalso;omega)):G:=h
theorem zwch{G:Prop}(h:G:=by
 rw[qap]
 repeat' (first|refine wu ?_|exact wkc|intro hc|refine wk2 ?_ ?_|fail)
 exact RetK.zkG 3 rfl (Le.refl _) rfl rfl rfl rfl rfl ⟨rfl,rfl⟩):G:=h
theorem zwci{G:Prop}(h:G:=by
 first
  | exact rdP hr.symm (by decide)
  | exact rdV (vs:=[]) hr.symm rfl (Le.refl _) rfl rfl rfl
  | exact rdN (vs:=[]) hr.symm rfl (Le.refl _) rfl rfl rfl):G:=h
theorem zwcj{G:Prop}(h:G:=by
 refine⟨.string s,?_⟩
 have:(⟨s.toArray⟩:ByteArray).size≤maxLen:=by
  show s.toArray.size≤maxLen
  simp[maxLen];omega
 simp[keyOf,Tryz.underlying9,mapKey,this]):G:=h
theorem zwck{G:Prop}(h:G:=by
 have:j*100000003000040≤64*100000003000040:=qaD _ (by omega)
 simp only[qad,qal,qaz]at hal
 omega):G:=h
theorem zwcl{G:Prop}(h:G:=by
 intro l
 induction l with
 | nil=>intro d hd _;exact hd
 | cons y l ih=>intro d hd hl;exact ih _ (hd.ins (hl y (by simp))) (fun x hx=>hl x (by simp[hx]))):G:=h
theorem zwcm{G:Prop}(h:G:=by
 all_goals first
  | (exfalso;omega)
  | (refine RetK.pure rfl (Le.of_eq ?_) rfl;refine congrArg (fun z=>SV.t (T.v (Value.int IntKind.i64 z))) ?_;omega)):G:=h
theorem zwcn{G:Prop}(h:G:=by
 unfold unl
 have:=qcF (fun i=>(Array.replicate l.toArray.size false)[i]? == some false) (List.range l.toArray.size)
 simpa using this):G:=h
theorem zwco{G:Prop}(h:G:=by
 subst hq
 rw[qav hjl]at hc
 cases hc
 obtain⟨y,hy1,hy0,hy2⟩:=b3 q _ hi
 have:=hy2.v_eq
 subst this
 exact⟨_,hy1,rfl,zud h2 e⟩):G:=h
theorem zwcp{G:Prop}(h:G:=by
 all_goals
  refine RetK.keep 1 rfl (Le.of_eq (congrArg (fun z=>SV.t (T.v (Value.bool z))) ?_)) rfl rfl rfl rfl rfl ⟨rfl,rfl⟩
  clear hx
  grind):G:=h
theorem zwcq{G:Prop}(h:G:=by
 rcases hA' b o h with h|h|h
 ·exact qa0 (hm.inA b o h) hsz
 ·rw[h.1];exact qa0 (hpin (by omega)) hsz
 ·exact h.2):G:=h
theorem zwcr{G:Prop}(h:G:=by
 cases hq:zii e.kind.1 e.op.1 e.t.1 e.v.1 e.name e.args.length with
 | true=>rfl
 | false=>rw[hq]at h;simp at h;split at h <;> simp at h):G:=h
theorem zwcs{G:Prop}(h:G:=by
 rename_i n0 h0
 have h1:=hi n hn
 have h2:=ho n0 h0
 refine⟨by omega,fun e=>?_⟩
 have:n0=n:=by omega
 rw[h1.2 this]
 exact h2.2 (by omega)):G:=h
theorem zwct{G:Prop}(h:G:=by
 simp only[best,zci,List.foldl,zeJ,qbk,qa9,zl6,zjp,qaz,qal];simp[g1,g2]):G:=h
theorem zwcu{G:Prop}(h:G:=by
 constructor <;> constructor <;> dsimp only[Ex.kind,Ex.op,Ex.t,Ex.v,Ex.name,Ex.args] <;> try(first|(intros;omega)|exact fun _=>a5)):G:=h
theorem zwcv{G:Prop}(h:G:=by
 rw[qap]
 repeat' (first|refine wu ?_|exact wkc|intro hc|refine wk2 ?_ ?_|fail)
 all_goals exact⟨rfl,⟨rfl,trivial⟩,rfl⟩):G:=h
theorem zwcw{G:Prop}(h:G:=by
 rw[qap]at ha
 rw[zfv p l ha]
 repeat' (first|refine wk ?_|exact wkc|intro hc|refine wk2 ?_ ?_|fail)
 exact wkr):G:=h
theorem zwcx{G:Prop}(h:G:=by
 rcases hA' b o h with h|h|h
 ·exact .inl h
 ·exact .inr (.inl (by rw[h.1];exact ownp o h.2.1 h.2.2))
 ·exact .inr (.inr h.1)):G:=h
theorem zwcy{G:Prop}(h:G:=by
 refine zab.zaI hlt (by rw[g2];exact hc) ?_ (by rw[g2];rfl)
 repeat' (first|exact trivial|refine qai rfl ?_|fail)):G:=h
theorem zwcz{G:Prop}(h:G:=by
 have:=b2 o ho ho'
 have hlt:=h2.inO i p _ g1 g2 rfl (by omega)
 unfold Free at this⊢
 rw[hc _ _ hlt,hf _ _ hlt];exact this):G:=h
theorem zwda{G:Prop}(h:G:=by
 have:=b2 o ho ho'
 unfold Free at this⊢
 show(w'.cell? _).isSome=true/\w'.frozen? _=false
 rw[h.cell,h.frozen];exact this):G:=h
theorem zwdb{G:Prop}(h:G:=by
 cases hq:zj3 e.kind.1 e.op.1 e.t.1 e.v.1 e.args.length with
 | true=>rfl
 | false=>exact absurd (.inr (.inr hq)) h1):G:=h
theorem zwdc{G:Prop}(h:G:=by
 obtain⟨_,a,b,c,_,_,_,d⟩:=zdu h
 have hb:=zkU (o:=o) b
 exact⟨of_decide_eq_true a,zmm c,hb.1,hb.2,d rfl rfl⟩):G:=h
theorem zwdd{G:Prop}(h:G:=by
 apply rdV rfl
 ·exact rfl
 ·rw[vlE,zbI _ _ _ _ _ _ rfl rfl rfl rfl,qaC]
  exact zqa
 all_goals exact rfl):G:=h
theorem zwde{G:Prop}(h:G:=by
 subst hz
 refine zab.panic ?_
 refine wk ?_
 exact⟨_,ziD _ _ _ _ _ _ _ rfl,fun H3 h=>by subst h;exact wkr⟩):G:=h
theorem zwdf{G:Prop}(h:G:=by
 have:=hl x hx
 unfold grS
 split
 ·omega
 ·simp only[qad,qal,qaz];omega):G:=h
theorem zwdg{G:Prop}(h:G:=by
 intro v x h i c y hc hy
 cases i with
 | zero=>simp at hc hy;subst hc;subst hy;exact h
 | succ i=>simp at hc):G:=h
theorem zwdh{G:Prop}(h:G:=by
 rw[hs]
 repeat' (first|refine wu ?_|exact wkc|intro hc|refine wk2 ?_ ?_|fail)
 exact⟨rfl,⟨rfl,trivial⟩,rfl⟩):G:=h
theorem zwdi{G:Prop}(h:G:=by
 rw[if_neg h2]
 simp only[]
 repeat' (first|refine wu ?_|exact wkc|intro hc|refine wk2 ?_ ?_|fail)
 exact wkr):G:=h
theorem zwdj{G:Prop}(h:G:=by
 all_goals first
  | (exfalso;omega)
  | exact RetK.zkG 3 rfl (Le.refl _) rfl rfl rfl rfl rfl ⟨rfl,rfl⟩):G:=h
theorem zwdk{G:Prop}(h:G:=by
 rw[hN,zdZ g3,g2]
 simp only[zdw,zbh,g1]
 (first|exact⟨trivial,rfl⟩|exact⟨trivial,trivial⟩)):G:=h
theorem zwdl{G:Prop}(h:G:=by
 rw[hflat,zbh,hf]
 simp only[]
 rw[zht l hlt,zdi,hsc]
 simp only[]
 rw[zdi,ho]):G:=h
theorem zwdm{G:Prop}(h:G:=by
 simp only[qad,qal,qaz,qaW,qbm]
 omega):G:=h
theorem zwdn{G:Prop}(h:G:=by
 rw[qaK]
 split
 ·first|rfl|rw[if_pos (by omega)]
 ·exact h1 j (by omega) hja):G:=h
theorem zwdo{G:Prop}(h:G:=by
 exact zab.zaI hlt trivial (by(try dsimp only);rw[hst];exact⟨rfl,rfl,rfl,rfl,rfl,trivial⟩) rfl):G:=h
theorem zwdp{G:Prop}(h:G:=by
 simp at hy
 obtain⟨r,hr',rfl⟩:=hy
 have:=qas hr'
 simp at this
 exact(hf r this).2.1):G:=h
theorem zwdq{G:Prop}(h:G:=by
 have h3:=qaD ti.bytes h2
 rw[qaX,Nat.mul_assoc,hti2]at h3
 rw[hti2];omega):G:=h
theorem zwdr{G:Prop}(h:G:=by
 rw[if_pos h2,h2]
 repeat' (first|refine wu ?_|exact wkc|intro hc|refine wk2 ?_ ?_|fail)
 exact wkr):G:=h
theorem zwds{G:Prop}(h:G:=by
 all_goals try(refine RetK.pure rfl ?_ rfl;exact Le.of_eq (by simp_all [pack,zbb] <;> omega))):G:=h
theorem zwdt{G:Prop}(h:G:=by
 obtain⟨dd,ti,z,h1,h2,h3,_⟩:=h.ex
 rw[hk]at h3
 cases dd <;> simp[TK'.fits]at h3
 subst h3
 exact h1):G:=h
theorem zwdu{G:Prop}(h:G:=by
 intro i p k h1 h2 h3
 cases i with
 | zero=>simp at h1;subst h1;right;simp
 | succ i=>simp at h1):G:=h
theorem zwdv{G:Prop}(h:G:=by
 have:=h2 o ho ho'
 unfold Free at this⊢
 rw[(hk o ho ho').1,(hk o ho ho').2 this.1];exact this):G:=h
theorem zwdw{G:Prop}(h:G:=by
 rw[he,w_ag];simp only[exC,qah,qaC,qay,qaQ,w_s];omega):G:=h
theorem zwdx{G:Prop}(h:G:=by
 have:=(zb3 (A:=m.A) (w:=m.w) _ _ hz2).1
 have h2:=(hT e ie he).len
 simp at this;omega):G:=h
theorem zwdy{G:Prop}(h:G:=by
 exact zj1 _ _ _ _ (hQ L a w hL (full L M hL hM h1 h2 hdc hr) h3 hC (h.1 hr)) (u+1)):G:=h
theorem zwdz{G:Prop}(h:G:=by
 have:=qaD sz (show q+1≤es.length from hq)
 rw[qbZ]at this
 omega):G:=h
theorem zwea{G:Prop}(h:G:=by
 unfold errF
 split <;> rename_i hq <;> split at hq <;> cases hq
 ·trivial
 ·exact⟨rfl,rfl⟩):G:=h
theorem zweb{G:Prop}(h:G:=by
 exact zab.zaI hlj trivial ⟨rfl,rfl,rfl,by(try dsimp only);rw[hs2];rfl,rfl,trivial⟩):G:=h
theorem zwec{G:Prop}(h:G:=by
 intro x h i y hy
 cases i with
 | zero=>simp at hy;subst hy;exact h
 | succ i=>simp at hy):G:=h
theorem zwed{G:Prop}(h:G:=by
 rw[h2]
 simp only[qaO,qah,qbX]
 congr 1
 omega):G:=h
theorem zwee{G:Prop}(h:G:=by
 unfold Rd.txt
 simp only[qar,qac h,qaW]):G:=h
theorem zwef{G:Prop}(h:G:=by
 have:(i+1)*sz≤es.length*sz:=qaD _ r1
 rw[qaX]at this;omega):G:=h
theorem zweg{G:Prop}(h:G:=by
 rw[zcY]
 simp only[qad,qal,qaz]
 omega):G:=h
theorem zweh{G:Prop}(h:G:=by
 exact zab.zaI hlt trivial ⟨rfl,rfl,by(try dsimp only);rw[hs];rfl,rfl,trivial⟩):G:=h
theorem zwei{G:Prop}(h:G:=by
 simp only[if_neg (show ¬i*sz+j<es.length*sz from by omega)]
 exact g1 _ (by omega)):G:=h
theorem zwej{G:Prop}(h:G:=by
 unfold orE at h;split at h
 ·exact⟨by assumption,h⟩
 ·rename_i ha;exact absurd h ha):G:=h
theorem zwek{G:Prop}(h:G:=by
 exact RetK.at 1 rfl (Le.refl _) (qaJ _) rfl rfl (zjT 1 _) ⟨rfl,rfl⟩):G:=h
theorem zwel{G:Prop}(h:G:=by
 have e:k+(l.drop k).length=l.toArray.size:=by simp;omega
 rw[e]at this
 exact this):G:=h
theorem zwem{G:Prop}(h:G:=by
 have:=hl (j+1)
 simp only[qbK]at this
 rw[this];congr 1;omega):G:=h
theorem zwen{G:Prop}(h:G:=by
 simp only[nodC,qah,qaC,qay,qaQ,w_s];omega):G:=h
theorem zweo{G:Prop}(h:G:=by
 intro c H h
 rw[qbL]at h
 split at h
 ·cases h;rfl
 ·cases h):G:=h
theorem zwep{G:Prop}(h:G:=by
 rw[qaK,if_neg (by omega)]
 exact h2 j (by omega) hja):G:=h
theorem zweq{G:Prop}(h:G:=by
 intro i
 unfold effs
 rw[<-qbH,qcE,qab]
 rfl):G:=h
theorem zwer{G:Prop}(h:G:=by
 all_goals exact RetK.zkG 3 rfl (Le.refl _) rfl rfl rfl rfl rfl ⟨rfl,rfl⟩):G:=h
theorem zwes{G:Prop}(h:G:=by
 exact hm.still b o ha (by rw[<-h4,g.1];exact ownp o (by omega) (by omega))):G:=h
theorem zwet{G:Prop}(h:G:=by
 obtain⟨h1,h2⟩:=zf5 full t v r h
 exact⟨qan _ h1,h2⟩):G:=h
theorem zweu{G:Prop}(h:G:=by
 split at h
 ·rename_i t ht;exact(qaa.1 ht).1
 ·cases h):G:=h
theorem zwev{G:Prop}(h:G:=by
 rw[qat (qaa.1 hq).1];exact hq):G:=h
theorem zwew{G:Prop}(h:G:=by
 rw[e1,e2]
 exact RetK.keep 1 rfl (Le.refl _) rfl rfl rfl rfl rfl ⟨rfl,rfl⟩):G:=h
theorem zwex{G:Prop}(h:G:=by
 simp only[smpS,qad,qal,qaz]
 omega):G:=h
theorem zwey{G:Prop}(h:G:=by
 intro h
 have:(IntKind.i64.max:Int)=9223372036854775807:=by decide
 omega):G:=h
theorem zwez{G:Prop}(h:G:=by
 rename_i hc;injection h with _ h;injection h with _ h;exact absurd h hc):G:=h
theorem zwfa{G:Prop}(h:G:=by
 rw[qbr,qar,hx]at hb
 simpa using hb):G:=h
theorem zwfb{G:Prop}(h:G:=by
 simp only[str,Value.string.injEq,ByteArray.mk.injEq]at h
 simpa using h):G:=h
theorem zwfc{G:Prop}(h:G:=by
 have:=zlv (T.s x)
 simp only[qal,qaz]
 omega):G:=h
theorem zwfd{G:Prop}(h:G:=by
 intro i hi
 rw[qaR]at hi
 split at hi <;> cases hi):G:=h
theorem zwfe{G:Prop}(h:G:=by
 obtain⟨j',h1,h2⟩:=zjh l h
 exact⟨j',qan _ h1,h2⟩):G:=h
theorem zwff{G:Prop}(h:G:=by
 obtain⟨d,hdd,rfl⟩:=qaP.1 hx
 exact zpo h hT (hd d hdd)):G:=h
theorem zwfg{G:Prop}(h:G:=by
 simp only[qad,qal,qaz]
 omega):G:=h
theorem zwfh{G:Prop}(h:G:=by
 simp only[qad,qal,qaz];omega):G:=h
theorem zwfi{G:Prop}(h:G:=by
 simp only[Ex.kind,Ex.op,Ex.t,Ex.v,Ex.name,Ex.args,T.n,hk,ho,ht,hv]):G:=h
theorem zwfj{G:Prop}(h:G:=by
 exact zsV (ih a (by simp)).po.1 (ztl (ih a (by simp)).cl) _):G:=h
theorem zwfk{G:Prop}(h:G:=by
 intro i j p q hij h1 h2
 cases i <;> cases j <;> simp at h1 h2 hij):G:=h
theorem zwfl{G:Prop}(h:G:=by
 rw[Env.zak _ _ hj]at hv
 exact(h3.step h2 s).2 j v hv):G:=h
theorem zwfm{G:Prop}(h:G:=by
 rw[hN,zdZ g3,g2];exact zas g4.2 (hun _ _)):G:=h
theorem zwfn{G:Prop}(h:G:=by
 rw[show l.length+(j-l.length)=j from by omega]at this
 exact this):G:=h
theorem zwfo{G:Prop}(h:G:=by
 simp only[qaO];exact HdO.name (hn.nm (by omega)) _):G:=h
theorem zwfp{G:Prop}(h:G:=by
 simp only[h,if_true];exact zqz g left n q Hd l _ (by simp)):G:=h
theorem zwfq{G:Prop}(h:G:=by
 exact .inl (by rw[<-h4,g.1];exact ownp o (by omega) (by omega))):G:=h
theorem zwfr{G:Prop}(h:G:=by
 exact RetK.keep 1 rfl (Le.refl _) rfl rfl rfl rfl rfl ⟨rfl,rfl⟩):G:=h
theorem zwfs{G:Prop}(h:G:=by
 have:=(zb3 (A:=m.A) (w:=m.w) _ _ hz2).1
 simp at this;omega):G:=h
theorem zwft{G:Prop}(h:G:=by
 have:=hz4 hag
 cases zz <;> simp[Value.oneCell']at this <;> rfl):G:=h
theorem zwfu{G:Prop}(h:G:=by
 rcases hk with hk|hk <;> rw[hk]at ha <;> simp at ha <;> omega):G:=h
theorem zwfv{G:Prop}(h:G:=by
 refine zab.zaI hlt ?_
 rw[htk,qbS,ha]
 simp[hc]):G:=h
theorem zwfw{G:Prop}(h:G:=by
 subst hj
 rw[Env.zat]at hv
 cases hv
 exact⟨_,hx1,hr⟩):G:=h
theorem zwfx{G:Prop}(h:G:=by
 obtain⟨m,_,hm,_⟩:=zdQ hL hd hLp
 rw[h0]at hm;cases hm):G:=h
theorem zwfy{G:Prop}(h:G:=by
 obtain⟨m,_,hm,_⟩:=zdQ hL hd hLx
 rw[h0]at hm;cases hm):G:=h
theorem zwfz{G:Prop}(h:G:=by
 cases h;exact⟨⟨by decide,by decide⟩,.inl ⟨rfl,by decide⟩⟩):G:=h
