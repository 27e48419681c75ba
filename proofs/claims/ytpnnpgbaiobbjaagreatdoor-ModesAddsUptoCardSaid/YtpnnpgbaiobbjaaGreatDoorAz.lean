import Derived.KernelRfl
set_option linter.all false
def qaa:=@List.length_map
def qab:=@List.getElem?_eq_some_iff
def qac:=@List.getElem?_eq_getElem
def qad:=@List.getElem_mem
def qae:=@List.length_append
def qaf:=@And.intro
def qag:=@Nat.le_refl
def qah:=@List.take_length
def qai:=@Nat.le_of_ble_eq_true
def qaj:=@List.map_cons
def qak:=@Array.getElem?_eq_some_iff
def qal:=@List.map_append
def qam:=@List.length_cons
def qan:=@Array.getElem?_eq_getElem
def qao:=@List.sum_cons
def qap:=@Option.bind_eq_some_iff
def qaq:=@List.getElem?_append_left
def qar:=@List.mem_cons_of_mem
def qas:=@List.mem_cons_self
def qat:=@List.mem_of_getElem?
def qau:=@List.getElem?_map
def qav:=@Classical.byContradiction
def qaw:=@List.getElem?_set_self
def qax:=@List.getElem?_append_right
def qay:=@List.map_nil
def qaz:=@Bool.and_eq_true
def qaA:=@List.take_succ_eq_append_getElem
def qaB:=@List.all_eq_true
def qaC:=@Nat.mul_le_mul_right
def qaD:=@List.length_nil
def qaE:=@Nat.le_trans
def qaF:=@List.mem_append
def qaG:=@List.mem_singleton
def qaH:=@Option.some.injEq
def qaI:=@List.sum_nil
def qaJ:=@List.getElem?_set_ne
def qaK:=@Nat.zero_le
def qaL:=@Array.getElem?_setIfInBounds
def qaM:=@List.take_succ_cons
def qaN:=@Array.getElem?_replicate
def qaO:=@Nat.zero_add
def qaP:=@List.eq_nil_of_length_eq_zero
def qaQ:=@List.append_nil
def qaR:=@List.mem_of_mem_take
def qaS:=@List.take_append_drop
def qaT:=@Nat.eq_of_beq_eq_true
def qaU:=@List.foldl_cons
def qaV:=@List.length_take
def qaW:=@List.getElem?_take
def qaX:=@List.take_of_length_le
def qaY:=@Array.getElem?_append_left
def qaZ:=@Nat.add_assoc
def qa0:=@Nat.add_mul
def qa1:=@List.nil_append
def qa2:=@List.length_mapIdx
def qa3:=@Nat.lt_of_lt_of_le
def qa4:=@List.mem_map
def qa5:=@Array.getElem?_append_right
def qa6:=@Option.map_some
def qa7:=@List.drop_of_length_le
def qa8:=@List.append_assoc
def qa9:=@List.flatten_cons
def qba:=@List.cons.injEq
def qbb:=@List.getElem?_drop
def qbc:=@Nat.succ_mul
def qbd:=@List.getElem?_of_mem
def qbe:=@List.mem_cons
def qbf:=@Array.getD_eq_getD_getElem?
def qbg:=@Decidable.not_not
def qbh:=@List.drop_zero
def qbi:=@List.sizeOf_lt_of_mem
def qbj:=@List.takeWhile_cons
def qbk:=@Nat.mul_le_mul_left
def qbl:=@List.drop_eq_getElem_cons
def qbm:=@List.foldl_append
def qbn:=@List.nodup_nil
def qbo:=@Nat.blt_eq
def qbp:=@List.map_map
def qbq:=@List.drop_succ_cons
def qbr:=@Nat.beq_refl
def qbs:=@Nat.le_of_lt
def qbt:=@List.cons_append
def qbu:=@List.take_zero
def qbv:=@List.nodup_append
def qbw:=@List.getD_eq_getElem?_getD
def qbx:=@Nat.le_add_right
def qby:=@List.mem_append_left
def qbz:=@List.flatten_append
def qbA:=@List.getElem?_eq_none
def qbB:=@List.sum_append
def qbC:=@Nat.not_lt_zero
def qbD:=@Nat.le_of_not_lt
def qbE:=@Array.append_assoc
def qbF:=@Bool.true_eq_false
def qbG:=@List.all_cons
def qbH:=@Nat.sub_self
def qbI:=@List.all_append
def qbJ:=@List.mem_mapIdx
def qbK:=@List.takeWhile_append_dropWhile
def qbL:=@List.eq_nil_iff_forall_not_mem
def qbM:=@Classical.axiomOfChoice
def qbN:=@List.map_congr_left
def qbO:=@List.mem_map_of_mem
def qbP:=@Nat.lt_of_not_le
def qbQ:=@List.mapM_cons
def qbR:=@Array.getElem?_modify
def qbS:=@Bool.or_eq_true
def qbT:=@Int.natCast_add
def qbU:=@List.contains_iff_mem
def qbV:=@List.mem_append_right
def qbW:=@List.mem_filter
def qbX:=@Bool.not_eq_true'
def qbY:=@Function.comp_def
def qbZ:=@List.all_eq_false
def qb0:=@List.map_take
def qb1:=@List.prefix_refl
def qb2:=@Bool.false_ne_true
def qb3:=@Bool.false_or
def qb4:=@List.getElem?_replicate
def qb5:=@List.getElem_cons_zero
def qb6:=@Nat.mul_le_mul
def qb7:=@List.length_replicate
def qb8:=@List.set_getElem_self
def qb9:=@Nat.add_zero
def qca:=@Nat.zero_mul
def qcb:=@Bool.not_eq_true
def qcc:=@List.flatten_nil
def qcd:=@List.mem_flatten
def qce:=@List.not_mem_nil
def qcf:=@List.take_append_of_le_length
def qcg:=@Nat.lt_succ_self
def qch:=@Option.getD_some
def qci:=@List.set_append_left
def qcj:=@Bool.not_true
def qck:=@Prod.mk.injEq
def qcl:=@List.filter_map
def qcm:=@List.nodup_cons
def qcn:=@Nat.min_eq_left
def qco:=@Option.some.inj
def qcp:=@Array.getElem?_map
def qcq:=@List.prefix_append
def qcr:=@Nat.mul_comm
def qcs:=@Nat.mul_succ
def qct:=@Array.mapM_eq_mapM_toList
def qcu:=@List.exists_mem_of_ne_nil
def qcv:=@Int.toNat_natCast
def qcw:=@List.ext_getElem?
def qcx:=@List.getElem?_cons_succ
def qcy:=@List.any_eq_true
def qcz:=@List.drop_append
def qcA:=@List.filter_cons
def qcB:=@List.mapIdx_cons
def qcC:=@List.nodup_range
def qcD:=@Classical.choose_spec
def qcE:=@List.headD_cons
def qcF:=@List.length_filter_le
def qcG:=@List.length_singleton
def qcH:=@List.set_append_right
def qcI:=@Nat.ble_eq_true_of_le
def qcJ:=@Nat.max_le
def qcK:=@List.drop_left
def qcL:=@List.foldl_nil
def qcM:=@List.take_left
def qcN:=@Bool.and_self
def qcO:=@Bool.true_and
def qcP:=@Nat.add_comm
def qcQ:=@Nat.sub_zero
def qcR:=@Nat.succ_pos
structure Zh(Q:Prop):Prop where
 p:Q
theorem zqa{G Q:Prop}(z_:Q)(h:Zh Q->G:=by intro z_;apply TO.znI zag;(iterate 7 exact rfl);refine(?_:Le _ (.t (T.ag [_,_,.sl 3 []])));focus ((repeat' (first|exact trivial|exact Le.refl _|refine qaf ?_ ?_|exact Le.any _|exact Le.nil _|exact Le.own _ _ _|refine Le.tree rfl ?_|exact TLe.refl _|exact TLe.nil _|refine TLe.ags ?_|fail));done);exact z_.p):G:=h ⟨z_⟩
theorem zqb{G:Prop}(h:G:=by (repeat' (first|exact trivial|exact Le.refl _|refine qaf ?_ ?_|exact Le.any _|exact Le.nil _|exact Le.own _ _ _|refine Le.tree rfl ?_|exact TLe.refl _|exact TLe.nil _|refine TLe.ags ?_|fail)) <;> fail):G:=h
theorem zqc{G Q:Prop}(z_:Q)(h:Zh Q->G:=by intro z_;apply TO.zbb zag;(iterate 9 exact rfl);exact zvz (hN s');(iterate 3 exact rfl);(simp only[qaa,qam,qaD];omega);exact zvA (hN s');exact z_.p):G:=h ⟨z_⟩
theorem zqd{G Q:Prop}(z_:Q)(h:Zh Q->G:=by intro z_;apply TO.zbb zag;(iterate 13 exact rfl);(first|omega|(simp only[qae,qam,qaD];omega));exact rfl;exact z_.p):G:=h ⟨z_⟩
theorem zqe{G Q:Prop}(z_:Q)(h:Zh Q->G:=by intro z_;apply TO.zbb zag;(iterate 13 exact rfl);(simp only[qaa,qam,qaD];omega);exact rfl;exact z_.p):G:=h ⟨z_⟩
theorem zqf{G Q:Prop}(z_:Q)(h:Zh Q->G:=by intro z_;apply TO.cat;(iterate 3 exact rfl);(first|omega|(simp only[qae,qam,qaD];omega));exact z_.p):G:=h ⟨z_⟩
theorem zqg{G Q:Prop}(z_:Q)(h:Zh Q->G:=by intro z_;apply zdL.go zag 0 true;exact rfl;(first|apply GG.to|apply GG.stop|apply GG.tr0|apply GG.tr|apply GG.ex);exact z_.p):G:=h ⟨z_⟩
theorem zqh{G Q:Prop}(z_:Q)(h:Zh Q->G:=by intro z_;apply TR.go0 zag 0 true;exact rfl;(first|apply GG.to|apply GG.stop|apply GG.tr0|apply GG.tr|apply GG.ex);exact z_.p):G:=h ⟨z_⟩
theorem zqi{G Q:Prop}(z_:Q)(h:Zh Q->G:=by intro z_;apply TO.go zag 0 true;exact rfl;(first|apply GG.to|apply GG.stop|apply GG.tr0|apply GG.tr|apply GG.ex);exact z_.p):G:=h ⟨z_⟩
theorem zqj{G Q:Prop}(z_:Q)(h:Zh Q->G:=by intro z_;apply TR.go zag 0 true;exact rfl;(first|apply GG.to|apply GG.stop|apply GG.tr0|apply GG.tr|apply GG.ex);exact z_.p):G:=h ⟨z_⟩
theorem zqk{G Q:Prop}(z_:Q)(h:Zh Q->G:=by intro z_;apply TO.store zag;(iterate 6 exact rfl);exact leB;exact rfl;exact leB;exact rfl;exact z_.p):G:=h ⟨z_⟩
theorem zql{G:Prop}(h:G:=by (first|omega|(simp only[qae,qam,qaD];omega)) <;> fail):G:=h
theorem zqm{G Q:Prop}(z_:Q)(h:Zh Q->G:=by intro z_;apply TO.zdP zag;(iterate 8 exact rfl);assumption;exact rfl;exact z_.p):G:=h ⟨z_⟩
theorem zqn{G:Prop}(h:G:=by (simp only[qaa,qam,qaD];omega) <;> fail):G:=h
theorem zqo{G Q:Prop}(z_:Q)(h:Zh Q->G:=by intro z_;apply TO.indexAddr zag;(iterate 8 exact rfl);omega;exact rfl;exact z_.p):G:=h ⟨z_⟩
theorem zqp{G Q:Prop}(z_:Q)(h:Zh Q->G:=by intro z_;apply TO.indexAddr zag;(iterate 8 exact rfl);omega;exact hx;exact z_.p):G:=h ⟨z_⟩
theorem zqq{G Q:Prop}(z_:Q)(h:Zh Q->G:=by intro z_;apply TO.indexAddr zag;(iterate 8 exact rfl);omega;exact hy;exact z_.p):G:=h ⟨z_⟩
theorem zqr{G Q:Prop}(z_:Q)(h:Zh Q->G:=by intro z_;apply TO.indexAddr zag;(iterate 8 exact rfl);omega;exact hz;exact z_.p):G:=h ⟨z_⟩
theorem zqs{G Q:Prop}(z_:Q)(h:Zh Q->G:=by intro z_;apply TO.ssl2 zag;(iterate 9 exact rfl);omega;omega;exact z_.p):G:=h ⟨z_⟩
theorem zqt{G Q:Prop}(z_:Q)(h:Zh Q->G:=by intro z_;apply TO.zhs zag;(iterate 10 exact rfl);exact z_.p):G:=h ⟨z_⟩
theorem zqu{G Q:Prop}(z_:Q)(h:Zh Q->G:=by intro z_;apply TO.zrH zag;(iterate 8 exact rfl);omega;exact z_.p):G:=h ⟨z_⟩
theorem zqv{G:Prop}(h:G:=by (dsimp only[List.map,List.length];decide +kernel) <;> fail):G:=h
theorem zqw{G Q:Prop}(z_:Q)(h:Zh Q->G:=by intro z_;apply TO.add;(iterate 3 exact rfl);omega;omega;exact z_.p):G:=h ⟨z_⟩
theorem zqx{G Q:Prop}(z_:Q)(h:Zh Q->G:=by intro z_;apply TO.alloc zag;(iterate 3 exact rfl);exact z_.p):G:=h ⟨z_⟩
theorem zqy{G Q:Prop}(z_:Q)(h:Zh Q->G:=by intro z_;apply TO.box;(iterate 4 exact rfl);exact z_.p):G:=h ⟨z_⟩
theorem zwa{G:Prop}(h:G:=by
 refine TO.nil ?_
 simp only[Kf]
 repeat' (first
  | (apply TO.move;exact rfl;exact rfl)
  | (apply TO.assign;exact rfl;exact rfl)
  | (apply TO.want;exact rfl)
  | refine zqw ?_
  | refine zqf ?_
  | (apply TO.eqs;(iterate 3 exact rfl))
  | (apply TO.nes;(iterate 3 exact rfl))
  | (apply TO.cmp;(iterate 4 exact rfl))
  | (intro hc;exact absurd hc (by decide))
  | (intro hc;exfalso;simp only[decide_eq_true_eq,decide_eq_false_iff_not,beq_iff_eq,beq_eq_false_iff_ne,bne_iff_ne,bne_eq_false_iff_eq,ne_eq,qbg,not_true_eq_false]at hc;done)
  | (intro hc;exfalso;(first|simp only[decide_eq_true_eq,decide_eq_false_iff_not,beq_iff_eq,beq_eq_false_iff_ne,bne_iff_ne,bne_eq_false_iff_eq,ne_eq,qbg,not_true_eq_false]at hc|skip);first|omega|(simp only[qaD,qam]at *;omega))
  | intro hc
  | (apply TO.pick;(iterate 3 exact rfl))
  | (apply TO.pass;exact rfl;exact rfl)
  | (apply TO.zuU;exact rfl)
  | (apply TO.load zag;(iterate 5 exact rfl))
  | (apply TO.zfJ zag;(iterate 6 exact rfl))
  | (apply TO.fieldAddr zag;(iterate 5 exact rfl);decide;exact rfl)
  | (apply TO.zdR zag;(iterate 5 exact rfl);decide;exact rfl)
  | (apply TO.nilCheck;(iterate 3 exact rfl))
  | (apply TO.zhP zag;(iterate 5 exact rfl);assumption)
  | (apply TO.zet zag;(iterate 5 exact rfl);decide;exact rfl)
  | (apply TO.zmL zag;(iterate 4 exact rfl))
  | (apply TO.zq0 zag;(iterate 7 exact rfl))
  | refine zqm ?_
  | (apply TO.extract;(iterate 3 exact rfl))
  | (apply TO.zts zag;(iterate 5 exact rfl))
  | refine TO.nil ?_
  | refine TR.seq ?_
  | refine TR.region ?_
  | (apply TR.zcC;exact rfl)
  | (apply TR.zur;exact rfl)
  | refine Then.normal ?_
  | refine TR.block ?_
  | refine TR.skip ?_
  | (apply TR.regionQ hmix;kernel_rfl;exact rfl)
  | refine TR.exit ?_
  | refine TR.ret ?_
  | refine Then.exit ?_
  | refine Then.ret ?_
  | refine zab.exit ?_
  | refine zab.ret ?_
  | refine zao.normal ?_
  | refine zao.ret ?_
  | (apply zao.same;exact rfl)
  | (apply zao.other;exact rfl)
  | (apply TO.zu8;(iterate 3 exact rfl);omega;omega)
  | (apply TO.mul64;(iterate 3 exact rfl);omega;omega)
  | (apply TO.convert_u8;exact rfl;kernel_rfl;kernel_rfl;exact rfl)
  | (apply TO.bin;(iterate 4 exact rfl))
  | (apply TO.slice2 zag;(iterate 6 exact rfl);omega;omega)
  | (apply TO.zfS zag;(iterate 5 exact rfl);omega)
  | (apply TO.zeM zag;(iterate 5 exact rfl);omega)
  | (apply TO.not;exact rfl;exact rfl)
  | (apply TO.ze7;exact rfl;exact rfl)
  | (apply TO.zjZ zag;(iterate 4 exact rfl);exact leB)
  | (apply TO.zdb zag;(iterate 5 exact rfl);exact leB)
  | (apply TO.zqX zag;(iterate 4 exact rfl))
  | (apply TO.znJ zag;(iterate 7 exact rfl))
  | (apply TO.build zag;(iterate 6 exact rfl))
  | refine zqy ?_
  | refine zqx ?_
  | refine zqk ?_
  | refine zqt ?_
  | refine zqd ?_
  | (apply TO.eqb;(iterate 3 exact rfl);kernel_rfl)
  | (apply TO.neb;(iterate 3 exact rfl);kernel_rfl)
  | (apply TO.zdP (j:=0) zag;(iterate 10 exact rfl))
  | (apply TO.makeFunc;exact rfl;exact rfl)
  | (apply TO.zdl zag;(iterate 5 exact rfl);decide;exact rfl)
  | (apply TO.eq_nil_ptr zag;(iterate 5 exact rfl))
  | (apply TO.eq_nil_nil zag;(iterate 4 exact rfl))
  | (apply TO.zeL zag;(iterate 5 exact rfl))
  | (apply TO.zeK zag;(iterate 4 exact rfl))
  | refine zqs ?_
  | refine zqu ?_
  | (apply TO.zoo zag;(iterate 8 exact rfl);omega))
 exact RetK.keep 1 rfl (Le.refl _) rfl rfl rfl rfl rfl ⟨rfl,congrArg (fun n=>[Blk.tail n]) (qaO _)⟩):G:=h
theorem zwb{G:Prop}(h:G:=by
 refine TO.nil ?_
 simp only[Kf]
 repeat' (first
  | (apply TO.move;exact rfl;exact rfl)
  | (apply TO.assign;exact rfl;exact rfl)
  | (apply TO.want;exact rfl)
  | refine zqw ?_
  | refine zqf ?_
  | (apply TO.eqs;(iterate 3 exact rfl))
  | (apply TO.nes;(iterate 3 exact rfl))
  | (apply TO.cmp;(iterate 4 exact rfl))
  | (intro hc;exact absurd hc (by decide))
  | (intro hc;exfalso;simp only[decide_eq_true_eq,decide_eq_false_iff_not,beq_iff_eq,beq_eq_false_iff_ne,bne_iff_ne,bne_eq_false_iff_eq,ne_eq,qbg,not_true_eq_false]at hc;done)
  | (intro hc;exfalso;(first|simp only[decide_eq_true_eq,decide_eq_false_iff_not,beq_iff_eq,beq_eq_false_iff_ne,bne_iff_ne,bne_eq_false_iff_eq,ne_eq,qbg,not_true_eq_false]at hc|skip);first|omega|(simp only[qaD,qam]at *;omega))
  | intro hc
  | (apply TO.pick;(iterate 3 exact rfl))
  | (apply TO.pass;exact rfl;exact rfl)
  | (apply TO.zuU;exact rfl)
  | (apply TO.load zag;(iterate 5 exact rfl))
  | (apply TO.zfJ zag;(iterate 6 exact rfl))
  | (apply TO.fieldAddr zag;(iterate 5 exact rfl);decide;exact rfl)
  | (apply TO.zdR zag;(iterate 5 exact rfl);decide;exact rfl)
  | (apply TO.nilCheck;(iterate 3 exact rfl))
  | (apply TO.zhP zag;(iterate 5 exact rfl);assumption)
  | (apply TO.zet zag;(iterate 5 exact rfl);decide;exact rfl)
  | (apply TO.zmL zag;(iterate 4 exact rfl))
  | (apply TO.zq0 zag;(iterate 7 exact rfl))
  | refine zqm ?_
  | (apply TO.extract;(iterate 3 exact rfl))
  | (apply TO.zts zag;(iterate 5 exact rfl))
  | refine TO.nil ?_
  | refine TR.seq ?_
  | refine TR.region ?_
  | (apply TR.zcC;exact rfl)
  | (apply TR.zur;exact rfl)
  | refine Then.normal ?_
  | refine TR.block ?_
  | refine TR.skip ?_
  | (apply TR.regionQ hmix;kernel_rfl;exact rfl)
  | refine TR.exit ?_
  | refine TR.ret ?_
  | refine Then.exit ?_
  | refine Then.ret ?_
  | refine zab.exit ?_
  | refine zab.ret ?_
  | refine zao.normal ?_
  | refine zao.ret ?_
  | (apply zao.same;exact rfl)
  | (apply zao.other;exact rfl)
  | (apply TO.zu8;(iterate 3 exact rfl);omega;omega)
  | (apply TO.mul64;(iterate 3 exact rfl);omega;omega)
  | (apply TO.convert_u8;exact rfl;kernel_rfl;kernel_rfl;exact rfl)
  | (apply TO.bin;(iterate 4 exact rfl))
  | (apply TO.slice2 zag;(iterate 6 exact rfl);omega;omega)
  | (apply TO.zfS zag;(iterate 5 exact rfl);omega)
  | (apply TO.zeM zag;(iterate 5 exact rfl);omega)
  | (apply TO.not;exact rfl;exact rfl)
  | (apply TO.ze7;exact rfl;exact rfl)
  | (apply TO.zjZ zag;(iterate 4 exact rfl);exact leB)
  | (apply TO.zdb zag;(iterate 5 exact rfl);exact leB)
  | (apply TO.zqX zag;(iterate 4 exact rfl))
  | (apply TO.znJ zag;(iterate 7 exact rfl))
  | (apply TO.build zag;(iterate 6 exact rfl))
  | refine zqy ?_
  | refine zqx ?_
  | refine zqk ?_
  | refine zqt ?_
  | refine zqd ?_
  | (apply TO.eqb;(iterate 3 exact rfl);kernel_rfl)
  | (apply TO.neb;(iterate 3 exact rfl);kernel_rfl)
  | (apply TO.zdP (j:=0) zag;(iterate 10 exact rfl))
  | (apply TO.makeFunc;exact rfl;exact rfl)
  | (apply TO.zdl zag;(iterate 5 exact rfl);decide;exact rfl)
  | (apply TO.eq_nil_ptr zag;(iterate 5 exact rfl))
  | (apply TO.eq_nil_nil zag;(iterate 4 exact rfl))
  | (apply TO.zeL zag;(iterate 5 exact rfl))
  | (apply TO.zeK zag;(iterate 4 exact rfl))
  | refine zqs ?_
  | refine zqu ?_
  | (apply TO.zoo zag;(iterate 8 exact rfl);omega))
 exact wkr):G:=h
theorem zwc{G:Prop}(h:G:=by
 obtain⟨g1,g2⟩:=(za7 hL).1 hi
 have hiM:i∈Region.ready .any all M:=by
  refine(za7 hM).2 ⟨by rw[h1 i hik];exact g1,fun j hj=>?_⟩
  have hjl:=(qak.1 (g2 j hj)).1
  by_cases hjk:j<k
  ·rw[h1 j hjk];exact g2 j hj
  ·exact h2 j (by omega) (by omega)
 have hnext:∀a' w',C w'->wpAnyQIn (Fr r) 0 P .any all C Q u (M.setIfInBounds i true) a'->wpAnyIn (Fr r) 0 P .any all Q' (u+n2) (L.setIfInBounds i true) a' w':=by
  intro a' w' hC' hk'
  refine ih (L.setIfInBounds i true) (M.setIfInBounds i true) a' w' (by simpa using hL) (by simpa using hM) ?_ ?_ ?_ (zp2 hL hdc hi) hC' hk'
  ·intro j hj
   rw[qaL,qaL,h1 j hj,hL,hM]
  ·intro j hj hja
   rw[qaL,if_neg (by omega)]
   exact h2 j hj hja
  ·intro j hj hja
   rw[qaL,if_neg (by omega)]
   exact h3 j hj hja
 have h4:=h.2 i hiM
 unfold qOpIn at h4
 unfold wpOpIn
 cases ho:all[i]? with
 | none=>simp only[ho]at h4⊢;exact hnext _ _ hC h4
 | some o=>
   simp only[ho]at h4⊢
   obtain⟨_,h4⟩:=h4
   split
   ·rename_i hwt
    rw[if_pos hwt]at h4
    exact zmY (hp i o hik ho) hC (fun a' w' hw' hk=>hnext a' w' hw' hk) h4
   ·rename_i hwt
    rw[if_neg hwt]at h4
    exact⟨fun _ _=>trivial,hnext _ _ hC h4⟩):G:=h
theorem zwd{G:Prop}(h:G:=by
 intro i o v ho hv hb k H hk hok env
 obtain⟨x,hx,rfl⟩:∃x,t[i]?=some x/\x.1=v:=by simpa using hv
 have hb':efX x=false:=by
  rw[qbw,qau,hx]at hb
  simpa using hb
 have h5:=(g2 i o x (by simpa using ho) hx).1 hb'
 have hil:=(qab.1 hx).1
 have hr:=qaB.1 hR i (by simpa using hil)
 rw[qau,hx]at hr
 simp only[qa6]at hr
 rw[show Nat.blt x.2.2 x.2.1=false from hb',qb3]at hr
 have hkl:=(qab.1 hk).1
 have hr:=qaB.1 hr k (by simpa using hkl)
 rw[hfl,hok,qcj,qb3,qaz]at hr
 have r1:=qai hr.1
 have r2:=qai hr.2
 refine znw h5 H ?_ env
 refine qat (i:=k-x.2.1) ?_
 rw[qaW,if_pos (by omega),qbb,show x.2.1+(k-x.2.1)=k by omega]
 exact hk):G:=h
theorem zwe{G:Prop}(h:G:=by
 rw[<-hom]
 skip
 change _=some (.ag [T.n l[j].cond.kind,T.n l[j].cond.op,T.n l[j].cond.t,T.n l[j].cond.v,.s l[j].cond.name,.sl 6 (l[j].cond.args.map exT),T.n l[j].to,.b l[j].resume]:T)at hx
 repeat' (first|refine wkt ?_|refine wkaM ?_|refine zqp ?_|(apply TO.zaE N hcj;(iterate 3 exact rfl);exact Les.refl _;exact zgG (hN s);exact zer (hN s);exact hcu;exact hu s;exact zeA N _;exact hN s';exact hu s';exact zc8 (hN s))|refine zqc ?_|refine zab.exit ?_|exact wkc|intro hc|refine wk2 ?_ ?_|refine wk ?_|fail)
 exact zab.zat hlt trivial (by(try dsimp only);rw[hn,qal];exact⟨rfl,rfl,rfl,rfl,rfl,trivial⟩) (by(try dsimp only);rw[hn,<-hol2];simp)):G:=h
theorem zwf{G:Prop}(h:G:=by
 rw[<-hom]
 skip
 change _=some (.ag [.s l[j].name,T.n l[j].ty,.sl 3 (l[j].clock.map onT)]:T)at hx
 repeat' (first|refine wkt ?_|refine wkaM ?_|refine zqp ?_|(apply TO.zaE N hcj;(iterate 3 exact rfl);exact Les.refl _;exact zgG (hN s);exact zer (hN s);exact hcu;exact hu s;exact zeA N _;exact hN s';exact hu s';exact zc8 (hN s))|refine zqc ?_|refine zab.exit ?_|exact wkc|intro hc|refine wk2 ?_ ?_|refine wk ?_|fail)
 exact zab.zat hlt trivial (by(try dsimp only);rw[hn,qal];exact⟨rfl,rfl,rfl,rfl,rfl,trivial⟩) (by(try dsimp only);rw[hn,<-hol2];simp)):G:=h
theorem zwg{G:Prop}(h:G:=by
 have hx:=zny (F:=Fr φ.r) (N:=0) (P:=P) (C:=Keeps m.w) (md:=.any) (Q:=fun a'=>∀w',Keeps m.w w'->wpListIn (Fr φ.r) 0 P l.toArray (Post φ m n K) (l.drop k) a' w') hB1 (l.take k) 0
  (Array.replicate k false++Array.replicate (l.toArray.size-k) true) a (fun j hj=>by rw[qaW,if_pos (by omega)];simp) (by rw[hlt];exact hB5) (zka _ a (zeC ?_ _ a hq))
 ·rw[hlt]at hx;exact hx
 ·rintro a' ⟨env',g1,g2,g3⟩ w' hw'
  obtain⟨s,hm'⟩:=zcT h2 hw'
  have:=g3 φ ⟨m.A,m.β,m.H,w'⟩ a' h1 hm' (g1.step h2 s) (g2.step h2 s)
  exact TO.zeT s this):G:=h
theorem zwh{G:Prop}(h:G:=by
 have:envA l.toArray (t.map (·.1)) (fun i=>(Array.replicate l.toArray.size false).getD i false) (List.range l.toArray.size)=[]:=by
  have:∀x:List Nat,envA l.toArray (t.map (·.1)) (fun i=>(Array.replicate l.toArray.size false).getD i false) x=[]:=by
   intro x
   induction x with
   | nil=>rfl
   | cons i x ih=>
     have:(Array.replicate l.toArray.size false).getD i false=false:=by
      rw[qbf,qaN]
      split <;> rfl
     simp only[envA,this,ih]
  exact this _
 rw[this,qa1]
 exact h3.step h2 s0.1):G:=h
theorem zwi{G:Prop}(h:G:=by
 subst hf
 clear hfk1 hfk2
 cases sm
 all_goals
  repeat' (first|refine wkt ?_|refine wka ?_|refine wkD ?_|refine wk ?_|exact wkc|intro hc|refine wk2 ?_ ?_|refine wsx ?_|refine wms ?_|refine wsy ?_ ?_|refine wss hs ?_ ?_|refine wb hal ?_ ?_|fail)
 all_goals first
  | (exfalso;omega)
  | (refine zab.zat hlt (g2 rfl) ?_
     simp only[Bool.false_and,qcO]at g3
     first|rw[hc]at g3|skip
     simp only[hfs1,g3]
     repeat' (first|exact trivial|refine qaf rfl ?_|fail))):G:=h
theorem zwj{G:Prop}(h:G:=by
 rw[qah]
 repeat' (first|refine wkt ?_|refine zab.exit ?_|exact wkc|intro hc|refine wk2 ?_ ?_|refine wk ?_|fail)
 apply RetK.keep (N+1)
 ·exact rfl
 ·exact Le.refl _
 ·simp[Nat.ble_eq]
 ·rw[Nat.ble_eq,qae,hN];exact qag _
 ·show Nat.blt N (N+1)=true
  rw[qbo];omega
 ·exact qaX (by simp[hN])
 ·exact zap (zeW (Nat.le_succ N) (hu _)) rfl
 ·exact⟨rfl,rfl⟩):G:=h
theorem zwk{G:Prop}(h:G:=by
 unfold exC at hx hs
 have hr:=ze8 es i (-1) (zbY es u)
 generalize zbY es u=xe at*
 repeat' (first|refine wu ?_|exact wkc|intro hc|refine wk2 ?_ ?_|refine wv hs ?_|refine we hr ?_ ?_|fail)
 all_goals first
  | exact zab.zat hlt (g2 hc)
  | ((repeat' (first|refine zab.panic ?_|refine wk ?_|fail));apply retQ;(first|assumption|decide);(clear hs hr hex hx;grind);(clear hs hr hex hx;grind);exact rfl;exact rfl)):G:=h
theorem zwl{G:Prop}(h:G:=by
 unfold za9
 congr 1
 have:∀l:List Nat,(∀i∈l,i<all.size)->envA all vs (fun i=>L.getD i false) l=envA all vs (fun _=>true) l:=by
  intro l
  induction l with
  | nil=>intro _;rfl
  | cons i l ih=>
    intro hl
    have h1:L.getD i false=true:=gT.2 (hA i (hl i qas))
    simp only[envA,h1,ih fun j hj=>hl j (qar _ hj)]
 exact this _ fun i hi=>by simpa using hi):G:=h
theorem zwm{G:Prop}(h:G:=by
 have hcx:exC x=[T.n x.kind,T.n x.op,T.n x.t,T.n x.v,.s x.name,.sl 6 (x.args.map exT)]:=rfl
 rw[hcx]at ho⊢
 repeat' (first|refine wu ?_|exact wkc|intro hc|refine wk2 ?_ ?_|fail)
 refine⟨rfl,?_⟩
 repeat' (first|refine wu ?_|exact wkc|intro hc|refine wk2 ?_ ?_|refine wv ho ?_|fail)
 ·refine⟨_,?_,rfl,rfl⟩
  rw[errF,if_neg hc]
  rfl
 ·refine⟨?_,rfl,rfl⟩
  rw[errF,if_pos (by simpa using hc)]):G:=h
theorem zwn{G:Prop}(h:G:=by
 have hst:=run_storeCells_cells (P:=P) m.w.heap.size 0 (a1.eval y).cells.toList 0 w1 (fun q hq=>hsome q hq) (fun q hq=>World.frozen?_alloc_new ..) (fun u hu=>by
  obtain⟨q,hq⟩:=qbd hu
  exact g0 q u (by simpa using hq))
 have hne:(a1.eval y).cells.size=i.size:=by omega
 simp[execOp,hev,pv,Instr.storeAt,Instr.sureAddr,storeVar,(hT t i ht).sizeOf,hne,hst,w2]):G:=h
theorem zwo{G:Prop}(h:G:=by
 intro L M hL hM h1 h2 hdc hr i hi hia
 refine qav fun hne=>?_
 have hMi:M[i]?=some false:=by
  rw[h1 i hi]
  have:L[i]?=some (L[i]'(by omega)):=qan (by omega)
  rw[this]at hne⊢
  cases h:L[i]'(by omega)
  ·rfl
  ·rw[h]at hne;exact absurd rfl hne
 obtain⟨m,_,hm,_⟩:=zdS hM hd hMi
 rw[hr]at hm;cases hm):G:=h
theorem zwp{G:Prop}(h:G:=by
 intro i hi
 have:L[i]?=some (L[i]'(by omega)):=qan (by omega)
 rw[this]
 cases hb:L[i]'(by omega)
 ·exfalso
  have hmem:i∈(List.range all.size).filter fun i=>L[i]? == some false:=by
   rw[qbW]
   exact⟨by simpa using hi,by rw[this,hb];rfl⟩
  have:=List.length_pos_of_mem hmem
  unfold unl at hun
  omega
 ·rfl):G:=h
theorem zwq{G:Prop}(h:G:=by
 have hsz:all.size≤p:=qbD fun hlt=>by
  have:=hl 0
  rw[qb9,qan hlt]at this
  cases this
 refine⟨?_,h⟩
 refine qbL.2 fun i hi=>?_
 have:=((za7 hL).1 hi).1
 have hlt:=(qak.1 this).1
 rw[h1 i (by omega) (by omega)]at this
 cases this):G:=h
theorem zwr{G:Prop}(h:G:=by
 refine⟨by simp[g1],fun i o' v' b' ho hv=>?_⟩
 cases i with
 | zero=>simp at ho hv;obtain⟨rfl,rfl⟩:=hv;subst ho;exact⟨fun e=>by(cases e),fun _=>⟨H1,H2,rfl,rfl,h1⟩⟩
 | succ i=>
   have:=g2 i o' v' b' (by simpa using ho) (by simpa using hv)
   have e:effs ((v,true)::t) (i+1)=effs t i+1:=by simp[effs]
   rw[e]
   simpa using this):G:=h
theorem zws{G:Prop}(h:G:=by
 intro i o s j ho hs' hj
 have:=hall' i (qak.1 ho).1
 simp only[qaz,ho]at this
 have:=qaB.1 this.1.2 s hs'
 have:=qaB.1 this j (by simpa using hdl j s hj)
 rw[hj]at this
 refine⟨fun h=>?_,fun h=>?_⟩
 ·rw[h]at this;simpa using this
 ·rw[h]at this;simpa using this):G:=h
theorem zwt{G:Prop}(h:G:=by
 intro i hi j hj
 have hil:=(qak.1 hi).1
 have hip:i<p:=qbP fun hle=>by rw[h2 i hle (by omega)]at hi;cases hi
 have:=qaB.1 hd i (by simp;omega)
 have:=qaB.1 this j hj
 have hji:j<i:=by simpa using this
 exact h1 j (by omega) (by omega)):G:=h
theorem zwu{G:Prop}(h:G:=by
 unfold zeR at hx
 repeat' (first|refine wkt ?_|refine wka ?_|refine wkD ?_|refine wk ?_|exact wkc|intro hc|refine wk2 ?_ ?_|refine wsx ?_|refine wms ?_|refine wsy ?_ ?_|fail)
 refine zab.zat hlt trivial ?_ (by rw[g2];rfl)
 repeat' (first|exact trivial|refine qaf rfl ?_|fail)):G:=h
theorem zwv{G:Prop}(h:G:=by
 have:=filter_lt (p:=fun x=>L[x]? == some false) (q:=fun x=>(L.setIfInBounds i true)[x]? == some false) (fun x hx=>by
  rw[hset]at hx
  split at hx
  ·cases hx
  ·exact hx) (List.range all.size) i (by simpa using hil) (by rw[g1];rfl) (by rw[hset,if_pos rfl];rfl)
 unfold unl at hun⊢
 omega):G:=h
theorem zww{G:Prop}(h:G:=by
 have hjs:=g2 _ e (r3 e he)
 have h6:i*sz=es.length*sz+(i-es.length)*sz:=by rw[<-qa0];congr 1;omega
 simp only[if_neg (show ¬i*sz+j<es.length*sz from by omega)]
 rw[show i*sz+j-es.length*sz=(i-es.length)*sz+j from by omega]
 exact s.trel hm (g3 _ e j c (r3 e he) hc)):G:=h
theorem zwx{G:Prop}(h:G:=by
 obtain⟨g1,g2⟩:=zhm _ _ _ _ hv
 have hi:=(qab.1 g2).1
 have hvi:vs[i]?=some (vs[i]'(by rw[h3.1];omega)):=qan _
 exact⟨_,by rw[qaY (by rw[h3.1];omega)];exact hvi,h3.2 i v _ (by simpa using g2) hvi⟩):G:=h
theorem zwy{G:Prop}(h:G:=by
 cases od
 ·exact⟨(fun j=>s j || decide (i=j),false),v,fun j=>rfl,fun j _=>by rw[hV,hV'],by rw[hV'];exact htl,by rw[hV,hS,hS'];exact hg.1⟩
 ·exact⟨(fun j=>s j || decide (i=j),true),w,fun j=>rfl,fun j _=>by rw[hV,hV'],by rw[hV'];exact hul,by rw[hV,hS,hS'];exact hg.2⟩):G:=h
theorem zwz{G:Prop}(h:G:=by
 intro φ m a h1 h2 h3 h4
 refine k φ m a h1 h2 ⟨h3.1,fun j w hw=>?_⟩ h4
 by_cases hj:i=j
 ·subst hj
  rw[Env.zan]at hw
  cases hw
  obtain⟨x,x1,x2⟩:=h3.2 i _ hi
  exact⟨x,x1,hl m x x2⟩
 ·rw[Env.zak _ _ hj]at hw
  exact h3.2 j w hw):G:=h
theorem zwba{G:Prop}(h:G:=by
 intro i o v ho hv hb
 obtain⟨x,hx,rfl⟩:∃x,t[i]?=some x/\x.1=v:=by simpa using hv
 have hb':efX x=true:=by
  rw[qbw,qau,hx]at hb
  simpa using hb
 have:=(g2 i o x (by simpa using ho) hx).2 hb'
 rw[hef]
 exact this):G:=h
theorem zwbb{G:Prop}(h:G:=by
 refine⟨by simp[g1],fun i o' v' b' ho hv=>?_⟩
 cases i with
 | zero=>simp at ho hv;obtain⟨rfl,rfl⟩:=hv;subst ho;exact⟨fun _=>h1,fun e=>by cases e⟩
 | succ i=>
   have:=g2 i o' v' b' (by simpa using ho) (by simpa using hv)
   simpa [effs]using this):G:=h
theorem zwbc{G:Prop}(h:G:=by
 refine so Tryz.func61 ?_
 repeat' (first|refine wu ?_|exact wkc|intro hc|refine wk2 ?_ ?_|refine wv hs ?_|fail)
 all_goals(refine RetK.pure rfl (Le.of_eq ?_) rfl;refine congrArg (fun z=>SV.t (T.v (Value.int IntKind.i64 z))) ?_;clear hs;grind)):G:=h
theorem zwbd{G:Prop}(h:G:=by
 intro i q k h1 h2
 by_cases hi:i=id
 ·subst hi
  rw[qaw hidβ]at h1
  rw[qaw hid]at h2
  cases h1;cases h2;exact .inl ⟨rfl,rfl,rfl⟩
 ·rw[qaJ (by omega)]at h1 h2
  exact .inr ⟨hi,h1,h2⟩):G:=h
theorem zwbe{G:Prop}(h:G:=by
 rw[<-hmc.len]
 by_cases h0:l.length=0
 ·omega
 ·have hlt:l.length-1<(cutM m l Hc).β.length:=by simp[cutM];omega
  obtain⟨p',hp',_⟩:=s.ids (l.length-1) _ (qac hlt)
  have:=(qab.1 hp').1
  omega):G:=h
theorem zwbf{G:Prop}(h:G:=by
 exact zab.zat hlt trivial (by(try dsimp only);rw[hn,qal,show List.map exT [y]=[T.ag (exC y)] by rw[qaj,qay,zay]];exact⟨rfl,rfl,rfl,rfl,rfl,trivial⟩) (by(try dsimp only);rw[hn,<-hol2];simp)):G:=h
theorem zwbg{G:Prop}(h:G:=by
 intro j
 by_cases hj:j<cs.length
 ·obtain⟨y,hy1,hy0,hy2⟩:=b3 j cs[j] (qac hj)
  exact⟨y,fun _=>⟨hy1,hy0,fun c hc=>by rw[qac hj]at hc;cases hc;exact hy2⟩⟩
 ·exact⟨undef,fun h=>absurd h hj⟩):G:=h
theorem zwbh{G:Prop}(h:G:=by
 rw[qah,<-hn]
 repeat' (first|refine wkt ?_|refine zab.exit ?_|exact wkc|intro hc|refine wk2 ?_ ?_|refine wk ?_|fail)
 exact zab.zat hlt trivial (by(try dsimp only);exact⟨rfl,rfl,rfl,rfl,rfl,trivial⟩) rfl):G:=h
theorem zwbi{G:Prop}(h:G:=by
 all_goals first
  | exact zab.zat hlt2 (g2 hc)
  | ((repeat' (first|refine zab.panic ?_|refine wk ?_|fail));apply retF;(first|assumption|decide);(clear hi hd1 ht1 ht2 heq hau hx hx2 hs;grind);exact rfl;exact rfl)):G:=h
theorem zwbj{G:Prop}(h:G:=by
 rw[qah,<-hn]
 repeat' (first|refine wkt ?_|refine zab.exit ?_|exact wkc|intro hc|refine wk2 ?_ ?_|refine wk ?_|fail)
 exact zab.zat hlt trivial (by(try dsimp only);exact⟨rfl,rfl,rfl,rfl,trivial⟩) rfl):G:=h
theorem zwbk{G:Prop}(h:G:=by
 intro fl'
 induction fl' with
 | nil=>intro x h;cases h
 | cons b fl' ih=>
   intro x h
   cases x with
   | zero=>simp at h;subst h;simp
   | succ x=>
     have:=ih x (by simpa using h)
     cases b <;> simp <;> exact this):G:=h
theorem zwbl{G:Prop}(h:G:=by
 cases hc:w.contains t with
 | false=>rfl
 | true=>
   have h0:=hw t hc
   cases he0:env0.look t with
   | none=>rw[he0]at h0;cases h0
   | some u0=>exact absurd hwl (by rw[zh8 he0 w (by simpa using hc)];simp)):G:=h
theorem zwbm{G:Prop}(h:G:=by
 have:L[i]?=some (L[i]'(by omega)):=qan (by omega)
 rw[this]
 cases hb:L[i]'(by omega)
 ·exfalso
  obtain⟨j,_,hj,_⟩:=zdS hL hd (n:=i) (by rw[this,hb])
  rw[hr]at hj;cases hj
 ·rfl):G:=h
theorem zwbn{G:Prop}(h:G:=by
 rw[zaJ]
 cases hpk:(zas (zas env0 w++za9 all (V s) env0) (slotsOf all o)).look t with
 | none=>exact e2
 | some u'=>
   have:=hlook t u' (by rw[zaJ,hpk])
   rw[this]at e2
   exact e2):G:=h
theorem zwbo{G:Prop}(h:G:=by
 refine so Tryz.func302 ?_
 repeat' (first|refine wk ?_|exact wkc|intro hc|refine wk2 ?_ ?_|refine wv c1 ?_|refine wv c2 ?_|refine wv c3 ?_|refine wv c4 ?_|refine wv c5 ?_|fail)
 all_goals exact wkr):G:=h
theorem zwbp{G:Prop}(h:G:=by
 rw[zaJ]
 cases hpk:(zas (zas env0 w++za9 all vs env0) (slotsOf all o)).look t with
 | none=>exact e2
 | some u'=>
   have:=hlook t u' (by rw[zaJ,hpk])
   rw[this]at e2
   exact e2):G:=h
theorem zwbq{G:Prop}(h:G:=by
 unfold wpListIn at h
 unfold wpOpIn
 simp only[hpo]
 split
 ·rename_i hw
  rw[if_pos hw]at h
  exact Oper.wpIn_mono (fun a w h=>hnext a w h) h
 ·rename_i hw
  rw[if_neg hw]at h
  exact⟨h.1,hnext _ _ h.2⟩):G:=h
theorem zwbr{G:Prop}(h:G:=by
 refine zdx _ fun j hj hjl hjd=>?_
 have hjt:=gT.1 hjl
 have:=zb2 hdc 8 (zaI all j) (hdc j hjt) i ((hcv i o t j ho k1 hjd).1 (by simpa using w1))
 rw[g1]at this
 cases this):G:=h
theorem zwbs{G:Prop}(h:G:=by
 have e1:=zaH ha
 repeat' (first|refine wu ?_|exact wkc|intro hc|refine wk2 ?_ ?_|fail)
 exact zlD e1 (Ch.ble _ _ _ _ _) (Ch.ble _ _ _ _ _) (Ch.tkl _ _ _ _ _) (Ch.und _ _ _ _ _)):G:=h
theorem zwbt{G:Prop}(h:G:=by
 rw[if_pos (by rw[g1 hc];exact hc),g1 hc]at hz
 subst hz
 repeat' (first|refine zab.panic ?_|refine wk ?_|fail)
 exact⟨_,zhw _ _ _ _ _ _ _ rfl,fun H3 h=>by subst h;exact wkr⟩):G:=h
theorem zwbu{G:Prop}(h:G:=by
 intro i j d h1 h2
 have:=hall' i (hdl i d h1)
 simp only[qaz]at this
 have:=qaB.1 this.1.1 j (by simpa using hdl j d h2)
 rw[h1,h2]at this
 simpa using this):G:=h
theorem zwbv{G:Prop}(h:G:=by
 have h2:(zaC p.nodes).w=(T.sl 8 (p.nodes.map nodT)).w:=rfl
 have h3:=hw
 rw[w_ag]at h3
 simp only[zax,qaj,qay,qao,qaI]at h3
 omega):G:=h
theorem zwbw{G:Prop}(h:G:=by
 refine RetK.pure rfl (Le.zrU rfl ?_) rfl
 repeat' (first|exact trivial|exact TLs.refl _|exact TLs.nil _|refine TLs.agL ?_|refine TLs.slL ?_|refine qaf ?_ ?_|fail)):G:=h
theorem zwbx{G:Prop}(h:G:=by
 refine⟨by simp[g1],fun i x y hx hy=>?_⟩
 cases i with
 | zero=>simp at hx hy;subst hx;subst hy;exact h.1
 | succ i=>exact g2 i x y (by simpa using hx) (by simpa using hy)):G:=h
theorem zwby{G:Prop}(h:G:=by
 refine so Tryz.func110 ?_
 repeat' (first|refine wu ?_|exact wkc|intro hc|refine wk2 ?_ ?_|refine wv hargs ?_|fail)
 all_goals first
  | exact wkr
  | (exfalso;grind)):G:=h
theorem zwbz{G:Prop}(h:G:=by
 refine⟨0,fun i hi=>⟨fun h=>by omega,fun h=>?_⟩,qaK _,by rw[h0];simp[h1],fun j h=>?_⟩
 all_goals
  rw[qaN]at h
  split at h <;> cases h):G:=h
theorem zwca{G:Prop}(h:G:=by
 unfold zeP ResP plcT plcC exC at*
 refine so Tryz.func110 ?_
 repeat' (first|refine wu ?_|exact wkc|intro hc|refine wk2 ?_ ?_|refine wv hargs ?_|fail)
 exact wkr):G:=h
theorem zwcb{G:Prop}(h:G:=by
 cases hdd:o.dst with
 | none=>exact e3
 | some d=>
   have:d≠t:=fun e=>hne (by unfold zb7;rw[ho];simp[hdd,e])
   rw[putE,Env.zak _ _ this]
   exact e3):G:=h
theorem zwcc{G:Prop}(h:G:=by
 rw[hfs,qau]at hf
 cases hq:gs.toList[fi]? with
 | none=>rw[hq]at hf;cases hf
 | some g=>rw[hq]at hf;simp at hf;exact⟨g,by simpa using hq,hf.1,hf.2⟩):G:=h
theorem zwcd{G:Prop}(h:G:=by
 by_cases hb':b=p.b
 ·by_cases hl:p.hi≤p.lo
  ·exact .inr hl
  ·exact absurd (ownp p.lo (qag _) (by omega)) (by rw[<-hb'];exact hno p.lo)
 ·exact .inl hb'):G:=h
theorem zwce{G:Prop}(h:G:=by
 refine so Tryz.func9 ?_
 repeat' (first|refine wu ?_|exact wkc|intro hc|refine wk2 ?_ ?_|refine wv hs ?_|fail)
 all_goals first
  | exact wkr
  | (exfalso;omega)):G:=h
theorem zwcf{G:Prop}(h:G:=by
 rw[qah]
 repeat' (first|refine wu ?_|exact wkc|intro hc|refine wk2 ?_ ?_|fail)
 exact RetK.ziH 3 rfl (Le.refl _) rfl rfl rfl rfl rfl ⟨rfl,rfl⟩):G:=h
theorem zwcg{G:Prop}(h:G:=by
 intro l
 induction l with
 | nil=>intro d hd _;exact hd
 | cons y l ih=>intro d hd hl;exact ih _ (hd.ins (hl y (by simp))) (fun x hx=>hl x (by simp[hx]))):G:=h
theorem zwch{G:Prop}(h:G:=by
 all_goals first
  | (exfalso;omega)
  | (refine RetK.pure rfl (Le.of_eq ?_) rfl;refine congrArg (fun z=>SV.t (T.v (Value.int IntKind.i64 z))) ?_;omega)):G:=h
theorem zwci{G:Prop}(h:G:=by
 unfold unl
 have:=qcF (fun i=>(Array.replicate l.toArray.size false)[i]? == some false) (List.range l.toArray.size)
 simpa using this):G:=h
theorem zwcj{G:Prop}(h:G:=by
 refine⟨by rw[h5.1,zbG];simp,fun i s x hs' hx=>lies.zey (h5.2 i _ x (by rw[zbG,qau,hs'];rfl) hx) (zeO hu i s hs')⟩):G:=h
theorem zwck{G:Prop}(h:G:=by
 refine so Tryz.func110 ?_
 repeat' (first|refine wu ?_|exact wkc|intro hc|refine wk2 ?_ ?_|refine wv hargs ?_|refine wv hres ?_|fail)
 exact wkr):G:=h
theorem zwcl{G:Prop}(h:G:=by
 subst hq
 rw[qaw hjl]at hc
 cases hc
 obtain⟨y,hy1,hy0,hy2⟩:=b3 q _ hi
 have:=hy2.v_eq
 subst this
 exact⟨_,hy1,rfl,zuP h2 e⟩):G:=h
theorem zwcm{G:Prop}(h:G:=by
 exact zab.zat hlt trivial (by(try dsimp only);rw[hn,qal];exact⟨rfl,rfl,rfl,rfl,rfl,trivial⟩) (by(try dsimp only);rw[hn];simp)):G:=h
theorem zwcn{G:Prop}(h:G:=by
 rcases hA' b o h with h|h|h
 ·exact qa3 (hm.inA b o h) hsz
 ·rw[h.1];exact qa3 (hpin (by omega)) hsz
 ·exact h.2):G:=h
theorem zwco{G:Prop}(h:G:=by
 exact⟨fun s hs b hb=>((key s hs).1 b hb).1,fun s hs=>⟨(key s hs).2.1,(key s hs).2.2.1,(key s hs).2.2.2,fun b hb=>((key s hs).1 b hb).2⟩⟩):G:=h
theorem zwcp{G:Prop}(h:G:=by
 rename_i n0 h0
 have h1:=hi n hn
 have h2:=ho n0 h0
 refine⟨by omega,fun e=>?_⟩
 have:n0=n:=by omega
 rw[h1.2 this]
 exact h2.2 (by omega)):G:=h
theorem zwcq{G:Prop}(h:G:=by
 exact zab.zat hlk trivial (by(try dsimp only);exact⟨rfl,rfl,rfl,rfl,rfl,rfl,rfl,rfl,rfl,trivial⟩) (by(try dsimp only);rw[hn2])):G:=h
theorem zwcr{G:Prop}(h:G:=by
 rw[qah]
 repeat' (first|refine wu ?_|exact wkc|intro hc|refine wk2 ?_ ?_|fail)
 all_goals exact⟨rfl,⟨rfl,trivial⟩,rfl⟩):G:=h
theorem zwcs{G:Prop}(h:G:=by
 rw[qah]at ha
 rw[zfE p l ha]
 repeat' (first|refine wk ?_|exact wkc|intro hc|refine wk2 ?_ ?_|fail)
 exact wkr):G:=h
theorem zwct{G:Prop}(h:G:=by
 rcases hA' b o h with h|h|h
 ·exact .inl h
 ·exact .inr (.inl (by rw[h.1];exact ownp o h.2.1 h.2.2))
 ·exact .inr (.inr h.1)):G:=h
theorem zwcu{G:Prop}(h:G:=by
 refine zab.zat hlt (by rw[g2];exact hc) ?_ (by rw[g2];rfl)
 repeat' (first|exact trivial|refine qaf rfl ?_|fail)):G:=h
theorem zwcv{G:Prop}(h:G:=by
 refine so Tryz.func111 ?_
 repeat' (first|refine wu ?_|exact wkc|intro hc|refine wk2 ?_ ?_|refine wv hs ?_|fail)
 exact wkr):G:=h
theorem zwcw{G:Prop}(h:G:=by
 have h1:=zav (f:=zae) (sz:=1) (qad hlt)
 have h2:=zbJ l[j]
 have h3:=zai staT 6 l[j].states
 omega):G:=h
theorem zwcx{G:Prop}(h:G:=by
 have:=b2 o ho ho'
 unfold Free at this⊢
 show(w'.cell? _).isSome=true/\w'.frozen? _=false
 rw[h.cell,h.frozen];exact this):G:=h
theorem zwcy{G:Prop}(h:G:=by
 unfold zb7 at h
 cases ho:all[i]? with
 | none=>rw[ho]at h;cases h
 | some o=>exact(qak.1 ho).1):G:=h
theorem zwcz{G:Prop}(h:G:=by
 all_goals
  refine RetK.pure rfl (Le.of_eq ?_) rfl
  refine congrArg (fun b=>SV.t (T.v (Value.bool b))) ?_
  simp[hc]):G:=h
theorem zwda{G:Prop}(h:G:=by
 exact zab.zat hlt trivial (by(try dsimp only);exact⟨rfl,rfl,rfl,rfl,rfl,trivial⟩) (by(try dsimp only);rw[hn])):G:=h
theorem zwdb{G:Prop}(h:G:=by
 subst hz
 refine zab.panic ?_
 refine wk ?_
 exact⟨_,zi6 _ _ _ _ _ _ _ rfl,fun H3 h=>by subst h;exact wkr⟩):G:=h
theorem zwdc{G:Prop}(h:G:=by
 split at hd
 ·rcases qaF.1 hd with hd|hd
  ·exact h d hd
  ·rw[qaG.1 hd]
 ·exact h d hd):G:=h
theorem zwdd{G:Prop}(h:G:=by
 rw[zaJ,zdx (List.range all.size) fun j hj hjp=>hno j (by simpa using hj) (gT.1 hjp)]
 exact htu):G:=h
theorem zwde{G:Prop}(h:G:=by
 intro v x h i c y hc hy
 cases i with
 | zero=>simp at hc hy;subst hc;subst hy;exact h
 | succ i=>simp at hc):G:=h
theorem zwdf{G:Prop}(h:G:=by
 refine so Tryz.func184 ?_
 repeat' (first|refine wu ?_|exact wkc|intro hc|refine wk2 ?_ ?_|fail)
 exact wkr):G:=h
theorem zwdg{G:Prop}(h:G:=by
 rw[hs]
 repeat' (first|refine wu ?_|exact wkc|intro hc|refine wk2 ?_ ?_|fail)
 exact⟨rfl,⟨rfl,trivial⟩,rfl⟩):G:=h
theorem zwdh{G:Prop}(h:G:=by
 rw[if_neg h2]
 simp only[]
 repeat' (first|refine wu ?_|exact wkc|intro hc|refine wk2 ?_ ?_|fail)
 exact wkr):G:=h
theorem zwdi{G:Prop}(h:G:=by
 rw[hN,zd4 g3,g2]
 simp only[zdq,zbc,g1]
 (first|exact⟨trivial,rfl⟩|exact⟨trivial,trivial⟩)):G:=h
theorem zwdj{G:Prop}(h:G:=by
 rw[hflat,zbc,hf]
 simp only[]
 rw[ze4 l hlt,zde,hsc]
 simp only[]
 rw[zde,ho]):G:=h
theorem zwdk{G:Prop}(h:G:=by
 rw[qah]
 repeat' (first|refine wu ?_|exact wkc|intro hc|refine wk2 ?_ ?_|fail)
 exact wkr):G:=h
theorem zwdl{G:Prop}(h:G:=by
 rw[qaL]
 split
 ·first|rfl|rw[if_pos (by omega)]
 ·exact h1 j (by omega) hja):G:=h
theorem zwdm{G:Prop}(h:G:=by
 intro hc
 subst hc
 repeat' (first|refine wk ?_|exact wkc|intro hc|refine wk2 ?_ ?_|fail)
 exact wkr):G:=h
theorem zwdn{G:Prop}(h:G:=by
 rw[zaH ha]
 repeat' (first|refine wk ?_|exact wkc|intro hc|refine wk2 ?_ ?_|fail)
 exact wkr):G:=h
theorem zwdo{G:Prop}(h:G:=by
 simp at hy
 obtain⟨r,hr',rfl⟩:=hy
 have:=qat hr'
 simp at this
 exact(hf r this).2.1):G:=h
theorem zwdp{G:Prop}(h:G:=by
 have h3:=qaC ti.bytes h2
 rw[qa0,Nat.mul_assoc,hti2]at h3
 rw[hti2];omega):G:=h
theorem zwdq{G:Prop}(h:G:=by
 rw[if_pos h2,h2]
 repeat' (first|refine wu ?_|exact wkc|intro hc|refine wk2 ?_ ?_|fail)
 exact wkr):G:=h
theorem zwdr{G:Prop}(h:G:=by
 obtain⟨dd,ti,z,h1,h2,h3,_⟩:=h.ex
 rw[hk]at h3
 cases dd <;> simp[TK'.fits]at h3
 subst h3
 exact h1):G:=h
theorem zwds{G:Prop}(h:G:=by
 cases j3
 unfold zb7 at j2
 rw[ho]at j2
 have:o.dst=some t:=j2
 rw[this,putE,Env.zan]):G:=h
theorem zwdt{G:Prop}(h:G:=by
 intro i p k h1 h2 h3
 cases i with
 | zero=>simp at h1;subst h1;right;simp
 | succ i=>simp at h1):G:=h
theorem zwdu{G:Prop}(h:G:=by
 intro x
 induction x with
 | nil=>rfl
 | cons i x ih=>
   have h0:=hrep i
   simp only[envA,h0,ih]):G:=h
theorem zwdv{G:Prop}(h:G:=by
 have:=h2 o ho ho'
 unfold Free at this⊢
 rw[(hk o ho ho').1,(hk o ho ho').2 this.1];exact this):G:=h
theorem zwdw{G:Prop}(h:G:=by
 rw[he,w_ag];simp only[exC,qaj,qay,qao,qaI,w_s];omega):G:=h
theorem zwdx{G:Prop}(h:G:=by
 have:=(zbW (A:=m.A) (w:=m.w) _ _ hz2).1
 have h2:=(hT e ie he).len
 simp at this;omega):G:=h
theorem zwdy{G:Prop}(h:G:=by
 all_goals first
  | exact⟨rfl,by(try dsimp only);rw[hone,hol];rfl,rfl⟩
  | (exfalso;omega)):G:=h
theorem zwdz{G:Prop}(h:G:=by
 exact zkx _ _ _ _ (hQ L a w hL (full L M hL hM h1 h2 hdc hr) h3 hC (h.1 hr)) (u+1)):G:=h
theorem zwea{G:Prop}(h:G:=by
 have:=qaC sz (show q+1≤es.length from hq)
 rw[qbc]at this
 omega):G:=h
theorem zweb{G:Prop}(h:G:=by
 unfold errF
 split <;> rename_i hq <;> split at hq <;> cases hq
 ·trivial
 ·exact⟨rfl,rfl⟩):G:=h
theorem zwec{G:Prop}(h:G:=by
 exact zab.zat hlj trivial ⟨rfl,rfl,rfl,by(try dsimp only);rw[hs2];rfl,rfl,trivial⟩):G:=h
theorem zwed{G:Prop}(h:G:=by
 intro x h i y hy
 cases i with
 | zero=>simp at hy;subst hy;exact h
 | succ i=>simp at hy):G:=h
theorem zwee{G:Prop}(h:G:=by
 rcases qaF.1 ht with ht|ht
 ·have:=zkn ht;omega
 ·have:=zkn ht;omega):G:=h
theorem zwef{G:Prop}(h:G:=by
 rw[ha]
 repeat' (first|refine wk ?_|exact wkc|intro hc|refine wk2 ?_ ?_|fail)
 exact wkr):G:=h
theorem zweg{G:Prop}(h:G:=by
 simp only[qaj,qay,qao,qaI,w_s,w_n,zno]
 omega):G:=h
theorem zweh{G:Prop}(h:G:=by
 have:=(hf _ (hlt q j hq hj)).2.2 _ hcc
 cases this with
 | t _ _ h=>exact s.trel h2 h):G:=h
theorem zwei{G:Prop}(h:G:=by
 have:(i+1)*sz≤es.length*sz:=qaC _ r1
 rw[qa0]at this;omega):G:=h
theorem zwej{G:Prop}(h:G:=by
 rcases Nat.mul_eq_zero.1 h0 with h|h
 ·exact qaP h
 ·omega):G:=h
theorem zwek{G:Prop}(h:G:=by
 rw[this]
 simp only[locF,qae,qam,qaD]
 omega):G:=h
theorem zwel{G:Prop}(h:G:=by
 exact zab.zat hlt trivial ⟨rfl,rfl,by(try dsimp only);rw[hs];rfl,rfl,trivial⟩):G:=h
theorem zwem{G:Prop}(h:G:=by
 simp only[if_neg (show ¬i*sz+j<es.length*sz from by omega)]
 exact g1 _ (by omega)):G:=h
theorem zwen{G:Prop}(h:G:=by
 unfold orE at h;split at h
 ·exact⟨by assumption,h⟩
 ·rename_i ha;exact absurd h ha):G:=h
theorem zweo{G:Prop}(h:G:=by
 exact RetK.at 1 rfl (Le.refl _) (qaK _) rfl rfl (zkr 1 _) ⟨rfl,rfl⟩):G:=h
theorem zwep{G:Prop}(h:G:=by
 have e:k+(l.drop k).length=l.toArray.size:=by simp;omega
 rw[e]at this
 exact this):G:=h
theorem zweq{G:Prop}(h:G:=by
 have:=hl (j+1)
 simp only[qcx]at this
 rw[this];congr 1;omega):G:=h
theorem zwer{G:Prop}(h:G:=by
 simp only[nodC,qaj,qay,qao,qaI,w_s];omega):G:=h
theorem zwes{G:Prop}(h:G:=by
 have h6:=qb8 hlt
 rw[hg]at h6
 rw[g1,<-hH',h5]
 exact h6.symm):G:=h
theorem zwet{G:Prop}(h:G:=by
 rw[qaL,if_neg (by omega)]
 exact h2 j (by omega) hja):G:=h
theorem zweu{G:Prop}(h:G:=by
 intro i
 unfold effX
 rw[<-qb0,qcl,qaa]
 rfl):G:=h
theorem zwev{G:Prop}(h:G:=by
 simp only[qaj,qay,qao,qaI]at hw
 omega):G:=h
theorem zwew{G:Prop}(h:G:=by
 exact hm.still b o ha (by rw[<-h4,g.1];exact ownp o (by omega) (by omega))):G:=h
theorem zwex{G:Prop}(h:G:=by
 intro j
 rw[qaL]
 split
 ·rw[if_pos (by omega)]
 ·rfl):G:=h
theorem zwey{G:Prop}(h:G:=by
 obtain⟨h1,h2⟩:=zdE full t v r h
 exact⟨qar _ h1,h2⟩):G:=h
theorem zwez{G:Prop}(h:G:=by
 simp only[exC,qaj,qay,qao,qaI]
 omega):G:=h
theorem zwfa{G:Prop}(h:G:=by
 rw[qaq (qab.1 hq).1];exact hq):G:=h
theorem zwfb{G:Prop}(h:G:=by
 intro h
 have:(IntKind.i64.max:Int)=9223372036854775807:=by decide
 omega):G:=h
theorem zwfc{G:Prop}(h:G:=by
 rw[qbw,qau,hx]at hb
 simpa using hb):G:=h
theorem zwfd{G:Prop}(h:G:=by
 rw[qbf,qaN]
 split <;> rfl):G:=h
theorem zwfe{G:Prop}(h:G:=by
 intro i hi
 rw[qaN]at hi
 split at hi <;> cases hi):G:=h
theorem zwff{G:Prop}(h:G:=by
 obtain⟨j',h1,h2⟩:=zfu l h
 exact⟨j',qar _ h1,h2⟩):G:=h
theorem zwfg{G:Prop}(h:G:=by
 dsimp only
 rw[zfL _ hlt,qal,qa8]
 rfl):G:=h
theorem zwfh{G:Prop}(h:G:=by
 simp only[qae,qam,qaD]
 omega):G:=h
theorem zwfi{G:Prop}(h:G:=by
 refine zab.zat hlt ?_
 rw[htk,qbI,ha]
 simpa using hc):G:=h
theorem zwfj{G:Prop}(h:G:=by
 exact RetK.keep 0 rfl (Le.own _ _ _) rfl rfl rfl rfl rfl ⟨rfl,rfl⟩):G:=h
theorem zwfk{G:Prop}(h:G:=by
 unfold Program.keyLits
 simp only[Tryz.underlying3]
 cases c <;> rfl):G:=h
theorem zwfl{G:Prop}(h:G:=by
 intro i j p q hij h1 h2
 cases i <;> cases j <;> simp at h1 h2 hij):G:=h
theorem zwfm{G:Prop}(h:G:=by
 rw[Env.zak _ _ hj]at hv
 exact(h3.step h2 s).2 j v hv):G:=h
theorem zwfn{G:Prop}(h:G:=by
 rw[hN,zd4 g3,g2];exact zap g4.2 (hun _ _)):G:=h
theorem zwfo{G:Prop}(h:G:=by
 rw[show l.length+(j-l.length)=j from by omega]at this
 exact this):G:=h
theorem zwfp{G:Prop}(h:G:=by
 simp only[h,if_true];exact zrB g left n q Hd l _ (by simp)):G:=h
theorem zwfq{G:Prop}(h:G:=by
 unfold Program.keyLits
 simp only[Tryz.underlying9]
 rw[if_pos hs]):G:=h
theorem zwfr{G:Prop}(h:G:=by
 exact .inl (by rw[<-h4,g.1];exact ownp o (by omega) (by omega))):G:=h
theorem zwfs{G:Prop}(h:G:=by
 exact RetK.keep 3 rfl (Le.refl _) rfl rfl rfl rfl rfl ⟨rfl,rfl⟩):G:=h
theorem zwft{G:Prop}(h:G:=by
 have:=(zbW (A:=m.A) (w:=m.w) _ _ hz2).1
 simp at this;omega):G:=h
theorem zwfu{G:Prop}(h:G:=by
 have:=hz4 hag
 cases zz <;> simp[Value.oneCell']at this <;> rfl):G:=h
theorem zwfv{G:Prop}(h:G:=by
 refine zab.zat hlt ?_
 rw[htk,qbI,ha]
 simp[hc]):G:=h
theorem zwfw{G:Prop}(h:G:=by
 rw[qam,qbc,<-qaZ]at h
 exact h):G:=h
theorem zwfx{G:Prop}(h:G:=by
 subst hj
 rw[Env.zan]at hv
 cases hv
 exact⟨_,hx1,hr⟩):G:=h
theorem zwfy{G:Prop}(h:G:=by
 obtain⟨m,_,hm,_⟩:=zdS hL hd hLp
 rw[h0]at hm;cases hm):G:=h
theorem zwfz{G:Prop}(h:G:=by
 obtain⟨m,_,hm,_⟩:=zdS hL hd hLx
 rw[h0]at hm;cases hm):G:=h
