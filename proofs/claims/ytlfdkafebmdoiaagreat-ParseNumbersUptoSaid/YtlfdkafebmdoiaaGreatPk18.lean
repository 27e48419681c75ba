import Derived.Test.YtlfdkafebmdoiaaGreatPk14
import Derived.Test.YtlfdkafebmdoiaaGreatPk17
set_option linter.unusedSimpArgs false
set_option linter.unusedVariables false
namespace Go.Proofs.YtlfdkafebmdoiaaGreat
open Go Go.TL
attribute [local irreducible] TR TO Then InBlock RetK Sound LoopK Kf GG ThenL
theorem close_some(n q c:Int)(a b d:SV)(Hr:Heap)(hb:blksUnder (Hr.length+2) Hr=true):
  DSound Tryz.prog 22 [.ref 0 0,.ref 1 0] (.cells [a,b]:: .cells [d]::Hr) (some (failV n q c)) (fun H3=>H3= .cells [.i n,.i q]:: .cells [.i c]::Hr):=by
 refine DSound.of (tab:=tab) Tryz.func22 (by kernel_rfl) rfl rfl rfl rfl ?_
 repeat' (first|refine wu ?_|exact wkc|intro hc|refine wk2 ?_ ?_|(apply TO.assert_ok tabOk;exact rfl;exact rfl;exact rfl;exact rfl)|fail)
 refine Then.normal ?_
 repeat' (first|refine wkt ?_|fail)
 refine TR.regionM (envF:=?envF) (HF:=.cells [.i n,.i q]:: .cells [.i c]::Hr) [(.cp [T.i n,T.i q,T.i c] 0,false),(.t (.ag [T.i n,T.i q]),false),(.cp [T.i n,T.i q,T.i c] 2,false),(.i c,false),(.any,true),(.any,true)] [.cells [a,b]:: .cells [d]::Hr,.cells [.i n,.i q]:: .cells [d]::Hr,.cells [.i n,.i q]:: .cells [.i c]::Hr] hmix ?hB ?h0 ?hp ?hF ?hE ?hK
 case hB=>(dsimp only[List.map];decide +kernel)
 case h0=>exact rfl
 case hF=>exact rfl
 case hE=>exact rfl
 case hp=>repeat' (first|refine wu ?_|exact trivial|exact And.intro rfl rfl|refine And.intro (fun H env=>?_) ?_|refine And.intro (fun env=>?_) ?_|fail)
 repeat' (first|refine wu ?_|exact wkc|intro hc|refine wk2 ?_ ?_|fail)
 have ht:(Blk.cells [.i n,.i q]::Blk.cells [.i c]::Hr).take (Blk.cells [a,b]::Blk.cells [d]::Hr).length=Blk.cells [.i n,.i q]::Blk.cells [.i c]::Hr:=by simp
 refine⟨Nat.le_refl _,?_,ht⟩
 show blksUnder _ (List.take _ (Blk.cells [.i n,.i q]::Blk.cells [.i c]::Hr))=true
 rw[ht]
 exact hb
theorem close_none(H:Heap)(hb:blksUnder H.length H=true):
  DSound Tryz.prog 22 [.ref 0 0,.ref 1 0] H none (fun H3=>H3=H):=by
 refine DSound.of (tab:=tab) Tryz.func22 (by kernel_rfl) rfl rfl rfl rfl ?_
 repeat' (first|refine wu ?_|exact wkc|intro hc|refine wk2 ?_ ?_|(apply TO.assert_nil tabOk;exact rfl;exact rfl;exact rfl;exact rfl)|fail)
 refine Then.normal ?_
 repeat' (first|refine wu ?_|exact wkc|intro hc|refine wk2 ?_ ?_|fail)
 exact⟨Nat.le_refl _,by rw[List.take_of_length_le (Nat.le_refl _)];exact hb,List.take_of_length_le (Nat.le_refl _)⟩
theorem we3{G Q1 Q2:Prop}{f:FuncId}{cargs:List SV}{v pv:SV}{c:Int}{Hc H1:Heap}(hs:Sound Tryz.prog f cargs Hc (Err c v pv H1))(k1:Q1)(k2:Q2)(h:Sound Tryz.prog f cargs Hc (Err c v pv H1)->Hold Q1->Hold Q2->G:=by
  intro hs k1 k2
  (apply Go.TL.TO.callE [2] hs;exact rfl;exact rfl;exact rfl;(repeat' (first|exact trivial|exact Go.TL.Le.refl _|refine And.intro ?_ ?_|exact Go.TL.Le.any _|exact Go.TL.Le.nil _|exact Go.TL.Le.own _ _ _|refine Go.TL.Le.tree rfl ?_|exact Go.TL.TLe.refl _|exact Go.TL.TLe.nil _|refine Go.TL.TLe.ags ?_|fail));exact rfl;exact Hands.one rfl rfl;exact rfl;exact rfl;exact rfl;exact rfl;exact k1.p;exact k2.p)):G:=h hs ⟨k1⟩ ⟨k2⟩
theorem shapeX_sound(p:Prog)(hw:(T.ag (progC p)).w≤1000000000):Pure Tryz.prog 10 [.t (.ag (progC p))] (.tup [.t (.ag [T.i (shapeX p).1.1,T.i (shapeX p).1.2]),.i (shapeX p).2]):=by
 have l1:(T.sl 2 (p.enums.map enT)).w+(nodesT p.nodes).w≤(T.ag (progC p)).w:=by rw[w_ag];simp only[progC,List.map_cons,List.map_nil,List.sum_cons,List.sum_nil];omega
 refine Sound.ofDefer tabOk Tryz.func10 (by kernel_rfl) rfl rfl (gf:=22) (cv:=[.ref 0 0,.ref 1 0]) ?_
 unfold progC
 refine TD.seq ?_
 repeat' (first|refine wu ?_|fail)
 show TD _ _ (.seq _ _) _ _ _ _ _ _
 refine TD.defer (tz:=0) rfl rfl ?_
 have m1:(p.enums.map enT).length=p.enums.length:=List.length_map _
 have m2:(p.nodes.map nodT).length=p.nodes.length:=List.length_map _
 have b1:=w_lenM enT 2 p.enums
 have b2:=w_lenM nodT 8 p.nodes
 have hen:∀(n q:Int) u,u∈p.enums->LS 24 [.t (.ag [.s u.name,.sl 1 (u.tags.map T.s)])] p.enums n q (enumE u):=fun n q u hu=>enumM_sound p.enums n q u (by
  have:=w_inM (f:=enT) (sz:=2) hu
  rw[enT,w_ag]at this;simp only[List.map_cons,List.map_nil,List.sum_cons,List.sum_nil]at this
  have:=w_lenM T.s 1 u.tags
  omega)
 have hno:∀(a b i:Int) u,u∈p.nodes->Sound Tryz.prog 25 [.ref 0 0,.i i,.t (.ag (nodC u))] [lookB p.enums a b] (Err (nodeX p.enums u).2 (.tup []) (failV i (nodeX p.enums u).1 (nodeX p.enums u).2) [lookB p.enums i (-1)]):=fun a b i u hu=>nodeM_sound p.enums a b i u (by
  have:=w_inM (f:=nodT) (sz:=8) hu
  have:(nodesT p.nodes).w=(T.sl 8 (p.nodes.map nodT)).w:=rfl
  omega)
 have hz:shapeX p=shapeX p:=rfl
 conv at hz=>rhs;unfold shapeX limE
 generalize shapeX p=z at hz⊢
 refine wk ?_
 repeat' (first|refine wkt ?_|refine wka ?_|refine wk ?_|exact wkc|intro hc|refine wk2 ?_ ?_|(apply TO.call1 [2] (must_ok p.enums (-1) (-1) 3);exact rfl;exact rfl;exact rfl;exact⟨Le.refl _,Le.refl _,Le.refl _,trivial⟩;exact rfl;exact Hands.one rfl rfl;exact rfl;exact rfl)|refine we3 (must_no p.enums (-1) (-1) 3 (by decide)) ?_ ?_|fail)
 all_goals first
  | (have hzz:z=((-1,-1),3):=by rw[hz];clear hen hno;grind
     subst hzz
     exact⟨_,close_some _ _ _ _ _ _ _ rfl,fun H3 h=>by subst h;exact wkr⟩)
  | skip
 rw[if_neg (by clear hen hno hz;simp;omega)]at hz
 refine TR.loopN p.enums.length (fun k=>firstE enumE (p.enums.take k)=0) (fun k=>[(1,.cp [.sl 2 (p.enums.map enT),nodesT p.nodes] 0),(2,.ref 0 0),(3,.ref 1 0),(4,.ref 2 0),(28,.t (.sl 2 (p.enums.map enT))),(29,.i (p.enums.map enT).length),(30,.i k)])
  (fun k=>[.cells [.i 0,.i 0],.cells [.i 0],lookB p.enums (-1) (-1)]) rfl (fun k hlt ha=>?_) (fun ha=>?_)
 ·have hx:(p.enums.map enT)[k]?=some (.ag [.s p.enums[k].name,.sl 1 (p.enums[k].tags.map T.s)]):=at_map enT hlt
  have g1:=firstE_at (f:=enumE) hlt ha
  have g2:=firstE_next (f:=enumE) hlt ha
  have hs:=hen (-1) (-1) _ (List.getElem_mem hlt)
  generalize p.enums[k]=u at*
  clear hen hno
  repeat' (first|refine wkt ?_|refine wka ?_|refine wk ?_|exact wkc|intro hc|refine wk2 ?_ ?_|refine we3 hs ?_ ?_|fail)
  ·exact LoopK.nextN hlt (g2 hc)
  ·rw[if_pos (by rw[g1 hc];exact hc),g1 hc]at hz
   subst hz
   refine LoopK.panic ?_
   refine wk ?_
   exact⟨_,close_some _ _ _ _ _ _ _ rfl,fun H3 h=>by subst h;exact wkr⟩
 have e1:=firstE_all ha
 rw[if_neg (by simp[e1])]at hz
 clear hen
 refine wk ?_
 repeat' (first|refine wu ?_|exact wkc|intro hc|refine wk2 ?_ ?_|fail)
 refine TR.loopN p.nodes.length (fun k=>firstE (fun n=>(nodeX p.enums n).2) (p.nodes.take k)=0) (fun k=>[(2,.ref 0 0),(3,.ref 1 0),(4,.ref 2 0),(39,.t (nodesT p.nodes)),(40,.i (p.nodes.map nodT).length),(41,.i k)])
  (fun k=>[.cells [.i 0,.i 0],.cells [.i 0],lookB p.enums ((k:Int)-1) (-1)]) rfl (fun k hlt ha=>?_) (fun ha=>?_)
 ·have hx:=at_nod hlt
  have g1:=firstE_at (f:=fun n=>(nodeX p.enums n).2) hlt ha
  have g2:=firstE_next (f:=fun n=>(nodeX p.enums n).2) hlt ha
  have g3:=firstI_at (f:=fun n=>(nodeX p.enums n).2) hlt ha
  have hs:=hno ((k:Int)-1) (-1) k _ (List.getElem_mem hlt)
  have hat:p.nodes[k]?=some p.nodes[k]:=List.getElem?_eq_getElem hlt
  generalize p.nodes[k]=u at*
  clear hno
  unfold nodC at hx hs
  repeat' (first|refine wkt ?_|refine wka ?_|refine wk ?_|exact wkc|intro hc|refine wk2 ?_ ?_|refine we3 hs ?_ ?_|fail)
  ·refine LoopK.nextN hlt (g2 hc) ?_ (by rw[show((k+1:Nat):Int)-1=k from by omega];rfl)
   repeat' (first|exact trivial|refine And.intro rfl ?_|fail)
  ·rw[if_neg (by rw[g1 hc];exact hc),g3 hc,g1 hc]at hz
   simp only[Int.toNat_natCast,hat,Option.map_some,Option.getD_some]at hz
   subst hz
   refine LoopK.panic ?_
   refine wk ?_
   exact⟨_,close_some _ _ _ _ _ _ _ rfl,fun H3 h=>by subst h;exact wkr⟩
 have e2:=firstE_all ha
 rw[if_pos e2]at hz
 subst hz
 refine wk ?_
 repeat' (first|refine wu ?_|exact wkc|intro hc|refine wk2 ?_ ?_|fail)
 exact⟨_,close_none _ rfl,fun H3 h=>by subst h;exact wkr⟩
def blank(c:Int):Bool:=c == 32 || c == 9 || c == 10 || c == 13
set_option maxHeartbeats 400000 in
theorem blank_sound (c:Int):Pure Tryz.prog 57 [u8 c] (.b (blank c)):=by
 refine so Tryz.func57 ?_
 repeat' (first
  | (apply TO.move;exact rfl;exact rfl)
  | (apply TO.assign;exact rfl;exact rfl)
  | (apply TO.want;exact rfl)
  | (apply TO.add;exact rfl;exact rfl;exact rfl;omega;omega)
  | (apply TO.cat;exact rfl;exact rfl;exact rfl;(first|omega|(simp only[List.length_append,List.length_cons,List.length_nil];omega)))
  | (apply TO.eqs;exact rfl;exact rfl;exact rfl)
  | (apply TO.nes;exact rfl;exact rfl;exact rfl)
  | (apply TO.cmp;exact rfl;exact rfl;exact rfl;exact rfl)
  | (intro hc;exact absurd hc (by decide))
  | (intro hc;exfalso;simp only[decide_eq_true_eq,decide_eq_false_iff_not,beq_iff_eq,beq_eq_false_iff_ne,bne_iff_ne,bne_eq_false_iff_eq,ne_eq,Decidable.not_not,not_true_eq_false]at hc;done)
  | (intro hc;exfalso;(first|simp only[decide_eq_true_eq,decide_eq_false_iff_not,beq_iff_eq,beq_eq_false_iff_ne,bne_iff_ne,bne_eq_false_iff_eq,ne_eq,Decidable.not_not,not_true_eq_false]at hc|skip);first|omega|(simp only[List.length_nil,List.length_cons]at *;omega))
  | intro hc
  | (apply TO.pick;exact rfl;exact rfl;exact rfl)
  | (apply TO.pass;exact rfl;exact rfl)
  | (apply TO.pass0;exact rfl)
  | (apply TO.load tabOk;exact rfl;exact rfl;exact rfl;exact rfl;exact rfl)
  | (apply TO.load_ref tabOk;exact rfl;exact rfl;exact rfl;exact rfl;exact rfl;exact rfl)
  | (apply TO.fieldAddr tabOk;exact rfl;exact rfl;exact rfl;exact rfl;exact rfl;decide;exact rfl)
  | (apply TO.fieldAddr_ref tabOk;exact rfl;exact rfl;exact rfl;exact rfl;exact rfl;decide;exact rfl)
  | (apply TO.nilCheck;exact rfl;exact rfl;exact rfl)
  | (apply TO.index_nat tabOk;exact rfl;exact rfl;exact rfl;exact rfl;exact rfl;assumption)
  | (apply TO.index_str tabOk;exact rfl;exact rfl;exact rfl;exact rfl;exact rfl;decide;exact rfl)
  | (apply TO.len_str tabOk;exact rfl;exact rfl;exact rfl;exact rfl)
  | (apply TO.len_sl tabOk;exact rfl;exact rfl;exact rfl;exact rfl;exact rfl;exact rfl;exact rfl)
  | (apply TO.elem_nat tabOk;exact rfl;exact rfl;exact rfl;exact rfl;exact rfl;exact rfl;exact rfl;exact rfl;assumption;exact rfl)
  | (apply TO.extract;exact rfl;exact rfl;exact rfl)
  | refine TO.nil ?_
  | refine TR.seq ?_
  | refine TR.region ?_
  | (apply TR.condT;exact rfl)
  | (apply TR.condF;exact rfl)
  | refine Then.normal ?_
  | refine TR.block ?_
  | refine TR.skip ?_
  | (apply TR.regionQ hmix;kernel_rfl;exact rfl)
  | refine TR.exit ?_
  | refine TR.ret ?_
  | refine Then.exit ?_
  | refine Then.ret ?_
  | refine LoopK.exit ?_
  | refine LoopK.ret ?_
  | refine InBlock.normal ?_
  | refine InBlock.ret ?_
  | (apply InBlock.same;exact rfl)
  | (apply InBlock.other;exact rfl)
  | (apply TO.sub64;exact rfl;exact rfl;exact rfl;omega;omega)
  | (apply TO.mul64;exact rfl;exact rfl;exact rfl;omega;omega)
  | (apply TO.convert_u8;exact rfl;kernel_rfl;kernel_rfl;exact rfl)
  | (apply TO.bin;exact rfl;exact rfl;exact rfl;exact rfl)
  | (apply TO.slice2 tabOk;exact rfl;exact rfl;exact rfl;exact rfl;exact rfl;exact rfl;omega;omega)
  | (apply TO.slice_lo tabOk;exact rfl;exact rfl;exact rfl;exact rfl;exact rfl;omega)
  | (apply TO.slice_hi tabOk;exact rfl;exact rfl;exact rfl;exact rfl;exact rfl;omega)
  | (apply TO.not;exact rfl;exact rfl)
  | (apply TO.nilCheck_fn;exact rfl;exact rfl)
  | (apply TO.load_agg tabOk;exact rfl;exact rfl;exact rfl;exact rfl;exact Nat.le_of_ble_eq_true rfl)
  | (apply TO.load_ref_agg tabOk;exact rfl;exact rfl;exact rfl;exact rfl;exact rfl;exact Nat.le_of_ble_eq_true rfl)
  | (apply TO.len_ms tabOk;exact rfl;exact rfl;exact rfl;exact rfl)
  | (apply TO.buildT tabOk;exact rfl;exact rfl;exact rfl;exact rfl;exact rfl;exact rfl;exact rfl)
  | (apply TO.build tabOk;exact rfl;exact rfl;exact rfl;exact rfl;exact rfl;exact rfl)
  | (apply TO.box;exact rfl;exact rfl;exact rfl;exact rfl)
  | (apply TO.alloc tabOk;exact rfl;exact rfl;exact rfl)
  | (apply TO.store tabOk;exact rfl;exact rfl;exact rfl;exact rfl;exact rfl;exact rfl;exact Nat.le_of_ble_eq_true rfl;exact rfl;exact Nat.le_of_ble_eq_true rfl;exact rfl)
  | (apply TO.buildSliceB tabOk;exact rfl;exact rfl;exact rfl;exact rfl;exact rfl;exact rfl;exact rfl;exact rfl;exact rfl;exact rfl)
  | (apply TO.appendB tabOk;exact rfl;exact rfl;exact rfl;exact rfl;exact rfl;exact rfl;exact rfl;exact rfl;exact rfl;exact rfl;exact rfl;exact rfl;exact rfl;(first|omega|(simp only[List.length_append,List.length_cons,List.length_nil];omega));exact rfl)
  | (apply TO.eqb;exact rfl;exact rfl;exact rfl;kernel_rfl)
  | (apply TO.neb;exact rfl;exact rfl;exact rfl;kernel_rfl)
  | (apply TO.elem_nat (j:=0) tabOk;exact rfl;exact rfl;exact rfl;exact rfl;exact rfl;exact rfl;exact rfl;exact rfl;exact rfl;exact rfl)
  | (apply TO.makeFunc;exact rfl;exact rfl)
  | (apply TO.fieldAddr_tref tabOk;exact rfl;exact rfl;exact rfl;exact rfl;exact rfl;decide;exact rfl)
  | (apply TO.eq_nil_ptr tabOk;exact rfl;exact rfl;exact rfl;exact rfl;exact rfl)
  | (apply TO.eq_nil_nil tabOk;exact rfl;exact rfl;exact rfl;exact rfl)
  | (apply TO.ne_nil_ptr tabOk;exact rfl;exact rfl;exact rfl;exact rfl;exact rfl)
  | (apply TO.ne_nil_nil tabOk;exact rfl;exact rfl;exact rfl;exact rfl)
  | (apply TO.ssl2 tabOk;exact rfl;exact rfl;exact rfl;exact rfl;exact rfl;exact rfl;exact rfl;exact rfl;exact rfl;omega;omega)
  | (apply TO.ssl_lo tabOk;exact rfl;exact rfl;exact rfl;exact rfl;exact rfl;exact rfl;exact rfl;exact rfl;omega)
  | (apply TO.ssl_hi tabOk;exact rfl;exact rfl;exact rfl;exact rfl;exact rfl;exact rfl;exact rfl;exact rfl;omega))
 all_goals refine RetK.pure rfl ?_ rfl
 all_goals exact Le.of_eq (by simp_all [blank,pack])
def spanOf(p:Int->Bool):Str->Str
 | []=>[]
 | c::r=>if p c.toNat then c::spanOf p r else[]
theorem spanOf_len(p:Int->Bool):∀l,(spanOf p l).length≤l.length
 | []=>Nat.le_refl _
 | c::r=>by unfold spanOf;split <;> simp;exact spanOf_len p r
theorem spanOf_take(p:Int->Bool):∀l,spanOf p l=l.take (spanOf p l).length
 | []=>rfl
 | c::r=>by
   unfold spanOf;split
   ·simp only[List.length_cons,List.take_succ_cons];rw[<-spanOf_take p r]
   ·rfl
abbrev scanner (s:Str)(k:Nat):Heap:=[.cells [.s s,.i k]]
set_option maxHeartbeats 1000000 in
theorem span_sound (fid:FuncId) (p:Int->Bool) (hp:∀c,Pure Tryz.prog fid [u8 c] (.b (p c))) (s:Str) (hs:s.length≤1000000) (i:Nat) (hi:i≤s.length):
  Sound Tryz.prog 56 [.ref 0 0,.fn fid []] (scanner s i) (fun r H'=>r= .ret (.s (spanOf p (s.drop i)))/\H'=scanner s (i+(spanOf p (s.drop i)).length)):=by
 refine so Tryz.func56 ?_
 repeat' (first
  | (apply TO.move;exact rfl;exact rfl)
  | (apply TO.assign;exact rfl;exact rfl)
  | (apply TO.want;exact rfl)
  | (apply TO.add;exact rfl;exact rfl;exact rfl;omega;omega)
  | (apply TO.cat;exact rfl;exact rfl;exact rfl;(first|omega|(simp only[List.length_append,List.length_cons,List.length_nil];omega)))
  | (apply TO.eqs;exact rfl;exact rfl;exact rfl)
  | (apply TO.nes;exact rfl;exact rfl;exact rfl)
  | (apply TO.cmp;exact rfl;exact rfl;exact rfl;exact rfl)
  | (intro hc;exact absurd hc (by decide))
  | (intro hc;exfalso;simp only[decide_eq_true_eq,decide_eq_false_iff_not,beq_iff_eq,beq_eq_false_iff_ne,bne_iff_ne,bne_eq_false_iff_eq,ne_eq,Decidable.not_not,not_true_eq_false]at hc;done)
  | (intro hc;exfalso;(first|simp only[decide_eq_true_eq,decide_eq_false_iff_not,beq_iff_eq,beq_eq_false_iff_ne,bne_iff_ne,bne_eq_false_iff_eq,ne_eq,Decidable.not_not,not_true_eq_false]at hc|skip);first|omega|(simp only[List.length_nil,List.length_cons]at *;omega))
  | intro hc
  | (apply TO.pick;exact rfl;exact rfl;exact rfl)
  | (apply TO.pass;exact rfl;exact rfl)
  | (apply TO.pass0;exact rfl)
  | (apply TO.load tabOk;exact rfl;exact rfl;exact rfl;exact rfl;exact rfl)
  | (apply TO.load_ref tabOk;exact rfl;exact rfl;exact rfl;exact rfl;exact rfl;exact rfl)
  | (apply TO.fieldAddr tabOk;exact rfl;exact rfl;exact rfl;exact rfl;exact rfl;decide;exact rfl)
  | (apply TO.fieldAddr_ref tabOk;exact rfl;exact rfl;exact rfl;exact rfl;exact rfl;decide;exact rfl)
  | (apply TO.nilCheck;exact rfl;exact rfl;exact rfl)
  | (apply TO.index_nat tabOk;exact rfl;exact rfl;exact rfl;exact rfl;exact rfl;assumption)
  | (apply TO.index_str tabOk;exact rfl;exact rfl;exact rfl;exact rfl;exact rfl;decide;exact rfl)
  | (apply TO.len_str tabOk;exact rfl;exact rfl;exact rfl;exact rfl)
  | (apply TO.len_sl tabOk;exact rfl;exact rfl;exact rfl;exact rfl;exact rfl;exact rfl;exact rfl)
  | (apply TO.elem_nat tabOk;exact rfl;exact rfl;exact rfl;exact rfl;exact rfl;exact rfl;exact rfl;exact rfl;assumption;exact rfl)
  | (apply TO.extract;exact rfl;exact rfl;exact rfl)
  | refine TO.nil ?_
  | refine TR.seq ?_
  | refine TR.region ?_
  | (apply TR.condT;exact rfl)
  | (apply TR.condF;exact rfl)
  | refine Then.normal ?_
  | refine TR.block ?_
  | refine TR.skip ?_
  | (apply TR.regionQ hmix;kernel_rfl;exact rfl)
  | refine TR.exit ?_
  | refine TR.ret ?_
  | refine Then.exit ?_
  | refine Then.ret ?_
  | refine LoopK.exit ?_
  | refine LoopK.ret ?_
  | refine InBlock.normal ?_
  | refine InBlock.ret ?_
  | (apply InBlock.same;exact rfl)
  | (apply InBlock.other;exact rfl)
  | (apply TO.sub64;exact rfl;exact rfl;exact rfl;omega;omega)
  | (apply TO.mul64;exact rfl;exact rfl;exact rfl;omega;omega)
  | (apply TO.convert_u8;exact rfl;kernel_rfl;kernel_rfl;exact rfl)
  | (apply TO.bin;exact rfl;exact rfl;exact rfl;exact rfl)
  | (apply TO.slice2 tabOk;exact rfl;exact rfl;exact rfl;exact rfl;exact rfl;exact rfl;omega;omega)
  | (apply TO.slice_lo tabOk;exact rfl;exact rfl;exact rfl;exact rfl;exact rfl;omega)
  | (apply TO.slice_hi tabOk;exact rfl;exact rfl;exact rfl;exact rfl;exact rfl;omega)
  | (apply TO.not;exact rfl;exact rfl)
  | (apply TO.nilCheck_fn;exact rfl;exact rfl)
  | (apply TO.load_agg tabOk;exact rfl;exact rfl;exact rfl;exact rfl;exact Nat.le_of_ble_eq_true rfl)
  | (apply TO.load_ref_agg tabOk;exact rfl;exact rfl;exact rfl;exact rfl;exact rfl;exact Nat.le_of_ble_eq_true rfl)
  | (apply TO.len_ms tabOk;exact rfl;exact rfl;exact rfl;exact rfl)
  | (apply TO.buildT tabOk;exact rfl;exact rfl;exact rfl;exact rfl;exact rfl;exact rfl;exact rfl)
  | (apply TO.build tabOk;exact rfl;exact rfl;exact rfl;exact rfl;exact rfl;exact rfl)
  | (apply TO.box;exact rfl;exact rfl;exact rfl;exact rfl)
  | (apply TO.alloc tabOk;exact rfl;exact rfl;exact rfl)
  | (apply TO.store tabOk;exact rfl;exact rfl;exact rfl;exact rfl;exact rfl;exact rfl;exact Nat.le_of_ble_eq_true rfl;exact rfl;exact Nat.le_of_ble_eq_true rfl;exact rfl)
  | (apply TO.buildSliceB tabOk;exact rfl;exact rfl;exact rfl;exact rfl;exact rfl;exact rfl;exact rfl;exact rfl;exact rfl;exact rfl)
  | (apply TO.appendB tabOk;exact rfl;exact rfl;exact rfl;exact rfl;exact rfl;exact rfl;exact rfl;exact rfl;exact rfl;exact rfl;exact rfl;exact rfl;exact rfl;(first|omega|(simp only[List.length_append,List.length_cons,List.length_nil];omega));exact rfl)
  | (apply TO.eqb;exact rfl;exact rfl;exact rfl;kernel_rfl)
  | (apply TO.neb;exact rfl;exact rfl;exact rfl;kernel_rfl)
  | (apply TO.elem_nat (j:=0) tabOk;exact rfl;exact rfl;exact rfl;exact rfl;exact rfl;exact rfl;exact rfl;exact rfl;exact rfl;exact rfl)
  | (apply TO.makeFunc;exact rfl;exact rfl)
  | (apply TO.fieldAddr_tref tabOk;exact rfl;exact rfl;exact rfl;exact rfl;exact rfl;decide;exact rfl)
  | (apply TO.eq_nil_ptr tabOk;exact rfl;exact rfl;exact rfl;exact rfl;exact rfl)
  | (apply TO.eq_nil_nil tabOk;exact rfl;exact rfl;exact rfl;exact rfl)
  | (apply TO.ne_nil_ptr tabOk;exact rfl;exact rfl;exact rfl;exact rfl;exact rfl)
  | (apply TO.ne_nil_nil tabOk;exact rfl;exact rfl;exact rfl;exact rfl)
  | (apply TO.ssl2 tabOk;exact rfl;exact rfl;exact rfl;exact rfl;exact rfl;exact rfl;exact rfl;exact rfl;exact rfl;omega;omega)
  | (apply TO.ssl_lo tabOk;exact rfl;exact rfl;exact rfl;exact rfl;exact rfl;exact rfl;exact rfl;exact rfl;omega)
  | (apply TO.ssl_hi tabOk;exact rfl;exact rfl;exact rfl;exact rfl;exact rfl;exact rfl;exact rfl;exact rfl;omega))
 refine TR.loop_ind (ι:=Nat) (fun k=>i≤k/\k≤s.length/\spanOf p (s.drop i)=(s.take k).drop i++spanOf p (s.drop k)) (fun k=>s.length-k) (fun k=>[(0,.ref 0 0),(1,.fn fid []),(5,.i i)]) (fun k=>scanner s k) i ⟨Nat.le_refl _,hi,?_⟩ ⟨rfl,rfl,rfl,trivial⟩ rfl ?_
 ·have h0:(s.take i).drop i=[]:=List.drop_eq_nil_of_le (by simp;omega)
  rw[h0];rfl
 rintro k ⟨h1,h2,h3⟩
 by_cases hlt:k<s.length
 ·have hx:=List.getElem?_eq_getElem hlt
  repeat' (first
   | (apply TO.move;exact rfl;exact rfl)
   | (apply TO.assign;exact rfl;exact rfl)
   | (apply TO.want;exact rfl)
   | (apply TO.add;exact rfl;exact rfl;exact rfl;omega;omega)
   | (apply TO.cat;exact rfl;exact rfl;exact rfl;(first|omega|(simp only[List.length_append,List.length_cons,List.length_nil];omega)))
   | (apply TO.eqs;exact rfl;exact rfl;exact rfl)
   | (apply TO.nes;exact rfl;exact rfl;exact rfl)
   | (apply TO.cmp;exact rfl;exact rfl;exact rfl;exact rfl)
   | (intro hc;exact absurd hc (by decide))
   | (intro hc;exfalso;simp only[decide_eq_true_eq,decide_eq_false_iff_not,beq_iff_eq,beq_eq_false_iff_ne,bne_iff_ne,bne_eq_false_iff_eq,ne_eq,Decidable.not_not,not_true_eq_false]at hc;done)
   | (intro hc;exfalso;(first|simp only[decide_eq_true_eq,decide_eq_false_iff_not,beq_iff_eq,beq_eq_false_iff_ne,bne_iff_ne,bne_eq_false_iff_eq,ne_eq,Decidable.not_not,not_true_eq_false]at hc|skip);first|omega|(simp only[List.length_nil,List.length_cons]at *;omega))
   | intro hc
   | (apply TO.pick;exact rfl;exact rfl;exact rfl)
   | (apply TO.pass;exact rfl;exact rfl)
   | (apply TO.pass0;exact rfl)
   | (apply TO.load tabOk;exact rfl;exact rfl;exact rfl;exact rfl;exact rfl)
   | (apply TO.load_ref tabOk;exact rfl;exact rfl;exact rfl;exact rfl;exact rfl;exact rfl)
   | (apply TO.fieldAddr tabOk;exact rfl;exact rfl;exact rfl;exact rfl;exact rfl;decide;exact rfl)
   | (apply TO.fieldAddr_ref tabOk;exact rfl;exact rfl;exact rfl;exact rfl;exact rfl;decide;exact rfl)
   | (apply TO.nilCheck;exact rfl;exact rfl;exact rfl)
   | (apply TO.index_nat tabOk;exact rfl;exact rfl;exact rfl;exact rfl;exact rfl;assumption)
   | (apply TO.index_str tabOk;exact rfl;exact rfl;exact rfl;exact rfl;exact rfl;decide;exact rfl)
   | (apply TO.len_str tabOk;exact rfl;exact rfl;exact rfl;exact rfl)
   | (apply TO.len_sl tabOk;exact rfl;exact rfl;exact rfl;exact rfl;exact rfl;exact rfl;exact rfl)
   | (apply TO.elem_nat tabOk;exact rfl;exact rfl;exact rfl;exact rfl;exact rfl;exact rfl;exact rfl;exact rfl;assumption;exact rfl)
   | (apply TO.extract;exact rfl;exact rfl;exact rfl)
   | (apply TO.callBb (hp _);exact rfl;exact rfl;exact rfl;exact⟨.t _,trivial⟩)
   | refine TO.nil ?_
   | refine TR.seq ?_
   | refine TR.region ?_
   | (apply TR.condT;exact rfl)
   | (apply TR.condF;exact rfl)
   | refine Then.normal ?_
   | refine TR.block ?_
   | refine TR.skip ?_
   | (apply TR.regionQ hmix;kernel_rfl;exact rfl)
   | refine TR.exit ?_
   | refine TR.ret ?_
   | refine Then.exit ?_
   | refine Then.ret ?_
   | refine LoopK.exit ?_
   | refine LoopK.ret ?_
   | refine InBlock.normal ?_
   | refine InBlock.ret ?_
   | (apply InBlock.same;exact rfl)
   | (apply InBlock.other;exact rfl)
   | (apply TO.sub64;exact rfl;exact rfl;exact rfl;omega;omega)
   | (apply TO.mul64;exact rfl;exact rfl;exact rfl;omega;omega)
   | (apply TO.convert_u8;exact rfl;kernel_rfl;kernel_rfl;exact rfl)
   | (apply TO.bin;exact rfl;exact rfl;exact rfl;exact rfl)
   | (apply TO.slice2 tabOk;exact rfl;exact rfl;exact rfl;exact rfl;exact rfl;exact rfl;omega;omega)
   | (apply TO.slice_lo tabOk;exact rfl;exact rfl;exact rfl;exact rfl;exact rfl;omega)
   | (apply TO.slice_hi tabOk;exact rfl;exact rfl;exact rfl;exact rfl;exact rfl;omega)
   | (apply TO.not;exact rfl;exact rfl)
   | (apply TO.nilCheck_fn;exact rfl;exact rfl)
   | (apply TO.load_agg tabOk;exact rfl;exact rfl;exact rfl;exact rfl;exact Nat.le_of_ble_eq_true rfl)
   | (apply TO.load_ref_agg tabOk;exact rfl;exact rfl;exact rfl;exact rfl;exact rfl;exact Nat.le_of_ble_eq_true rfl)
   | (apply TO.len_ms tabOk;exact rfl;exact rfl;exact rfl;exact rfl)
   | (apply TO.buildT tabOk;exact rfl;exact rfl;exact rfl;exact rfl;exact rfl;exact rfl;exact rfl)
   | (apply TO.build tabOk;exact rfl;exact rfl;exact rfl;exact rfl;exact rfl;exact rfl)
   | (apply TO.box;exact rfl;exact rfl;exact rfl;exact rfl)
   | (apply TO.alloc tabOk;exact rfl;exact rfl;exact rfl)
   | (apply TO.store tabOk;exact rfl;exact rfl;exact rfl;exact rfl;exact rfl;exact rfl;exact Nat.le_of_ble_eq_true rfl;exact rfl;exact Nat.le_of_ble_eq_true rfl;exact rfl)
   | (apply TO.buildSliceB tabOk;exact rfl;exact rfl;exact rfl;exact rfl;exact rfl;exact rfl;exact rfl;exact rfl;exact rfl;exact rfl)
   | (apply TO.appendB tabOk;exact rfl;exact rfl;exact rfl;exact rfl;exact rfl;exact rfl;exact rfl;exact rfl;exact rfl;exact rfl;exact rfl;exact rfl;exact rfl;(first|omega|(simp only[List.length_append,List.length_cons,List.length_nil];omega));exact rfl)
   | (apply TO.eqb;exact rfl;exact rfl;exact rfl;kernel_rfl)
   | (apply TO.neb;exact rfl;exact rfl;exact rfl;kernel_rfl)
   | (apply TO.elem_nat (j:=0) tabOk;exact rfl;exact rfl;exact rfl;exact rfl;exact rfl;exact rfl;exact rfl;exact rfl;exact rfl;exact rfl)
   | (apply TO.makeFunc;exact rfl;exact rfl)
   | (apply TO.fieldAddr_tref tabOk;exact rfl;exact rfl;exact rfl;exact rfl;exact rfl;decide;exact rfl)
   | (apply TO.eq_nil_ptr tabOk;exact rfl;exact rfl;exact rfl;exact rfl;exact rfl)
   | (apply TO.eq_nil_nil tabOk;exact rfl;exact rfl;exact rfl;exact rfl)
   | (apply TO.ne_nil_ptr tabOk;exact rfl;exact rfl;exact rfl;exact rfl;exact rfl)
   | (apply TO.ne_nil_nil tabOk;exact rfl;exact rfl;exact rfl;exact rfl)
   | (apply TO.ssl2 tabOk;exact rfl;exact rfl;exact rfl;exact rfl;exact rfl;exact rfl;exact rfl;exact rfl;exact rfl;omega;omega)
   | (apply TO.ssl_lo tabOk;exact rfl;exact rfl;exact rfl;exact rfl;exact rfl;exact rfl;exact rfl;exact rfl;omega)
   | (apply TO.ssl_hi tabOk;exact rfl;exact rfl;exact rfl;exact rfl;exact rfl;exact rfl;exact rfl;exact rfl;omega))
  ·refine LoopK.next (k+1) ⟨by omega,hlt,?_⟩ (by omega) ⟨rfl,rfl,rfl,trivial⟩ rfl
   rw[h3,List.drop_eq_getElem_cons hlt,List.take_succ_eq_append_getElem hlt,List.drop_append_of_le_length (by simp;omega)]
   simp[spanOf,hc]
  ·have:spanOf p (s.drop k)=[]:=by rw[List.drop_eq_getElem_cons hlt];simp[spanOf,hc]
   rw[this,List.append_nil]at h3
   refine RetK.keep 1 rfl (Le.refl _) rfl rfl rfl rfl rfl ⟨by rw[h3];rfl,?_⟩
   rw[h3]
   simp only[List.length_drop,List.length_take]
   rw[show i+(min k s.length-i)=k from by omega];rfl
 ·repeat' (first
   | (apply TO.move;exact rfl;exact rfl)
   | (apply TO.assign;exact rfl;exact rfl)
   | (apply TO.want;exact rfl)
   | (apply TO.add;exact rfl;exact rfl;exact rfl;omega;omega)
   | (apply TO.cat;exact rfl;exact rfl;exact rfl;(first|omega|(simp only[List.length_append,List.length_cons,List.length_nil];omega)))
   | (apply TO.eqs;exact rfl;exact rfl;exact rfl)
   | (apply TO.nes;exact rfl;exact rfl;exact rfl)
   | (apply TO.cmp;exact rfl;exact rfl;exact rfl;exact rfl)
   | (intro hc;exact absurd hc (by decide))
   | (intro hc;exfalso;simp only[decide_eq_true_eq,decide_eq_false_iff_not,beq_iff_eq,beq_eq_false_iff_ne,bne_iff_ne,bne_eq_false_iff_eq,ne_eq,Decidable.not_not,not_true_eq_false]at hc;done)
   | (intro hc;exfalso;(first|simp only[decide_eq_true_eq,decide_eq_false_iff_not,beq_iff_eq,beq_eq_false_iff_ne,bne_iff_ne,bne_eq_false_iff_eq,ne_eq,Decidable.not_not,not_true_eq_false]at hc|skip);first|omega|(simp only[List.length_nil,List.length_cons]at *;omega))
   | intro hc
   | (apply TO.pick;exact rfl;exact rfl;exact rfl)
   | (apply TO.pass;exact rfl;exact rfl)
   | (apply TO.pass0;exact rfl)
   | (apply TO.load tabOk;exact rfl;exact rfl;exact rfl;exact rfl;exact rfl)
   | (apply TO.load_ref tabOk;exact rfl;exact rfl;exact rfl;exact rfl;exact rfl;exact rfl)
   | (apply TO.fieldAddr tabOk;exact rfl;exact rfl;exact rfl;exact rfl;exact rfl;decide;exact rfl)
   | (apply TO.fieldAddr_ref tabOk;exact rfl;exact rfl;exact rfl;exact rfl;exact rfl;decide;exact rfl)
   | (apply TO.nilCheck;exact rfl;exact rfl;exact rfl)
   | (apply TO.index_nat tabOk;exact rfl;exact rfl;exact rfl;exact rfl;exact rfl;assumption)
   | (apply TO.index_str tabOk;exact rfl;exact rfl;exact rfl;exact rfl;exact rfl;decide;exact rfl)
   | (apply TO.len_str tabOk;exact rfl;exact rfl;exact rfl;exact rfl)
   | (apply TO.len_sl tabOk;exact rfl;exact rfl;exact rfl;exact rfl;exact rfl;exact rfl;exact rfl)
   | (apply TO.elem_nat tabOk;exact rfl;exact rfl;exact rfl;exact rfl;exact rfl;exact rfl;exact rfl;exact rfl;assumption;exact rfl)
   | (apply TO.extract;exact rfl;exact rfl;exact rfl)
   | (apply TO.callBb (hp _);exact rfl;exact rfl;exact rfl;exact⟨.t _,trivial⟩)
   | refine TO.nil ?_
   | refine TR.seq ?_
   | refine TR.region ?_
   | (apply TR.condT;exact rfl)
   | (apply TR.condF;exact rfl)
   | refine Then.normal ?_
   | refine TR.block ?_
   | refine TR.skip ?_
   | (apply TR.regionQ hmix;kernel_rfl;exact rfl)
   | refine TR.exit ?_
   | refine TR.ret ?_
   | refine Then.exit ?_
   | refine Then.ret ?_
   | refine LoopK.exit ?_
   | refine LoopK.ret ?_
   | refine InBlock.normal ?_
   | refine InBlock.ret ?_
   | (apply InBlock.same;exact rfl)
   | (apply InBlock.other;exact rfl)
   | (apply TO.sub64;exact rfl;exact rfl;exact rfl;omega;omega)
   | (apply TO.mul64;exact rfl;exact rfl;exact rfl;omega;omega)
   | (apply TO.convert_u8;exact rfl;kernel_rfl;kernel_rfl;exact rfl)
   | (apply TO.bin;exact rfl;exact rfl;exact rfl;exact rfl)
   | (apply TO.slice2 tabOk;exact rfl;exact rfl;exact rfl;exact rfl;exact rfl;exact rfl;omega;omega)
   | (apply TO.slice_lo tabOk;exact rfl;exact rfl;exact rfl;exact rfl;exact rfl;omega)
   | (apply TO.slice_hi tabOk;exact rfl;exact rfl;exact rfl;exact rfl;exact rfl;omega)
   | (apply TO.not;exact rfl;exact rfl)
   | (apply TO.nilCheck_fn;exact rfl;exact rfl)
   | (apply TO.load_agg tabOk;exact rfl;exact rfl;exact rfl;exact rfl;exact Nat.le_of_ble_eq_true rfl)
   | (apply TO.load_ref_agg tabOk;exact rfl;exact rfl;exact rfl;exact rfl;exact rfl;exact Nat.le_of_ble_eq_true rfl)
   | (apply TO.len_ms tabOk;exact rfl;exact rfl;exact rfl;exact rfl)
   | (apply TO.buildT tabOk;exact rfl;exact rfl;exact rfl;exact rfl;exact rfl;exact rfl;exact rfl)
   | (apply TO.build tabOk;exact rfl;exact rfl;exact rfl;exact rfl;exact rfl;exact rfl)
   | (apply TO.box;exact rfl;exact rfl;exact rfl;exact rfl)
   | (apply TO.alloc tabOk;exact rfl;exact rfl;exact rfl)
   | (apply TO.store tabOk;exact rfl;exact rfl;exact rfl;exact rfl;exact rfl;exact rfl;exact Nat.le_of_ble_eq_true rfl;exact rfl;exact Nat.le_of_ble_eq_true rfl;exact rfl)
   | (apply TO.buildSliceB tabOk;exact rfl;exact rfl;exact rfl;exact rfl;exact rfl;exact rfl;exact rfl;exact rfl;exact rfl;exact rfl)
   | (apply TO.appendB tabOk;exact rfl;exact rfl;exact rfl;exact rfl;exact rfl;exact rfl;exact rfl;exact rfl;exact rfl;exact rfl;exact rfl;exact rfl;exact rfl;(first|omega|(simp only[List.length_append,List.length_cons,List.length_nil];omega));exact rfl)
   | (apply TO.eqb;exact rfl;exact rfl;exact rfl;kernel_rfl)
   | (apply TO.neb;exact rfl;exact rfl;exact rfl;kernel_rfl)
   | (apply TO.elem_nat (j:=0) tabOk;exact rfl;exact rfl;exact rfl;exact rfl;exact rfl;exact rfl;exact rfl;exact rfl;exact rfl;exact rfl)
   | (apply TO.makeFunc;exact rfl;exact rfl)
   | (apply TO.fieldAddr_tref tabOk;exact rfl;exact rfl;exact rfl;exact rfl;exact rfl;decide;exact rfl)
   | (apply TO.eq_nil_ptr tabOk;exact rfl;exact rfl;exact rfl;exact rfl;exact rfl)
   | (apply TO.eq_nil_nil tabOk;exact rfl;exact rfl;exact rfl;exact rfl)
   | (apply TO.ne_nil_ptr tabOk;exact rfl;exact rfl;exact rfl;exact rfl;exact rfl)
   | (apply TO.ne_nil_nil tabOk;exact rfl;exact rfl;exact rfl;exact rfl)
   | (apply TO.ssl2 tabOk;exact rfl;exact rfl;exact rfl;exact rfl;exact rfl;exact rfl;exact rfl;exact rfl;exact rfl;omega;omega)
   | (apply TO.ssl_lo tabOk;exact rfl;exact rfl;exact rfl;exact rfl;exact rfl;exact rfl;exact rfl;exact rfl;omega)
   | (apply TO.ssl_hi tabOk;exact rfl;exact rfl;exact rfl;exact rfl;exact rfl;exact rfl;exact rfl;exact rfl;omega))
  have:spanOf p (s.drop k)=[]:=by rw[List.drop_eq_nil_of_le (by omega)];rfl
  rw[this,List.append_nil]at h3
  refine RetK.keep 1 rfl (Le.refl _) rfl rfl rfl rfl rfl ⟨by rw[h3];rfl,?_⟩
  rw[h3]
  simp only[List.length_drop,List.length_take]
  rw[show i+(min k s.length-i)=k from by omega];rfl
def hasPre(a b:Str):Bool:=decide (b.length≤a.length) && a.take b.length == b
set_option maxHeartbeats 400000 in
theorem hasPre0_sound (a b:Str):Pure Tryz.prog 85 [.s a,.s b] (.b (hasPre a b)):=by
 refine so Tryz.func85 ?_
 by_cases h:b.length≤a.length
 ·repeat' (first
   | (apply TO.move;exact rfl;exact rfl)
   | (apply TO.assign;exact rfl;exact rfl)
   | (apply TO.want;exact rfl)
   | (apply TO.add;exact rfl;exact rfl;exact rfl;omega;omega)
   | (apply TO.cat;exact rfl;exact rfl;exact rfl;(first|omega|(simp only[List.length_append,List.length_cons,List.length_nil];omega)))
   | (apply TO.eqs;exact rfl;exact rfl;exact rfl)
   | (apply TO.nes;exact rfl;exact rfl;exact rfl)
   | (apply TO.cmp;exact rfl;exact rfl;exact rfl;exact rfl)
   | (intro hc;exact absurd hc (by decide))
   | (intro hc;exfalso;simp only[decide_eq_true_eq,decide_eq_false_iff_not,beq_iff_eq,beq_eq_false_iff_ne,bne_iff_ne,bne_eq_false_iff_eq,ne_eq,Decidable.not_not,not_true_eq_false]at hc;done)
   | (intro hc;exfalso;(first|simp only[decide_eq_true_eq,decide_eq_false_iff_not,beq_iff_eq,beq_eq_false_iff_ne,bne_iff_ne,bne_eq_false_iff_eq,ne_eq,Decidable.not_not,not_true_eq_false]at hc|skip);first|omega|(simp only[List.length_nil,List.length_cons]at *;omega))
   | intro hc
   | (apply TO.pick;exact rfl;exact rfl;exact rfl)
   | (apply TO.pass;exact rfl;exact rfl)
   | (apply TO.pass0;exact rfl)
   | (apply TO.load tabOk;exact rfl;exact rfl;exact rfl;exact rfl;exact rfl)
   | (apply TO.load_ref tabOk;exact rfl;exact rfl;exact rfl;exact rfl;exact rfl;exact rfl)
   | (apply TO.fieldAddr tabOk;exact rfl;exact rfl;exact rfl;exact rfl;exact rfl;decide;exact rfl)
   | (apply TO.fieldAddr_ref tabOk;exact rfl;exact rfl;exact rfl;exact rfl;exact rfl;decide;exact rfl)
   | (apply TO.nilCheck;exact rfl;exact rfl;exact rfl)
   | (apply TO.index_nat tabOk;exact rfl;exact rfl;exact rfl;exact rfl;exact rfl;assumption)
   | (apply TO.index_str tabOk;exact rfl;exact rfl;exact rfl;exact rfl;exact rfl;decide;exact rfl)
   | (apply TO.len_str tabOk;exact rfl;exact rfl;exact rfl;exact rfl)
   | (apply TO.len_sl tabOk;exact rfl;exact rfl;exact rfl;exact rfl;exact rfl;exact rfl;exact rfl)
   | (apply TO.elem_nat tabOk;exact rfl;exact rfl;exact rfl;exact rfl;exact rfl;exact rfl;exact rfl;exact rfl;assumption;exact rfl)
   | (apply TO.extract;exact rfl;exact rfl;exact rfl)
   | refine TO.nil ?_
   | refine TR.seq ?_
   | refine TR.region ?_
   | (apply TR.condT;exact rfl)
   | (apply TR.condF;exact rfl)
   | refine Then.normal ?_
   | refine TR.block ?_
   | refine TR.skip ?_
   | (apply TR.regionQ hmix;kernel_rfl;exact rfl)
   | refine TR.exit ?_
   | refine TR.ret ?_
   | refine Then.exit ?_
   | refine Then.ret ?_
   | refine LoopK.exit ?_
   | refine LoopK.ret ?_
   | refine InBlock.normal ?_
   | refine InBlock.ret ?_
   | (apply InBlock.same;exact rfl)
   | (apply InBlock.other;exact rfl)
   | (apply TO.sub64;exact rfl;exact rfl;exact rfl;omega;omega)
   | (apply TO.mul64;exact rfl;exact rfl;exact rfl;omega;omega)
   | (apply TO.convert_u8;exact rfl;kernel_rfl;kernel_rfl;exact rfl)
   | (apply TO.bin;exact rfl;exact rfl;exact rfl;exact rfl)
   | (apply TO.slice2 tabOk;exact rfl;exact rfl;exact rfl;exact rfl;exact rfl;exact rfl;omega;omega)
   | (apply TO.slice_lo tabOk;exact rfl;exact rfl;exact rfl;exact rfl;exact rfl;omega)
   | (apply TO.slice_hi tabOk;exact rfl;exact rfl;exact rfl;exact rfl;exact rfl;omega)
   | (apply TO.not;exact rfl;exact rfl)
   | (apply TO.nilCheck_fn;exact rfl;exact rfl)
   | (apply TO.load_agg tabOk;exact rfl;exact rfl;exact rfl;exact rfl;exact Nat.le_of_ble_eq_true rfl)
   | (apply TO.load_ref_agg tabOk;exact rfl;exact rfl;exact rfl;exact rfl;exact rfl;exact Nat.le_of_ble_eq_true rfl)
   | (apply TO.len_ms tabOk;exact rfl;exact rfl;exact rfl;exact rfl)
   | (apply TO.buildT tabOk;exact rfl;exact rfl;exact rfl;exact rfl;exact rfl;exact rfl;exact rfl)
   | (apply TO.build tabOk;exact rfl;exact rfl;exact rfl;exact rfl;exact rfl;exact rfl)
   | (apply TO.box;exact rfl;exact rfl;exact rfl;exact rfl)
   | (apply TO.alloc tabOk;exact rfl;exact rfl;exact rfl)
   | (apply TO.store tabOk;exact rfl;exact rfl;exact rfl;exact rfl;exact rfl;exact rfl;exact Nat.le_of_ble_eq_true rfl;exact rfl;exact Nat.le_of_ble_eq_true rfl;exact rfl)
   | (apply TO.buildSliceB tabOk;exact rfl;exact rfl;exact rfl;exact rfl;exact rfl;exact rfl;exact rfl;exact rfl;exact rfl;exact rfl)
   | (apply TO.appendB tabOk;exact rfl;exact rfl;exact rfl;exact rfl;exact rfl;exact rfl;exact rfl;exact rfl;exact rfl;exact rfl;exact rfl;exact rfl;exact rfl;(first|omega|(simp only[List.length_append,List.length_cons,List.length_nil];omega));exact rfl)
   | (apply TO.eqb;exact rfl;exact rfl;exact rfl;kernel_rfl)
   | (apply TO.neb;exact rfl;exact rfl;exact rfl;kernel_rfl)
   | (apply TO.elem_nat (j:=0) tabOk;exact rfl;exact rfl;exact rfl;exact rfl;exact rfl;exact rfl;exact rfl;exact rfl;exact rfl;exact rfl)
   | (apply TO.makeFunc;exact rfl;exact rfl)
   | (apply TO.fieldAddr_tref tabOk;exact rfl;exact rfl;exact rfl;exact rfl;exact rfl;decide;exact rfl)
   | (apply TO.eq_nil_ptr tabOk;exact rfl;exact rfl;exact rfl;exact rfl;exact rfl)
   | (apply TO.eq_nil_nil tabOk;exact rfl;exact rfl;exact rfl;exact rfl)
   | (apply TO.ne_nil_ptr tabOk;exact rfl;exact rfl;exact rfl;exact rfl;exact rfl)
   | (apply TO.ne_nil_nil tabOk;exact rfl;exact rfl;exact rfl;exact rfl)
   | (apply TO.ssl2 tabOk;exact rfl;exact rfl;exact rfl;exact rfl;exact rfl;exact rfl;exact rfl;exact rfl;exact rfl;omega;omega)
   | (apply TO.ssl_lo tabOk;exact rfl;exact rfl;exact rfl;exact rfl;exact rfl;exact rfl;exact rfl;exact rfl;omega)
   | (apply TO.ssl_hi tabOk;exact rfl;exact rfl;exact rfl;exact rfl;exact rfl;exact rfl;exact rfl;exact rfl;omega))
  all_goals try(refine RetK.pure rfl ?_ rfl;exact Le.of_eq (by simp_all [pack,hasPre] <;> omega))
 ·repeat' (first
   | (apply TO.move;exact rfl;exact rfl)
   | (apply TO.assign;exact rfl;exact rfl)
   | (apply TO.want;exact rfl)
   | (apply TO.add;exact rfl;exact rfl;exact rfl;omega;omega)
   | (apply TO.cat;exact rfl;exact rfl;exact rfl;(first|omega|(simp only[List.length_append,List.length_cons,List.length_nil];omega)))
   | (apply TO.eqs;exact rfl;exact rfl;exact rfl)
   | (apply TO.nes;exact rfl;exact rfl;exact rfl)
   | (apply TO.cmp;exact rfl;exact rfl;exact rfl;exact rfl)
   | (intro hc;exact absurd hc (by decide))
   | (intro hc;exfalso;simp only[decide_eq_true_eq,decide_eq_false_iff_not,beq_iff_eq,beq_eq_false_iff_ne,bne_iff_ne,bne_eq_false_iff_eq,ne_eq,Decidable.not_not,not_true_eq_false]at hc;done)
   | (intro hc;exfalso;(first|simp only[decide_eq_true_eq,decide_eq_false_iff_not,beq_iff_eq,beq_eq_false_iff_ne,bne_iff_ne,bne_eq_false_iff_eq,ne_eq,Decidable.not_not,not_true_eq_false]at hc|skip);first|omega|(simp only[List.length_nil,List.length_cons]at *;omega))
   | intro hc
   | (apply TO.pick;exact rfl;exact rfl;exact rfl)
   | (apply TO.pass;exact rfl;exact rfl)
   | (apply TO.pass0;exact rfl)
   | (apply TO.load tabOk;exact rfl;exact rfl;exact rfl;exact rfl;exact rfl)
   | (apply TO.load_ref tabOk;exact rfl;exact rfl;exact rfl;exact rfl;exact rfl;exact rfl)
   | (apply TO.fieldAddr tabOk;exact rfl;exact rfl;exact rfl;exact rfl;exact rfl;decide;exact rfl)
   | (apply TO.fieldAddr_ref tabOk;exact rfl;exact rfl;exact rfl;exact rfl;exact rfl;decide;exact rfl)
   | (apply TO.nilCheck;exact rfl;exact rfl;exact rfl)
   | (apply TO.index_nat tabOk;exact rfl;exact rfl;exact rfl;exact rfl;exact rfl;assumption)
   | (apply TO.index_str tabOk;exact rfl;exact rfl;exact rfl;exact rfl;exact rfl;decide;exact rfl)
   | (apply TO.len_str tabOk;exact rfl;exact rfl;exact rfl;exact rfl)
   | (apply TO.len_sl tabOk;exact rfl;exact rfl;exact rfl;exact rfl;exact rfl;exact rfl;exact rfl)
   | (apply TO.elem_nat tabOk;exact rfl;exact rfl;exact rfl;exact rfl;exact rfl;exact rfl;exact rfl;exact rfl;assumption;exact rfl)
   | (apply TO.extract;exact rfl;exact rfl;exact rfl)
   | refine TO.nil ?_
   | refine TR.seq ?_
   | refine TR.region ?_
   | (apply TR.condT;exact rfl)
   | (apply TR.condF;exact rfl)
   | refine Then.normal ?_
   | refine TR.block ?_
   | refine TR.skip ?_
   | (apply TR.regionQ hmix;kernel_rfl;exact rfl)
   | refine TR.exit ?_
   | refine TR.ret ?_
   | refine Then.exit ?_
   | refine Then.ret ?_
   | refine LoopK.exit ?_
   | refine LoopK.ret ?_
   | refine InBlock.normal ?_
   | refine InBlock.ret ?_
   | (apply InBlock.same;exact rfl)
   | (apply InBlock.other;exact rfl)
   | (apply TO.sub64;exact rfl;exact rfl;exact rfl;omega;omega)
   | (apply TO.mul64;exact rfl;exact rfl;exact rfl;omega;omega)
   | (apply TO.convert_u8;exact rfl;kernel_rfl;kernel_rfl;exact rfl)
   | (apply TO.bin;exact rfl;exact rfl;exact rfl;exact rfl)
   | (apply TO.slice2 tabOk;exact rfl;exact rfl;exact rfl;exact rfl;exact rfl;exact rfl;omega;omega)
   | (apply TO.slice_lo tabOk;exact rfl;exact rfl;exact rfl;exact rfl;exact rfl;omega)
   | (apply TO.slice_hi tabOk;exact rfl;exact rfl;exact rfl;exact rfl;exact rfl;omega)
   | (apply TO.not;exact rfl;exact rfl)
   | (apply TO.nilCheck_fn;exact rfl;exact rfl)
   | (apply TO.load_agg tabOk;exact rfl;exact rfl;exact rfl;exact rfl;exact Nat.le_of_ble_eq_true rfl)
   | (apply TO.load_ref_agg tabOk;exact rfl;exact rfl;exact rfl;exact rfl;exact rfl;exact Nat.le_of_ble_eq_true rfl)
   | (apply TO.len_ms tabOk;exact rfl;exact rfl;exact rfl;exact rfl)
   | (apply TO.buildT tabOk;exact rfl;exact rfl;exact rfl;exact rfl;exact rfl;exact rfl;exact rfl)
   | (apply TO.build tabOk;exact rfl;exact rfl;exact rfl;exact rfl;exact rfl;exact rfl)
   | (apply TO.box;exact rfl;exact rfl;exact rfl;exact rfl)
   | (apply TO.alloc tabOk;exact rfl;exact rfl;exact rfl)
   | (apply TO.store tabOk;exact rfl;exact rfl;exact rfl;exact rfl;exact rfl;exact rfl;exact Nat.le_of_ble_eq_true rfl;exact rfl;exact Nat.le_of_ble_eq_true rfl;exact rfl)
   | (apply TO.buildSliceB tabOk;exact rfl;exact rfl;exact rfl;exact rfl;exact rfl;exact rfl;exact rfl;exact rfl;exact rfl;exact rfl)
   | (apply TO.appendB tabOk;exact rfl;exact rfl;exact rfl;exact rfl;exact rfl;exact rfl;exact rfl;exact rfl;exact rfl;exact rfl;exact rfl;exact rfl;exact rfl;(first|omega|(simp only[List.length_append,List.length_cons,List.length_nil];omega));exact rfl)
   | (apply TO.eqb;exact rfl;exact rfl;exact rfl;kernel_rfl)
   | (apply TO.neb;exact rfl;exact rfl;exact rfl;kernel_rfl)
   | (apply TO.elem_nat (j:=0) tabOk;exact rfl;exact rfl;exact rfl;exact rfl;exact rfl;exact rfl;exact rfl;exact rfl;exact rfl;exact rfl)
   | (apply TO.makeFunc;exact rfl;exact rfl)
   | (apply TO.fieldAddr_tref tabOk;exact rfl;exact rfl;exact rfl;exact rfl;exact rfl;decide;exact rfl)
   | (apply TO.eq_nil_ptr tabOk;exact rfl;exact rfl;exact rfl;exact rfl;exact rfl)
   | (apply TO.eq_nil_nil tabOk;exact rfl;exact rfl;exact rfl;exact rfl)
   | (apply TO.ne_nil_ptr tabOk;exact rfl;exact rfl;exact rfl;exact rfl;exact rfl)
   | (apply TO.ne_nil_nil tabOk;exact rfl;exact rfl;exact rfl;exact rfl)
   | (apply TO.ssl2 tabOk;exact rfl;exact rfl;exact rfl;exact rfl;exact rfl;exact rfl;exact rfl;exact rfl;exact rfl;omega;omega)
   | (apply TO.ssl_lo tabOk;exact rfl;exact rfl;exact rfl;exact rfl;exact rfl;exact rfl;exact rfl;exact rfl;omega)
   | (apply TO.ssl_hi tabOk;exact rfl;exact rfl;exact rfl;exact rfl;exact rfl;exact rfl;exact rfl;exact rfl;omega))
  all_goals try(refine RetK.pure rfl ?_ rfl;exact Le.of_eq (by simp_all [pack,hasPre] <;> omega))
set_option maxHeartbeats 400000 in
theorem hasPre_sound (a b:Str):Pure Tryz.prog 58 [.s a,.s b] (.b (hasPre a b)):=by
 refine so Tryz.func58 ?_
 repeat' (first
  | (apply TO.move;exact rfl;exact rfl)
  | (apply TO.assign;exact rfl;exact rfl)
  | (apply TO.want;exact rfl)
  | (apply TO.add;exact rfl;exact rfl;exact rfl;omega;omega)
  | (apply TO.cat;exact rfl;exact rfl;exact rfl;(first|omega|(simp only[List.length_append,List.length_cons,List.length_nil];omega)))
  | (apply TO.eqs;exact rfl;exact rfl;exact rfl)
  | (apply TO.nes;exact rfl;exact rfl;exact rfl)
  | (apply TO.cmp;exact rfl;exact rfl;exact rfl;exact rfl)
  | (intro hc;exact absurd hc (by decide))
  | (intro hc;exfalso;simp only[decide_eq_true_eq,decide_eq_false_iff_not,beq_iff_eq,beq_eq_false_iff_ne,bne_iff_ne,bne_eq_false_iff_eq,ne_eq,Decidable.not_not,not_true_eq_false]at hc;done)
  | (intro hc;exfalso;(first|simp only[decide_eq_true_eq,decide_eq_false_iff_not,beq_iff_eq,beq_eq_false_iff_ne,bne_iff_ne,bne_eq_false_iff_eq,ne_eq,Decidable.not_not,not_true_eq_false]at hc|skip);first|omega|(simp only[List.length_nil,List.length_cons]at *;omega))
  | intro hc
  | (apply TO.pick;exact rfl;exact rfl;exact rfl)
  | (apply TO.pass;exact rfl;exact rfl)
  | (apply TO.pass0;exact rfl)
  | (apply TO.load tabOk;exact rfl;exact rfl;exact rfl;exact rfl;exact rfl)
  | (apply TO.load_ref tabOk;exact rfl;exact rfl;exact rfl;exact rfl;exact rfl;exact rfl)
  | (apply TO.fieldAddr tabOk;exact rfl;exact rfl;exact rfl;exact rfl;exact rfl;decide;exact rfl)
  | (apply TO.fieldAddr_ref tabOk;exact rfl;exact rfl;exact rfl;exact rfl;exact rfl;decide;exact rfl)
  | (apply TO.nilCheck;exact rfl;exact rfl;exact rfl)
  | (apply TO.index_nat tabOk;exact rfl;exact rfl;exact rfl;exact rfl;exact rfl;assumption)
  | (apply TO.index_str tabOk;exact rfl;exact rfl;exact rfl;exact rfl;exact rfl;decide;exact rfl)
  | (apply TO.len_str tabOk;exact rfl;exact rfl;exact rfl;exact rfl)
  | (apply TO.len_sl tabOk;exact rfl;exact rfl;exact rfl;exact rfl;exact rfl;exact rfl;exact rfl)
  | (apply TO.elem_nat tabOk;exact rfl;exact rfl;exact rfl;exact rfl;exact rfl;exact rfl;exact rfl;exact rfl;assumption;exact rfl)
  | (apply TO.extract;exact rfl;exact rfl;exact rfl)
  | (apply TO.callBb (hasPre0_sound _ _);exact rfl;exact rfl;exact rfl;exact⟨.t _,.t _,trivial⟩)
  | refine TO.nil ?_
  | refine TR.seq ?_
  | refine TR.region ?_
  | (apply TR.condT;exact rfl)
  | (apply TR.condF;exact rfl)
  | refine Then.normal ?_
  | refine TR.block ?_
  | refine TR.skip ?_
  | (apply TR.regionQ hmix;kernel_rfl;exact rfl)
  | refine TR.exit ?_
  | refine TR.ret ?_
  | refine Then.exit ?_
  | refine Then.ret ?_
  | refine LoopK.exit ?_
  | refine LoopK.ret ?_
  | refine InBlock.normal ?_
  | refine InBlock.ret ?_
  | (apply InBlock.same;exact rfl)
  | (apply InBlock.other;exact rfl)
  | (apply TO.sub64;exact rfl;exact rfl;exact rfl;omega;omega)
  | (apply TO.mul64;exact rfl;exact rfl;exact rfl;omega;omega)
  | (apply TO.convert_u8;exact rfl;kernel_rfl;kernel_rfl;exact rfl)
  | (apply TO.bin;exact rfl;exact rfl;exact rfl;exact rfl)
  | (apply TO.slice2 tabOk;exact rfl;exact rfl;exact rfl;exact rfl;exact rfl;exact rfl;omega;omega)
  | (apply TO.slice_lo tabOk;exact rfl;exact rfl;exact rfl;exact rfl;exact rfl;omega)
  | (apply TO.slice_hi tabOk;exact rfl;exact rfl;exact rfl;exact rfl;exact rfl;omega)
  | (apply TO.not;exact rfl;exact rfl)
  | (apply TO.nilCheck_fn;exact rfl;exact rfl)
  | (apply TO.load_agg tabOk;exact rfl;exact rfl;exact rfl;exact rfl;exact Nat.le_of_ble_eq_true rfl)
  | (apply TO.load_ref_agg tabOk;exact rfl;exact rfl;exact rfl;exact rfl;exact rfl;exact Nat.le_of_ble_eq_true rfl)
  | (apply TO.len_ms tabOk;exact rfl;exact rfl;exact rfl;exact rfl)
  | (apply TO.buildT tabOk;exact rfl;exact rfl;exact rfl;exact rfl;exact rfl;exact rfl;exact rfl)
  | (apply TO.build tabOk;exact rfl;exact rfl;exact rfl;exact rfl;exact rfl;exact rfl)
  | (apply TO.box;exact rfl;exact rfl;exact rfl;exact rfl)
  | (apply TO.alloc tabOk;exact rfl;exact rfl;exact rfl)
  | (apply TO.store tabOk;exact rfl;exact rfl;exact rfl;exact rfl;exact rfl;exact rfl;exact Nat.le_of_ble_eq_true rfl;exact rfl;exact Nat.le_of_ble_eq_true rfl;exact rfl)
  | (apply TO.buildSliceB tabOk;exact rfl;exact rfl;exact rfl;exact rfl;exact rfl;exact rfl;exact rfl;exact rfl;exact rfl;exact rfl)
  | (apply TO.appendB tabOk;exact rfl;exact rfl;exact rfl;exact rfl;exact rfl;exact rfl;exact rfl;exact rfl;exact rfl;exact rfl;exact rfl;exact rfl;exact rfl;(first|omega|(simp only[List.length_append,List.length_cons,List.length_nil];omega));exact rfl)
  | (apply TO.eqb;exact rfl;exact rfl;exact rfl;kernel_rfl)
  | (apply TO.neb;exact rfl;exact rfl;exact rfl;kernel_rfl)
  | (apply TO.elem_nat (j:=0) tabOk;exact rfl;exact rfl;exact rfl;exact rfl;exact rfl;exact rfl;exact rfl;exact rfl;exact rfl;exact rfl)
  | (apply TO.makeFunc;exact rfl;exact rfl)
  | (apply TO.fieldAddr_tref tabOk;exact rfl;exact rfl;exact rfl;exact rfl;exact rfl;decide;exact rfl)
  | (apply TO.eq_nil_ptr tabOk;exact rfl;exact rfl;exact rfl;exact rfl;exact rfl)
  | (apply TO.eq_nil_nil tabOk;exact rfl;exact rfl;exact rfl;exact rfl)
  | (apply TO.ne_nil_ptr tabOk;exact rfl;exact rfl;exact rfl;exact rfl;exact rfl)
  | (apply TO.ne_nil_nil tabOk;exact rfl;exact rfl;exact rfl;exact rfl)
  | (apply TO.ssl2 tabOk;exact rfl;exact rfl;exact rfl;exact rfl;exact rfl;exact rfl;exact rfl;exact rfl;exact rfl;omega;omega)
  | (apply TO.ssl_lo tabOk;exact rfl;exact rfl;exact rfl;exact rfl;exact rfl;exact rfl;exact rfl;exact rfl;omega)
  | (apply TO.ssl_hi tabOk;exact rfl;exact rfl;exact rfl;exact rfl;exact rfl;exact rfl;exact rfl;exact rfl;omega))
 all_goals try(refine RetK.pure rfl ?_ rfl;exact Le.of_eq (by simp_all [pack,hasPre0_sound] <;> omega))
set_option maxHeartbeats 400000 in
theorem skip1_sound (c:Int):Pure Tryz.prog 59 [u8 c] (.b (c != 10)):=by
 refine so Tryz.func59 ?_
 repeat' (first
  | (apply TO.move;exact rfl;exact rfl)
  | (apply TO.assign;exact rfl;exact rfl)
  | (apply TO.want;exact rfl)
  | (apply TO.add;exact rfl;exact rfl;exact rfl;omega;omega)
  | (apply TO.cat;exact rfl;exact rfl;exact rfl;(first|omega|(simp only[List.length_append,List.length_cons,List.length_nil];omega)))
  | (apply TO.eqs;exact rfl;exact rfl;exact rfl)
  | (apply TO.nes;exact rfl;exact rfl;exact rfl)
  | (apply TO.cmp;exact rfl;exact rfl;exact rfl;exact rfl)
  | (intro hc;exact absurd hc (by decide))
  | (intro hc;exfalso;simp only[decide_eq_true_eq,decide_eq_false_iff_not,beq_iff_eq,beq_eq_false_iff_ne,bne_iff_ne,bne_eq_false_iff_eq,ne_eq,Decidable.not_not,not_true_eq_false]at hc;done)
  | (intro hc;exfalso;(first|simp only[decide_eq_true_eq,decide_eq_false_iff_not,beq_iff_eq,beq_eq_false_iff_ne,bne_iff_ne,bne_eq_false_iff_eq,ne_eq,Decidable.not_not,not_true_eq_false]at hc|skip);first|omega|(simp only[List.length_nil,List.length_cons]at *;omega))
  | intro hc
  | (apply TO.pick;exact rfl;exact rfl;exact rfl)
  | (apply TO.pass;exact rfl;exact rfl)
  | (apply TO.pass0;exact rfl)
  | (apply TO.load tabOk;exact rfl;exact rfl;exact rfl;exact rfl;exact rfl)
  | (apply TO.load_ref tabOk;exact rfl;exact rfl;exact rfl;exact rfl;exact rfl;exact rfl)
  | (apply TO.fieldAddr tabOk;exact rfl;exact rfl;exact rfl;exact rfl;exact rfl;decide;exact rfl)
  | (apply TO.fieldAddr_ref tabOk;exact rfl;exact rfl;exact rfl;exact rfl;exact rfl;decide;exact rfl)
  | (apply TO.nilCheck;exact rfl;exact rfl;exact rfl)
  | (apply TO.index_nat tabOk;exact rfl;exact rfl;exact rfl;exact rfl;exact rfl;assumption)
  | (apply TO.index_str tabOk;exact rfl;exact rfl;exact rfl;exact rfl;exact rfl;decide;exact rfl)
  | (apply TO.len_str tabOk;exact rfl;exact rfl;exact rfl;exact rfl)
  | (apply TO.len_sl tabOk;exact rfl;exact rfl;exact rfl;exact rfl;exact rfl;exact rfl;exact rfl)
  | (apply TO.elem_nat tabOk;exact rfl;exact rfl;exact rfl;exact rfl;exact rfl;exact rfl;exact rfl;exact rfl;assumption;exact rfl)
  | (apply TO.extract;exact rfl;exact rfl;exact rfl)
  | refine TO.nil ?_
  | refine TR.seq ?_
  | refine TR.region ?_
  | (apply TR.condT;exact rfl)
  | (apply TR.condF;exact rfl)
  | refine Then.normal ?_
  | refine TR.block ?_
  | refine TR.skip ?_
  | (apply TR.regionQ hmix;kernel_rfl;exact rfl)
  | refine TR.exit ?_
  | refine TR.ret ?_
  | refine Then.exit ?_
  | refine Then.ret ?_
  | refine LoopK.exit ?_
  | refine LoopK.ret ?_
  | refine InBlock.normal ?_
  | refine InBlock.ret ?_
  | (apply InBlock.same;exact rfl)
  | (apply InBlock.other;exact rfl)
  | (apply TO.sub64;exact rfl;exact rfl;exact rfl;omega;omega)
  | (apply TO.mul64;exact rfl;exact rfl;exact rfl;omega;omega)
  | (apply TO.convert_u8;exact rfl;kernel_rfl;kernel_rfl;exact rfl)
  | (apply TO.bin;exact rfl;exact rfl;exact rfl;exact rfl)
  | (apply TO.slice2 tabOk;exact rfl;exact rfl;exact rfl;exact rfl;exact rfl;exact rfl;omega;omega)
  | (apply TO.slice_lo tabOk;exact rfl;exact rfl;exact rfl;exact rfl;exact rfl;omega)
  | (apply TO.slice_hi tabOk;exact rfl;exact rfl;exact rfl;exact rfl;exact rfl;omega)
  | (apply TO.not;exact rfl;exact rfl)
  | (apply TO.nilCheck_fn;exact rfl;exact rfl)
  | (apply TO.load_agg tabOk;exact rfl;exact rfl;exact rfl;exact rfl;exact Nat.le_of_ble_eq_true rfl)
  | (apply TO.load_ref_agg tabOk;exact rfl;exact rfl;exact rfl;exact rfl;exact rfl;exact Nat.le_of_ble_eq_true rfl)
  | (apply TO.len_ms tabOk;exact rfl;exact rfl;exact rfl;exact rfl)
  | (apply TO.buildT tabOk;exact rfl;exact rfl;exact rfl;exact rfl;exact rfl;exact rfl;exact rfl)
  | (apply TO.build tabOk;exact rfl;exact rfl;exact rfl;exact rfl;exact rfl;exact rfl)
  | (apply TO.box;exact rfl;exact rfl;exact rfl;exact rfl)
  | (apply TO.alloc tabOk;exact rfl;exact rfl;exact rfl)
  | (apply TO.store tabOk;exact rfl;exact rfl;exact rfl;exact rfl;exact rfl;exact rfl;exact Nat.le_of_ble_eq_true rfl;exact rfl;exact Nat.le_of_ble_eq_true rfl;exact rfl)
  | (apply TO.buildSliceB tabOk;exact rfl;exact rfl;exact rfl;exact rfl;exact rfl;exact rfl;exact rfl;exact rfl;exact rfl;exact rfl)
  | (apply TO.appendB tabOk;exact rfl;exact rfl;exact rfl;exact rfl;exact rfl;exact rfl;exact rfl;exact rfl;exact rfl;exact rfl;exact rfl;exact rfl;exact rfl;(first|omega|(simp only[List.length_append,List.length_cons,List.length_nil];omega));exact rfl)
  | (apply TO.eqb;exact rfl;exact rfl;exact rfl;kernel_rfl)
  | (apply TO.neb;exact rfl;exact rfl;exact rfl;kernel_rfl)
  | (apply TO.elem_nat (j:=0) tabOk;exact rfl;exact rfl;exact rfl;exact rfl;exact rfl;exact rfl;exact rfl;exact rfl;exact rfl;exact rfl)
  | (apply TO.makeFunc;exact rfl;exact rfl)
  | (apply TO.fieldAddr_tref tabOk;exact rfl;exact rfl;exact rfl;exact rfl;exact rfl;decide;exact rfl)
  | (apply TO.eq_nil_ptr tabOk;exact rfl;exact rfl;exact rfl;exact rfl;exact rfl)
  | (apply TO.eq_nil_nil tabOk;exact rfl;exact rfl;exact rfl;exact rfl)
  | (apply TO.ne_nil_ptr tabOk;exact rfl;exact rfl;exact rfl;exact rfl;exact rfl)
  | (apply TO.ne_nil_nil tabOk;exact rfl;exact rfl;exact rfl;exact rfl)
  | (apply TO.ssl2 tabOk;exact rfl;exact rfl;exact rfl;exact rfl;exact rfl;exact rfl;exact rfl;exact rfl;exact rfl;omega;omega)
  | (apply TO.ssl_lo tabOk;exact rfl;exact rfl;exact rfl;exact rfl;exact rfl;exact rfl;exact rfl;exact rfl;omega)
  | (apply TO.ssl_hi tabOk;exact rfl;exact rfl;exact rfl;exact rfl;exact rfl;exact rfl;exact rfl;exact rfl;omega))
 all_goals try(refine RetK.pure rfl ?_ rfl;exact Le.of_eq (by simp_all [pack,hasPre] <;> omega))
def wordByte(c:Int):Bool:=c == 48 || c == 49 || c == 40 || c == 41
set_option maxHeartbeats 400000 in
theorem word1_sound (c:Int):Pure Tryz.prog 88 [u8 c] (.b (wordByte c)):=by
 refine so Tryz.func88 ?_
 repeat' (first
  | (apply TO.move;exact rfl;exact rfl)
  | (apply TO.assign;exact rfl;exact rfl)
  | (apply TO.want;exact rfl)
  | (apply TO.add;exact rfl;exact rfl;exact rfl;omega;omega)
  | (apply TO.cat;exact rfl;exact rfl;exact rfl;(first|omega|(simp only[List.length_append,List.length_cons,List.length_nil];omega)))
  | (apply TO.eqs;exact rfl;exact rfl;exact rfl)
  | (apply TO.nes;exact rfl;exact rfl;exact rfl)
  | (apply TO.cmp;exact rfl;exact rfl;exact rfl;exact rfl)
  | (intro hc;exact absurd hc (by decide))
  | (intro hc;exfalso;simp only[decide_eq_true_eq,decide_eq_false_iff_not,beq_iff_eq,beq_eq_false_iff_ne,bne_iff_ne,bne_eq_false_iff_eq,ne_eq,Decidable.not_not,not_true_eq_false]at hc;done)
  | (intro hc;exfalso;(first|simp only[decide_eq_true_eq,decide_eq_false_iff_not,beq_iff_eq,beq_eq_false_iff_ne,bne_iff_ne,bne_eq_false_iff_eq,ne_eq,Decidable.not_not,not_true_eq_false]at hc|skip);first|omega|(simp only[List.length_nil,List.length_cons]at *;omega))
  | intro hc
  | (apply TO.pick;exact rfl;exact rfl;exact rfl)
  | (apply TO.pass;exact rfl;exact rfl)
  | (apply TO.pass0;exact rfl)
  | (apply TO.load tabOk;exact rfl;exact rfl;exact rfl;exact rfl;exact rfl)
  | (apply TO.load_ref tabOk;exact rfl;exact rfl;exact rfl;exact rfl;exact rfl;exact rfl)
  | (apply TO.fieldAddr tabOk;exact rfl;exact rfl;exact rfl;exact rfl;exact rfl;decide;exact rfl)
  | (apply TO.fieldAddr_ref tabOk;exact rfl;exact rfl;exact rfl;exact rfl;exact rfl;decide;exact rfl)
  | (apply TO.nilCheck;exact rfl;exact rfl;exact rfl)
  | (apply TO.index_nat tabOk;exact rfl;exact rfl;exact rfl;exact rfl;exact rfl;assumption)
  | (apply TO.index_str tabOk;exact rfl;exact rfl;exact rfl;exact rfl;exact rfl;decide;exact rfl)
  | (apply TO.len_str tabOk;exact rfl;exact rfl;exact rfl;exact rfl)
  | (apply TO.len_sl tabOk;exact rfl;exact rfl;exact rfl;exact rfl;exact rfl;exact rfl;exact rfl)
  | (apply TO.elem_nat tabOk;exact rfl;exact rfl;exact rfl;exact rfl;exact rfl;exact rfl;exact rfl;exact rfl;assumption;exact rfl)
  | (apply TO.extract;exact rfl;exact rfl;exact rfl)
  | refine TO.nil ?_
  | refine TR.seq ?_
  | refine TR.region ?_
  | (apply TR.condT;exact rfl)
  | (apply TR.condF;exact rfl)
  | refine Then.normal ?_
  | refine TR.block ?_
  | refine TR.skip ?_
  | (apply TR.regionQ hmix;kernel_rfl;exact rfl)
  | refine TR.exit ?_
  | refine TR.ret ?_
  | refine Then.exit ?_
  | refine Then.ret ?_
  | refine LoopK.exit ?_
  | refine LoopK.ret ?_
  | refine InBlock.normal ?_
  | refine InBlock.ret ?_
  | (apply InBlock.same;exact rfl)
  | (apply InBlock.other;exact rfl)
  | (apply TO.sub64;exact rfl;exact rfl;exact rfl;omega;omega)
  | (apply TO.mul64;exact rfl;exact rfl;exact rfl;omega;omega)
  | (apply TO.convert_u8;exact rfl;kernel_rfl;kernel_rfl;exact rfl)
  | (apply TO.bin;exact rfl;exact rfl;exact rfl;exact rfl)
  | (apply TO.slice2 tabOk;exact rfl;exact rfl;exact rfl;exact rfl;exact rfl;exact rfl;omega;omega)
  | (apply TO.slice_lo tabOk;exact rfl;exact rfl;exact rfl;exact rfl;exact rfl;omega)
  | (apply TO.slice_hi tabOk;exact rfl;exact rfl;exact rfl;exact rfl;exact rfl;omega)
  | (apply TO.not;exact rfl;exact rfl)
  | (apply TO.nilCheck_fn;exact rfl;exact rfl)
  | (apply TO.load_agg tabOk;exact rfl;exact rfl;exact rfl;exact rfl;exact Nat.le_of_ble_eq_true rfl)
  | (apply TO.load_ref_agg tabOk;exact rfl;exact rfl;exact rfl;exact rfl;exact rfl;exact Nat.le_of_ble_eq_true rfl)
  | (apply TO.len_ms tabOk;exact rfl;exact rfl;exact rfl;exact rfl)
  | (apply TO.buildT tabOk;exact rfl;exact rfl;exact rfl;exact rfl;exact rfl;exact rfl;exact rfl)
  | (apply TO.build tabOk;exact rfl;exact rfl;exact rfl;exact rfl;exact rfl;exact rfl)
  | (apply TO.box;exact rfl;exact rfl;exact rfl;exact rfl)
  | (apply TO.alloc tabOk;exact rfl;exact rfl;exact rfl)
  | (apply TO.store tabOk;exact rfl;exact rfl;exact rfl;exact rfl;exact rfl;exact rfl;exact Nat.le_of_ble_eq_true rfl;exact rfl;exact Nat.le_of_ble_eq_true rfl;exact rfl)
  | (apply TO.buildSliceB tabOk;exact rfl;exact rfl;exact rfl;exact rfl;exact rfl;exact rfl;exact rfl;exact rfl;exact rfl;exact rfl)
  | (apply TO.appendB tabOk;exact rfl;exact rfl;exact rfl;exact rfl;exact rfl;exact rfl;exact rfl;exact rfl;exact rfl;exact rfl;exact rfl;exact rfl;exact rfl;(first|omega|(simp only[List.length_append,List.length_cons,List.length_nil];omega));exact rfl)
  | (apply TO.eqb;exact rfl;exact rfl;exact rfl;kernel_rfl)
  | (apply TO.neb;exact rfl;exact rfl;exact rfl;kernel_rfl)
  | (apply TO.elem_nat (j:=0) tabOk;exact rfl;exact rfl;exact rfl;exact rfl;exact rfl;exact rfl;exact rfl;exact rfl;exact rfl;exact rfl)
  | (apply TO.makeFunc;exact rfl;exact rfl)
  | (apply TO.fieldAddr_tref tabOk;exact rfl;exact rfl;exact rfl;exact rfl;exact rfl;decide;exact rfl)
  | (apply TO.eq_nil_ptr tabOk;exact rfl;exact rfl;exact rfl;exact rfl;exact rfl)
  | (apply TO.eq_nil_nil tabOk;exact rfl;exact rfl;exact rfl;exact rfl)
  | (apply TO.ne_nil_ptr tabOk;exact rfl;exact rfl;exact rfl;exact rfl;exact rfl)
  | (apply TO.ne_nil_nil tabOk;exact rfl;exact rfl;exact rfl;exact rfl)
  | (apply TO.ssl2 tabOk;exact rfl;exact rfl;exact rfl;exact rfl;exact rfl;exact rfl;exact rfl;exact rfl;exact rfl;omega;omega)
  | (apply TO.ssl_lo tabOk;exact rfl;exact rfl;exact rfl;exact rfl;exact rfl;exact rfl;exact rfl;exact rfl;omega)
  | (apply TO.ssl_hi tabOk;exact rfl;exact rfl;exact rfl;exact rfl;exact rfl;exact rfl;exact rfl;exact rfl;omega))
 all_goals try(refine RetK.pure rfl ?_ rfl;exact Le.of_eq (by simp_all [pack,wordByte] <;> omega))
def behind(p:Int->Bool)(l:Str):Str:=l.drop (spanOf p l).length
theorem behind_len(p:Int->Bool)(l:Str):(behind p l).length≤l.length:=by simp[behind]
theorem hasPre_drop{l:Str}(h:hasPre l [45,45]=true):∃r,l=45::45::r:=by
 match l,h with
 | a::b::r,h=>simp[hasPre]at h;exact⟨r,by rw[h.1,h.2]⟩
 | [a],h=>simp[hasPre]at h
 | [],h=>simp[hasPre]at h
theorem behind_ne{r:Str}:(behind (fun c=>c != 10) (45::45::r)).length<(45::45::r:Str).length:=by
 have:(spanOf (fun c=>c != 10) (45::45::r)).length=(spanOf (fun c=>c != 10) r).length+2:=by simp[spanOf]
 simp[behind,this];omega
def skipped(l:Str):Str:=
 if h:hasPre (behind blank l) [45,45]=true then skipped (behind (fun c=>c != 10) (behind blank l)) else behind blank l
termination_by l.length
decreasing_by
 obtain⟨r,hr⟩:=hasPre_drop h
 have h1:=behind_len blank l
 rw[hr]at h1⊢
 have:=@behind_ne r
 omega
end Go.Proofs.YtlfdkafebmdoiaaGreat
