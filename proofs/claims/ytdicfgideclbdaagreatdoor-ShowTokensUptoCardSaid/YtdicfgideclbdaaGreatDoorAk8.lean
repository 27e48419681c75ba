import Derived.Test.YtdicfgideclbdaaGreatDoorAk7
set_option maxHeartbeats 64000000
set_option linter.all false
namespace Go.Proofs.YtdicfgideclbdaaGreatDoor
open Go Go.TL
variable {Q:Prop}{f:FuncId}{cargs:List SV}
section
theorem hmix:Tryz.prog.follows .mixedOrders=true:=oD
attribute [local irreducible] TR TO Then zaj RetK Sound zac Kf GG zaQ
structure Hold (Q:Prop):Prop where
 p:Q
theorem wk{G:Prop}(k:Q)(h:Hold Q->G:=by
  first
  | (intro k;apply TO.go zaf 300 false;exact rfl;(first|apply GG.to|apply GG.stop|apply GG.tr0|apply GG.tr|apply GG.ex);exact k.p)
  | (intro k;apply TR.go0 zaf 300 false;exact rfl;(first|apply GG.to|apply GG.stop|apply GG.tr0|apply GG.tr|apply GG.ex);exact k.p)
  | (intro k;apply TR.go zaf 300 false;exact rfl;(first|apply GG.to|apply GG.stop|apply GG.tr0|apply GG.tr|apply GG.ex);exact k.p)
  | (intro k;apply TO.go0 zaf 300 false;exact rfl;(first|apply GG.to|apply GG.stop|apply GG.tr0|apply GG.tr|apply GG.ex);exact k.p)
  | (intro k;apply zaQ.go;exact k.p)
  | (intro k;apply zev.go zaf 300 false;exact rfl;(first|apply GG.to|apply GG.stop|apply GG.tr0|apply GG.tr|apply GG.ex);exact k.p)
  | (intro k;apply zev.fin;exact k.p)
  | (intro k;apply TO.want;exact rfl;exact k.p)
  | (intro k;apply TO.add;(iterate 3 exact rfl);exact zqe;exact zqe;exact k.p)
  | (intro k;apply TO.zoa;(iterate 3 exact rfl);exact zqe;exact zqe;exact k.p)
  | (intro k;apply TO.ze4 zaf;(iterate 8 exact rfl);assumption;exact rfl;exact k.p)
  | (intro k;apply TO.ze4 (j:=0) zaf;(iterate 10 exact rfl);exact k.p)
  | (intro k;apply TO.ze4 (j:=1) zaf;(iterate 10 exact rfl);exact k.p)
  | (intro k;apply TO.ze4 (j:=2) zaf;(iterate 10 exact rfl);exact k.p)
  | (intro k;apply TO.indexAddr zaf;(iterate 8 exact rfl);omega;assumption;exact k.p)
  | (intro k;apply TO.zl0 zaf;(iterate 5 exact rfl);assumption;exact k.p)
  | (intro k;apply TO.zf1 zaf;(iterate 5 exact rfl);decide;exact rfl;exact k.p)
  | (intro k;apply TO.zf1 zaf;(iterate 5 exact rfl);omega;assumption;exact k.p)
  | (intro k;apply TO.maxi;(iterate 3 exact rfl);exact k.p)
  | (intro k;apply TO.mini;(iterate 3 exact rfl);exact k.p)
  | (intro k;apply TR.regionLf hmix;decide +kernel;exact rfl;exact k.p)
  | (intro k;apply TR.zuZ hmix;decide +kernel;exact rfl;exact k.p)
  | (intro k;apply TR.zuY hmix;decide +kernel;exact rfl;exact k.p)
  | (intro k;apply TR.zsX hmix;kernel_rfl;exact rfl;exact k.p)
  | (intro k;apply TO.zm5 zaf;(iterate 13 exact rfl);exact zqe;exact rfl;exact k.p)
  | (intro k;apply TO.ssl2 zaf;(iterate 9 exact rfl);omega;omega;exact k.p)
  | (intro k;apply TO.ztk zaf;(iterate 8 exact rfl);omega;exact k.p)
  | (intro k;apply TO.zwL zaf;(iterate 8 exact rfl);omega;exact k.p)
  | (intro k;apply TO.zwH zaf;(iterate 6 exact rfl);omega;omega;exact k.p)
  | (intro k;apply TO.zhD zaf;(iterate 5 exact rfl);omega;exact k.p)
  | (intro k;apply TO.zgf zaf;(iterate 5 exact rfl);omega;exact k.p)
  | (intro k;apply TO.convert_u8;exact rfl;kernel_rfl;kernel_rfl;exact rfl;exact k.p)
  | (intro k;apply TO.eqb;(iterate 3 exact rfl);kernel_rfl;exact k.p)
  | (intro k;apply TO.neb;(iterate 3 exact rfl);kernel_rfl;exact k.p)
  | (intro k;apply TO.go zaf 0 false;exact rfl;(first|apply GG.to|apply GG.stop|apply GG.tr0|apply GG.tr|apply GG.ex);exact k.p)
  | (intro k;apply TR.go0 zaf 0 false;exact rfl;(first|apply GG.to|apply GG.stop|apply GG.tr0|apply GG.tr|apply GG.ex);exact k.p)
  | (intro k;apply TR.go zaf 0 false;exact rfl;(first|apply GG.to|apply GG.stop|apply GG.tr0|apply GG.tr|apply GG.ex);exact k.p)
  | (intro k;apply TO.go0 zaf 0 false;exact rfl;(first|apply GG.to|apply GG.stop|apply GG.tr0|apply GG.tr|apply GG.ex);exact k.p)
  | (intro k;apply zev.go zaf 0 false;exact rfl;(first|apply GG.to|apply GG.stop|apply GG.tr0|apply GG.tr|apply GG.ex);exact k.p)
  | (intro k;apply zac.exit;exact k.p)
  | (intro k;apply zac.ret;exact k.p)):G:=h ⟨k⟩
theorem wkt{G:Prop}(k:Q)(h:Hold Q->G:=by
  first
  | (intro k;apply TO.go zaf 300 true;exact rfl;(first|apply GG.to|apply GG.stop|apply GG.tr0|apply GG.tr|apply GG.ex);exact k.p)
  | (intro k;apply TR.go0 zaf 300 true;exact rfl;(first|apply GG.to|apply GG.stop|apply GG.tr0|apply GG.tr|apply GG.ex);exact k.p)
  | (intro k;apply TR.go zaf 300 true;exact rfl;(first|apply GG.to|apply GG.stop|apply GG.tr0|apply GG.tr|apply GG.ex);exact k.p)
  | (intro k;apply TO.go0 zaf 300 true;exact rfl;(first|apply GG.to|apply GG.stop|apply GG.tr0|apply GG.tr|apply GG.ex);exact k.p)
  | (intro k;apply zev.go zaf 300 true;exact rfl;(first|apply GG.to|apply GG.stop|apply GG.tr0|apply GG.tr|apply GG.ex);exact k.p)
  | (intro k;apply TO.zyI zaf;(iterate 6 exact rfl);exact leB;exact k.p)):G:=h ⟨k⟩
theorem wkb{G:Prop}(k:Q)(h:Hold Q->G:=by
  first
  | (intro k;apply TO.go zaf 300 true;exact rfl;(first|apply GG.to|apply GG.stop|apply GG.tr0|apply GG.tr|apply GG.ex);exact k.p)
  | (intro k;apply TR.go0 zaf 300 true;exact rfl;(first|apply GG.to|apply GG.stop|apply GG.tr0|apply GG.tr|apply GG.ex);exact k.p)
  | (intro k;apply TR.go zaf 300 true;exact rfl;(first|apply GG.to|apply GG.stop|apply GG.tr0|apply GG.tr|apply GG.ex);exact k.p)
  | (intro k;apply TO.go0 zaf 300 true;exact rfl;(first|apply GG.to|apply GG.stop|apply GG.tr0|apply GG.tr|apply GG.ex);exact k.p)
  | (intro k;apply zev.go zaf 300 true;exact rfl;(first|apply GG.to|apply GG.stop|apply GG.tr0|apply GG.tr|apply GG.ex);exact k.p)):G:=h ⟨k⟩
theorem wu{G:Prop}(k:Q)(h:Hold Q->G:=by first|(intro k;exact wkt k.p)|(intro k;exact wk k.p)):G:=h ⟨k⟩
theorem wk2{G Q1 Q2:Prop}(k1:Q1)(k2:Q2)(h:Hold Q1->Hold Q2->G:=by
  intro k1 k2
  first
  | (apply TO.ceq;(iterate 3 exact rfl);exact k1.p;exact k2.p)
  | (apply TO.cne;(iterate 3 exact rfl);exact k1.p;exact k2.p)
  | (apply TO.clt;(iterate 3 exact rfl);exact k1.p;exact k2.p)
  | (apply TO.cle;(iterate 3 exact rfl);exact k1.p;exact k2.p)
  | (apply TO.cgt;(iterate 3 exact rfl);exact k1.p;exact k2.p)
  | (apply TO.cge;(iterate 3 exact rfl);exact k1.p;exact k2.p)
  | (apply TO.seq';(iterate 3 exact rfl);exact k1.p;exact k2.p)
  | (apply TO.sne';(iterate 3 exact rfl);exact k1.p;exact k2.p)
  | (apply TR.zAA;exact rfl;exact k1.p;exact k2.p)):G:=h ⟨k1⟩ ⟨k2⟩
theorem wkc{G:Prop}(h:G:=by
  first
  | (intro hc;exact oI hc (by decide))
  | (intro hc;exfalso;simp only[qae,qal]at hc;omega)
  | (intro hc;exfalso;simp only[decide_eq_true_eq,decide_eq_false_iff_not,beq_iff_eq,beq_eq_false_iff_ne,bne_iff_ne,bne_eq_false_iff_eq,ne_eq,qcC,not_true_eq_false]at hc <;> omega)
  | (intro hc;exfalso;omega)):G:=h
theorem ya{G Q:Prop}(k:Q)(h:Hold Q->G:=by intro k;(repeat' (first|refine wu ?_|exact wkc|refine wk2 ?_ ?_|intro hc|fail));exact k.p):G:=h ⟨k⟩
theorem yd{G Q:Prop}(k:Q)(h:Hold Q->G:=by intro k;(repeat' (first|refine wk ?_|exact wkc|refine wk2 ?_ ?_|intro hc|fail));exact k.p):G:=h ⟨k⟩
theorem wv{G:Prop}{v:SV}(hs:Pure Tryz.prog f cargs v)(k:Q)(h:Pure Tryz.prog f cargs v->Hold Q->G:=by
  intro hs k
  first
  | (apply TO.zgs hs;(iterate 3 exact rfl);exact zqa;exact rfl;exact rfl;exact k.p)
  | (apply TO.zuc hs;(iterate 3 exact rfl);(repeat' (first|exact trivial|exact LeB.t _|exact LeB.cp _ _|exact LeB.fn0 _|exact LeB.any _|refine qav ?_ ?_|fail));exact Go.TL.Rigid.v _;exact k.p)):G:=h hs ⟨k⟩
theorem yb{G Q A:Prop}(a:A)(k:Q)(h:A->Hold Q->G:=by intro a k;(repeat' (first|refine wu ?_|exact wkc|refine wk2 ?_ ?_|refine wv a ?_|intro hc|fail));exact k.p):G:=h a ⟨k⟩
theorem wb{G Q1 Q2:Prop}{b:Bool}(hs:Pure Tryz.prog f cargs (.t (.v (.bool b))))(k1:Q1)(k2:Q2)(h:Pure Tryz.prog f cargs (.t (.v (.bool b)))->Hold Q1->Hold Q2->G:=by
  intro hs k1 k2;apply TO.zes hs;(iterate 3 exact rfl)
  (repeat' (first|exact trivial|exact LeB.t _|exact LeB.cp _ _|exact LeB.fn0 _|exact LeB.any _|refine qav ?_ ?_|refine LeB.tree rfl ?_|exact TLe.refl _|exact TLe.nil _|refine TLe.ags ?_|fail))
  exact k1.p;exact k2.p):G:=h hs ⟨k1⟩ ⟨k2⟩
theorem wd{G:Prop}{v:SV}{Hc Hc1:Heap}(hs:Sound Tryz.prog f cargs Hc fun r H'=>r= .ret v/\H'=Hc1)(k:Q)(h:(Sound Tryz.prog f cargs Hc fun r H'=>r= .ret v/\H'=Hc1)->Hold Q->G:=by
  intro hs k
  first
  | (apply TO.zbI 1 hs;(iterate 3 exact rfl);exact zqa;(iterate 8 exact rfl);exact k.p)
  | (apply TO.zbI 2 hs;(iterate 3 exact rfl);exact zqa;(iterate 8 exact rfl);exact k.p)
  | (apply TO.zbI 3 hs;(iterate 3 exact rfl);exact zqa;(iterate 8 exact rfl);exact k.p)):G:=h hs ⟨k⟩
theorem yc{G Q A:Prop}(a:A)(k:Q)(h:A->Hold Q->G:=by intro a k;(repeat' (first|refine wu ?_|exact wkc|refine wk2 ?_ ?_|refine wd a ?_|intro hc|fail));exact k.p):G:=h a ⟨k⟩
theorem ye{G Q A B:Prop}(a:A)(b:B)(k:Q)(h:A->B->Hold Q->G:=by intro a b k;(repeat' (first|refine wkt ?_|refine wd a ?_|refine wd b ?_|refine zqd ?_|exact wkc|refine wk2 ?_ ?_|refine wk ?_|intro hc|fail));exact k.p):G:=h a b ⟨k⟩
theorem yf{G Q A B:Prop}(a:A)(b:B)(k:Q)(h:A->B->Hold Q->G:=by intro a b k;(repeat' (first|refine wu ?_|exact wkc|refine wk2 ?_ ?_|refine wd a ?_|refine wd b ?_|intro hc|fail));exact k.p):G:=h a b ⟨k⟩
theorem yh{G Q A:Prop}(a:A)(k:Q)(h:A->Hold Q->G:=by intro a k;(repeat' (first|refine zqi ?_|refine wd a ?_|refine wk ?_|exact wkc|refine wk2 ?_ ?_|intro hc|fail));exact k.p):G:=h a ⟨k⟩
theorem yi{G Q A B C D:Prop}(a:A)(b:B)(c:C)(d:D)(k:Q)(h:A->B->C->D->Hold Q->G:=by intro a b c d k;(repeat' (first|refine wu ?_|exact wkc|refine wk2 ?_ ?_|refine wd a ?_|refine wd b ?_|refine wd c ?_|refine wd d ?_|intro hc|fail));exact k.p):G:=h a b c d ⟨k⟩
theorem yj{G Q A:Prop}(a:A)(k:Q)(h:A->Hold Q->G:=by intro a k;(repeat' (first|refine wkt ?_|refine wd a ?_|exact wkc|refine wk2 ?_ ?_|refine wk ?_|intro hc|fail));exact k.p):G:=h a ⟨k⟩
theorem yk{G Q A:Prop}(a:A)(k:Q)(h:A->Hold Q->G:=by intro a k;(repeat' (first|refine wkt ?_|refine zqi ?_|refine zqb ?_|refine wd a ?_|exact wkc|intro hc|refine wk2 ?_ ?_|fail));exact k.p):G:=h a ⟨k⟩
theorem wkr{G:Prop}(h:G:=by
  first
  | exact RetK.pure rfl (Le.refl _) rfl
  | exact RetK.pureN rfl (Le.refl _) rfl
  | ((first|refine RetK.pure rfl ?_ rfl|refine RetK.pureN rfl ?_ rfl);repeat' (first|exact Le.refl _|exact trivial|refine Le.tup ⟨?_,?_⟩|refine qav ?_ ?_|exact Le.any _|refine Le.tree rfl ?_|exact TLe.refl _|exact TLe.nil _|refine TLe.ags ⟨?_,?_⟩|fail))):G:=h
end
end Go.Proofs.YtdicfgideclbdaaGreatDoor
namespace Go.Proofs.YtdicfgideclbdaaGreatDoor
open Go Go.TL
attribute [local irreducible] TR TO Then zaj RetK Sound zac Kf GG zaQ
theorem wg{G Q:Prop}(k:Q)(h:Hold Q->G:=by
  intro k
  first
  | (apply TO.move;exact rfl;exact rfl;exact k.p)
  | (apply TO.assign;exact rfl;exact rfl;exact k.p)
  | (apply TO.want;exact rfl;exact k.p)
  | (apply TO.add;(iterate 3 exact rfl);omega;omega;exact k.p)
  | (apply TO.cat;(iterate 3 exact rfl);exact zqe;exact k.p)
  | (apply TO.pick;(iterate 3 exact rfl);exact k.p)
  | (apply TO.pass;exact rfl;exact rfl;exact k.p)
  | (apply TO.zzM;exact rfl;exact k.p)
  | (apply TO.load zaf;(iterate 5 exact rfl);exact k.p)
  | (apply TO.zf4 zaf;(iterate 6 exact rfl);exact k.p)
  | (apply TO.fieldAddr zaf;(iterate 5 exact rfl);decide;exact rfl;exact k.p)
  | (apply TO.zfV zaf;(iterate 5 exact rfl);decide;exact rfl;exact k.p)
  | (apply TO.nilCheck;(iterate 3 exact rfl);exact k.p)
  | (apply TO.zl0 zaf;(iterate 5 exact rfl);assumption;exact k.p)
  | (apply TO.zf1 zaf;(iterate 5 exact rfl);decide;exact rfl;exact k.p)
  | (apply TO.zsr zaf;(iterate 4 exact rfl);exact k.p)
  | (apply TO.zv0 zaf;(iterate 7 exact rfl);exact k.p)
  | (apply TO.ze4 zaf;(iterate 8 exact rfl);assumption;exact rfl;exact k.p)
  | (apply TO.extract;(iterate 3 exact rfl);exact k.p)
  | (refine TO.nil ?_;exact k.p)
  | (refine TR.seq ?_;exact k.p)
  | (refine TR.region ?_;exact k.p)
  | (apply TR.zy0;exact rfl;exact k.p)
  | (apply TR.zyZ;exact rfl;exact k.p)
  | (refine Go.TL.Then.normal ?_;exact k.p)
  | (refine TR.block ?_;exact k.p)
  | (refine TR.skip ?_;exact k.p)
  | (apply TR.zsX hmix;kernel_rfl;exact rfl;exact k.p)
  | (refine TR.exit ?_;exact k.p)
  | (refine TR.ret ?_;exact k.p)
  | (refine Go.TL.Then.exit ?_;exact k.p)
  | (refine Go.TL.Then.ret ?_;exact k.p)
  | (refine zac.exit ?_;exact k.p)
  | (refine zac.ret ?_;exact k.p)
  | (refine Go.TL.zaj.normal ?_;exact k.p)
  | (refine Go.TL.zaj.ret ?_;exact k.p)
  | (apply Go.TL.zaj.same;exact rfl;exact k.p)
  | (apply Go.TL.zaj.other;exact rfl;exact k.p)
  | (apply TO.zoa;(iterate 3 exact rfl);omega;omega;exact k.p)
  | (apply TO.mul64;(iterate 3 exact rfl);omega;omega;exact k.p)
  | (apply TO.convert_u8;exact rfl;kernel_rfl;kernel_rfl;exact rfl;exact k.p)
  | (apply TO.bin;(iterate 4 exact rfl);exact k.p)
  | (apply TO.zwH zaf;(iterate 6 exact rfl);omega;omega;exact k.p)
  | (apply TO.zhD zaf;(iterate 5 exact rfl);omega;exact k.p)
  | (apply TO.zgf zaf;(iterate 5 exact rfl);omega;exact k.p)
  | (apply TO.not;exact rfl;exact rfl;exact k.p)
  | (apply TO.zio;exact rfl;exact rfl;exact k.p)
  | (apply TO.zpa zaf;(iterate 4 exact rfl);exact leB;exact k.p)
  | (apply TO.zeR zaf;(iterate 5 exact rfl);exact leB;exact k.p)
  | (apply TO.zvZ zaf;(iterate 4 exact rfl);exact k.p)
  | (apply TO.zvv zaf;(iterate 7 exact rfl);exact k.p)
  | (apply TO.build zaf;(iterate 6 exact rfl);exact k.p)
  | (apply TO.box;(iterate 4 exact rfl);exact k.p)
  | (apply TO.alloc zaf;(iterate 3 exact rfl);exact k.p)
  | (apply TO.store zaf;(iterate 6 exact rfl);exact leB;exact rfl;exact leB;exact rfl;exact k.p)
  | (apply TO.zhY zaf;(iterate 10 exact rfl);exact k.p)
  | (apply TO.zm5 zaf;(iterate 13 exact rfl);exact zqe;exact rfl;exact k.p)
  | (apply TO.eqb;(iterate 3 exact rfl);kernel_rfl;exact k.p)
  | (apply TO.neb;(iterate 3 exact rfl);kernel_rfl;exact k.p)
  | (apply TO.ze4 (j:=0) zaf;(iterate 10 exact rfl);exact k.p)
  | (apply TO.makeFunc;exact rfl;exact rfl;exact k.p)
  | (apply TO.zfl zaf;(iterate 5 exact rfl);decide;exact rfl;exact k.p)
  | (apply TO.zqq zaf;(iterate 5 exact rfl);exact k.p)
  | (apply TO.zqp zaf;(iterate 4 exact rfl);exact k.p)
  | (apply TO.zgD zaf;(iterate 5 exact rfl);exact k.p)
  | (apply TO.zgC zaf;(iterate 4 exact rfl);exact k.p)
  | (apply TO.ssl2 zaf;(iterate 9 exact rfl);omega;omega;exact k.p)
  | (apply TO.ztk zaf;(iterate 8 exact rfl);omega;exact k.p)
  | (apply TO.zwL zaf;(iterate 8 exact rfl);omega;exact k.p)):G:=h ⟨k⟩
theorem wg2{G Q1 Q2:Prop}(k1:Q1)(k2:Q2)(h:Hold Q1->Hold Q2->G:=by
  intro k1 k2
  first
  | (apply TO.eqs;(iterate 3 exact rfl);exact k1.p;exact k2.p)
  | (apply TO.nes;(iterate 3 exact rfl);exact k1.p;exact k2.p)
  | (apply TO.cmp;(iterate 4 exact rfl);exact k1.p;exact k2.p)):G:=h ⟨k1⟩ ⟨k2⟩
theorem wgc{G:Prop}(h:G:=by
  first
  | (intro hc;exact oI hc (by decide))
  | (intro hc;exfalso;simp only[decide_eq_true_eq,decide_eq_false_iff_not,beq_iff_eq,beq_eq_false_iff_ne,bne_iff_ne,bne_eq_false_iff_eq,ne_eq,qcC,not_true_eq_false]at hc;done)
  | (intro hc;exfalso;(first|simp only[decide_eq_true_eq,decide_eq_false_iff_not,beq_iff_eq,beq_eq_false_iff_ne,bne_iff_ne,bne_eq_false_iff_eq,ne_eq,qcC,not_true_eq_false]at hc|skip);first|omega|(simp only[qal,qae]at *;omega))):G:=h
end Go.Proofs.YtdicfgideclbdaaGreatDoor
