import Derived.Test.YtdicfgideclbdaaGreatDoorPk8
set_option maxHeartbeats 64000000
set_option linter.all false
namespace Go.Proofs.YtdicfgideclbdaaGreatDoor
open Go Go.TL
attribute [local irreducible] TR TO Then zal RetK Sound zab Kf GG zaR
theorem wg{G Q:Prop}(k:Q)(h:Hold Q->G:=by
  intro k
  first
  | (apply TO.move;exact rfl;exact rfl;exact k.p)
  | (apply TO.assign;exact rfl;exact rfl;exact k.p)
  | (apply TO.want;exact rfl;exact k.p)
  | (apply TO.add;(iterate 3 exact rfl);omega;omega;exact k.p)
  | (apply TO.cat;(iterate 3 exact rfl);exact zqe;exact k.p)
  | (apply TO.pick;(iterate 3 exact rfl);exact k.p)
  | (apply TO.pass;exact rfl;exact rfl;exact k.p)
  | (apply TO.zzX;exact rfl;exact k.p)
  | (apply TO.load zaf;(iterate 5 exact rfl);exact k.p)
  | (apply TO.zfZ zaf;(iterate 6 exact rfl);exact k.p)
  | (apply TO.fieldAddr zaf;(iterate 5 exact rfl);decide;exact rfl;exact k.p)
  | (apply TO.zfQ zaf;(iterate 5 exact rfl);decide;exact rfl;exact k.p)
  | (apply TO.nilCheck;(iterate 3 exact rfl);exact k.p)
  | (apply TO.zlS zaf;(iterate 5 exact rfl);assumption;exact k.p)
  | (apply TO.zfW zaf;(iterate 5 exact rfl);decide;exact rfl;exact k.p)
  | (apply TO.zsr zaf;(iterate 4 exact rfl);exact k.p)
  | (apply TO.zv7 zaf;(iterate 7 exact rfl);exact k.p)
  | (apply TO.zeV zaf;(iterate 8 exact rfl);assumption;exact rfl;exact k.p)
  | (apply TO.extract;(iterate 3 exact rfl);exact k.p)
  | (refine TO.nil ?_;exact k.p)
  | (refine TR.seq ?_;exact k.p)
  | (refine TR.region ?_;exact k.p)
  | (apply TR.zza;exact rfl;exact k.p)
  | (apply TR.zy9;exact rfl;exact k.p)
  | (refine Go.TL.Then.normal ?_;exact k.p)
  | (refine TR.block ?_;exact k.p)
  | (refine TR.skip ?_;exact k.p)
  | (apply TR.zsW hmix;kernel_rfl;exact rfl;exact k.p)
  | (refine TR.exit ?_;exact k.p)
  | (refine TR.ret ?_;exact k.p)
  | (refine Go.TL.Then.exit ?_;exact k.p)
  | (refine Go.TL.Then.ret ?_;exact k.p)
  | (refine zab.exit ?_;exact k.p)
  | (refine zab.ret ?_;exact k.p)
  | (refine Go.TL.zal.normal ?_;exact k.p)
  | (refine Go.TL.zal.ret ?_;exact k.p)
  | (apply Go.TL.zal.same;exact rfl;exact k.p)
  | (apply Go.TL.zal.other;exact rfl;exact k.p)
  | (apply TO.zn5;(iterate 3 exact rfl);omega;omega;exact k.p)
  | (apply TO.mul64;(iterate 3 exact rfl);omega;omega;exact k.p)
  | (apply TO.convert_u8;exact rfl;kernel_rfl;kernel_rfl;exact rfl;exact k.p)
  | (apply TO.bin;(iterate 4 exact rfl);exact k.p)
  | (apply TO.zwP zaf;(iterate 6 exact rfl);omega;omega;exact k.p)
  | (apply TO.zhv zaf;(iterate 5 exact rfl);omega;exact k.p)
  | (apply TO.zgb zaf;(iterate 5 exact rfl);omega;exact k.p)
  | (apply TO.not;exact rfl;exact rfl;exact k.p)
  | (apply TO.zid;exact rfl;exact rfl;exact k.p)
  | (apply TO.zo5 zaf;(iterate 4 exact rfl);exact leB;exact k.p)
  | (apply TO.zeK zaf;(iterate 5 exact rfl);exact leB;exact k.p)
  | (apply TO.zv6 zaf;(iterate 4 exact rfl);exact k.p)
  | (apply TO.zvA zaf;(iterate 7 exact rfl);exact k.p)
  | (apply TO.build zaf;(iterate 6 exact rfl);exact k.p)
  | (apply TO.box;(iterate 4 exact rfl);exact k.p)
  | (apply TO.alloc zaf;(iterate 3 exact rfl);exact k.p)
  | (apply TO.store zaf;(iterate 6 exact rfl);exact leB;exact rfl;exact leB;exact rfl;exact k.p)
  | (apply TO.zhQ zaf;(iterate 10 exact rfl);exact k.p)
  | (apply TO.zmX zaf;(iterate 13 exact rfl);exact zqe;exact rfl;exact k.p)
  | (apply TO.eqb;(iterate 3 exact rfl);kernel_rfl;exact k.p)
  | (apply TO.neb;(iterate 3 exact rfl);kernel_rfl;exact k.p)
  | (apply TO.zeV (j:=0) zaf;(iterate 10 exact rfl);exact k.p)
  | (apply TO.makeFunc;exact rfl;exact rfl;exact k.p)
  | (apply TO.zfe zaf;(iterate 5 exact rfl);decide;exact rfl;exact k.p)
  | (apply TO.zql zaf;(iterate 5 exact rfl);exact k.p)
  | (apply TO.zqk zaf;(iterate 4 exact rfl);exact k.p)
  | (apply TO.zgz zaf;(iterate 5 exact rfl);exact k.p)
  | (apply TO.zgy zaf;(iterate 4 exact rfl);exact k.p)
  | (apply TO.ssl2 zaf;(iterate 9 exact rfl);omega;omega;exact k.p)
  | (apply TO.zto zaf;(iterate 8 exact rfl);omega;exact k.p)
  | (apply TO.zwT zaf;(iterate 8 exact rfl);omega;exact k.p)):G:=h ⟨k⟩
theorem wg2{G Q1 Q2:Prop}(k1:Q1)(k2:Q2)(h:Hold Q1->Hold Q2->G:=by
  intro k1 k2
  first
  | (apply TO.eqs;(iterate 3 exact rfl);exact k1.p;exact k2.p)
  | (apply TO.nes;(iterate 3 exact rfl);exact k1.p;exact k2.p)
  | (apply TO.cmp;(iterate 4 exact rfl);exact k1.p;exact k2.p)):G:=h ⟨k1⟩ ⟨k2⟩
theorem wgc{G:Prop}(h:G:=by
  first
  | (intro hc;exact oI hc (by decide))
  | (intro hc;exfalso;simp only[decide_eq_true_eq,decide_eq_false_iff_not,beq_iff_eq,beq_eq_false_iff_ne,bne_iff_ne,bne_eq_false_iff_eq,ne_eq,qcC,not_true_eq_false]at hc;done)
  | (intro hc;exfalso;(first|simp only[decide_eq_true_eq,decide_eq_false_iff_not,beq_iff_eq,beq_eq_false_iff_ne,bne_iff_ne,bne_eq_false_iff_eq,ne_eq,qcC,not_true_eq_false]at hc|skip);first|omega|(simp only[qal,qae]at *;omega))):G:=h
end Go.Proofs.YtdicfgideclbdaaGreatDoor
