import Derived.Test.YtpfnfpaahefdaaaGreatPk12
set_option linter.all false
namespace Go.Proofs.YtpfnfpaahefdaaaGreat
open Go Go.TL
attribute [local irreducible] TR TO Then zab RetK Sound zac Kf GG za2
def blank(c:Int):Bool:=c == 32 || c == 9 || c == 10 || c == 13
set_option maxHeartbeats 400000 in
theorem zjj (c:Int):Pure Tryz.prog 50 [u8 c] (.b (blank c)):=by
 refine so Tryz.func50 ?_
 repeat' (first
  | (apply TO.move;exact rfl;exact rfl)
  | (apply TO.assign;exact rfl;exact rfl)
  | (apply TO.want;exact rfl)
  | refine zqn ?_
  | refine zqc ?_
  | (apply TO.eqs;(iterate 3 exact rfl))
  | (apply TO.nes;(iterate 3 exact rfl))
  | (apply TO.cmp;(iterate 4 exact rfl))
  | (intro hc;exact absurd hc (by decide))
  | (intro hc;exfalso;simp only[decide_eq_true_eq,decide_eq_false_iff_not,beq_iff_eq,beq_eq_false_iff_ne,bne_iff_ne,bne_eq_false_iff_eq,ne_eq,qam,not_true_eq_false]at hc;done)
  | (intro hc;exfalso;(first|simp only[decide_eq_true_eq,decide_eq_false_iff_not,beq_iff_eq,beq_eq_false_iff_ne,bne_iff_ne,bne_eq_false_iff_eq,ne_eq,qam,not_true_eq_false]at hc|skip);first|omega|(simp only[qaf,qac]at *;omega))
  | intro hc
  | (apply TO.pick;(iterate 3 exact rfl))
  | (apply TO.pass;exact rfl;exact rfl)
  | (apply TO.zbP;exact rfl)
  | (apply TO.load zaa;(iterate 5 exact rfl))
  | (apply TO.zaD zaa;(iterate 6 exact rfl))
  | (apply TO.fieldAddr zaa;(iterate 5 exact rfl);decide;exact rfl)
  | (apply TO.zaj zaa;(iterate 5 exact rfl);decide;exact rfl)
  | (apply TO.nilCheck;(iterate 3 exact rfl))
  | (apply TO.zaw zaa;(iterate 5 exact rfl);assumption)
  | (apply TO.zau zaa;(iterate 5 exact rfl);decide;exact rfl)
  | (apply TO.zaT zaa;(iterate 4 exact rfl))
  | (apply TO.zba zaa;(iterate 7 exact rfl))
  | refine zqg ?_
  | (apply TO.extract;(iterate 3 exact rfl))
  | refine TO.nil ?_
  | refine TR.seq ?_
  | refine TR.region ?_
  | (apply TR.zbO;exact rfl)
  | (apply TR.zbN;exact rfl)
  | refine Then.normal ?_
  | refine TR.block ?_
  | refine TR.skip ?_
  | (apply TR.zaU hmix;kernel_rfl;exact rfl)
  | refine TR.exit ?_
  | refine TR.ret ?_
  | refine Then.exit ?_
  | refine Then.ret ?_
  | refine zac.exit ?_
  | refine zac.ret ?_
  | refine zab.normal ?_
  | refine zab.ret ?_
  | (apply zab.same;exact rfl)
  | (apply zab.other;exact rfl)
  | (apply TO.zaI;(iterate 3 exact rfl);omega;omega)
  | (apply TO.mul64;(iterate 3 exact rfl);omega;omega)
  | (apply TO.convert_u8;exact rfl;kernel_rfl;kernel_rfl;exact rfl)
  | (apply TO.bin;(iterate 4 exact rfl))
  | (apply TO.zbb zaa;(iterate 6 exact rfl);omega;omega)
  | (apply TO.zaB zaa;(iterate 5 exact rfl);omega)
  | (apply TO.zaE zaa;(iterate 5 exact rfl);omega)
  | (apply TO.not;exact rfl;exact rfl)
  | (apply TO.zan;exact rfl;exact rfl)
  | (apply TO.zaH zaa;(iterate 4 exact rfl);exact leB)
  | (apply TO.zak zaa;(iterate 5 exact rfl);exact leB)
  | (apply TO.za9 zaa;(iterate 4 exact rfl))
  | (apply TO.za6 zaa;(iterate 7 exact rfl))
  | (apply TO.build zaa;(iterate 6 exact rfl))
  | refine zqp ?_
  | refine zqo ?_
  | refine zqe ?_
  | refine zqk ?_
  | refine zqb ?_
  | (apply TO.eqb;(iterate 3 exact rfl);kernel_rfl)
  | (apply TO.neb;(iterate 3 exact rfl);kernel_rfl)
  | (apply TO.zay (j:=0) zaa;(iterate 10 exact rfl))
  | (apply TO.makeFunc;exact rfl;exact rfl)
  | (apply TO.zah zaa;(iterate 5 exact rfl);decide;exact rfl)
  | (apply TO.zar zaa;(iterate 5 exact rfl))
  | (apply TO.zaq zaa;(iterate 4 exact rfl))
  | (apply TO.ne_nil_ptr zaa;(iterate 5 exact rfl))
  | (apply TO.ne_nil_nil zaa;(iterate 4 exact rfl))
  | refine zqj ?_
  | refine zql ?_
  | (apply TO.ssl_hi zaa;(iterate 8 exact rfl);omega))
 all_goals refine RetK.pure rfl ?_ rfl
 all_goals exact Le.of_eq (by simp_all [blank,pack])
def zat(p:Int->Bool):Str->Str
 | []=>[]
 | c::r=>if p c.toNat then c::zat p r else[]
theorem zch(p:Int->Bool):∀l,(zat p l).length≤l.length
 | []=>qae _
 | c::r=>by unfold zat;split <;> simp;exact zch p r
theorem zdC(p:Int->Bool):∀l,zat p l=l.take (zat p l).length
 | []=>rfl
 | c::r=>by
   unfold zat;split
   ·simp only[qac,qbA];rw[<-zdC p r]
   ·rfl
abbrev scanner (s:Str)(k:Nat):Heap:=[.cells [.s s,.i k]]
set_option maxHeartbeats 1000000 in
theorem zdp (fid:FuncId) (p:Int->Bool) (hp:∀c,Pure Tryz.prog fid [u8 c] (.b (p c))) (s:Str) (hs:s.length≤1000000) (i:Nat) (hi:i≤s.length):
  Sound Tryz.prog 49 [.ref 0 0,.fn fid []] (scanner s i) (fun r H'=>r= .ret (.s (zat p (s.drop i)))/\H'=scanner s (i+(zat p (s.drop i)).length)):=by
 refine so Tryz.func49 ?_
 repeat' (first
  | (apply TO.move;exact rfl;exact rfl)
  | (apply TO.assign;exact rfl;exact rfl)
  | (apply TO.want;exact rfl)
  | refine zqn ?_
  | refine zqc ?_
  | (apply TO.eqs;(iterate 3 exact rfl))
  | (apply TO.nes;(iterate 3 exact rfl))
  | (apply TO.cmp;(iterate 4 exact rfl))
  | (intro hc;exact absurd hc (by decide))
  | (intro hc;exfalso;simp only[decide_eq_true_eq,decide_eq_false_iff_not,beq_iff_eq,beq_eq_false_iff_ne,bne_iff_ne,bne_eq_false_iff_eq,ne_eq,qam,not_true_eq_false]at hc;done)
  | (intro hc;exfalso;(first|simp only[decide_eq_true_eq,decide_eq_false_iff_not,beq_iff_eq,beq_eq_false_iff_ne,bne_iff_ne,bne_eq_false_iff_eq,ne_eq,qam,not_true_eq_false]at hc|skip);first|omega|(simp only[qaf,qac]at *;omega))
  | intro hc
  | (apply TO.pick;(iterate 3 exact rfl))
  | (apply TO.pass;exact rfl;exact rfl)
  | (apply TO.zbP;exact rfl)
  | (apply TO.load zaa;(iterate 5 exact rfl))
  | (apply TO.zaD zaa;(iterate 6 exact rfl))
  | (apply TO.fieldAddr zaa;(iterate 5 exact rfl);decide;exact rfl)
  | (apply TO.zaj zaa;(iterate 5 exact rfl);decide;exact rfl)
  | (apply TO.nilCheck;(iterate 3 exact rfl))
  | (apply TO.zaw zaa;(iterate 5 exact rfl);assumption)
  | (apply TO.zau zaa;(iterate 5 exact rfl);decide;exact rfl)
  | (apply TO.zaT zaa;(iterate 4 exact rfl))
  | (apply TO.zba zaa;(iterate 7 exact rfl))
  | refine zqg ?_
  | (apply TO.extract;(iterate 3 exact rfl))
  | refine TO.nil ?_
  | refine TR.seq ?_
  | refine TR.region ?_
  | (apply TR.zbO;exact rfl)
  | (apply TR.zbN;exact rfl)
  | refine Then.normal ?_
  | refine TR.block ?_
  | refine TR.skip ?_
  | (apply TR.zaU hmix;kernel_rfl;exact rfl)
  | refine TR.exit ?_
  | refine TR.ret ?_
  | refine Then.exit ?_
  | refine Then.ret ?_
  | refine zac.exit ?_
  | refine zac.ret ?_
  | refine zab.normal ?_
  | refine zab.ret ?_
  | (apply zab.same;exact rfl)
  | (apply zab.other;exact rfl)
  | (apply TO.zaI;(iterate 3 exact rfl);omega;omega)
  | (apply TO.mul64;(iterate 3 exact rfl);omega;omega)
  | (apply TO.convert_u8;exact rfl;kernel_rfl;kernel_rfl;exact rfl)
  | (apply TO.bin;(iterate 4 exact rfl))
  | (apply TO.zbb zaa;(iterate 6 exact rfl);omega;omega)
  | (apply TO.zaB zaa;(iterate 5 exact rfl);omega)
  | (apply TO.zaE zaa;(iterate 5 exact rfl);omega)
  | (apply TO.not;exact rfl;exact rfl)
  | (apply TO.zan;exact rfl;exact rfl)
  | (apply TO.zaH zaa;(iterate 4 exact rfl);exact leB)
  | (apply TO.zak zaa;(iterate 5 exact rfl);exact leB)
  | (apply TO.za9 zaa;(iterate 4 exact rfl))
  | (apply TO.za6 zaa;(iterate 7 exact rfl))
  | (apply TO.build zaa;(iterate 6 exact rfl))
  | refine zqp ?_
  | refine zqo ?_
  | refine zqe ?_
  | refine zqk ?_
  | refine zqb ?_
  | (apply TO.eqb;(iterate 3 exact rfl);kernel_rfl)
  | (apply TO.neb;(iterate 3 exact rfl);kernel_rfl)
  | (apply TO.zay (j:=0) zaa;(iterate 10 exact rfl))
  | (apply TO.makeFunc;exact rfl;exact rfl)
  | (apply TO.zah zaa;(iterate 5 exact rfl);decide;exact rfl)
  | (apply TO.zar zaa;(iterate 5 exact rfl))
  | (apply TO.zaq zaa;(iterate 4 exact rfl))
  | (apply TO.ne_nil_ptr zaa;(iterate 5 exact rfl))
  | (apply TO.ne_nil_nil zaa;(iterate 4 exact rfl))
  | refine zqj ?_
  | refine zql ?_
  | (apply TO.ssl_hi zaa;(iterate 8 exact rfl);omega))
 refine TR.zbd (ι:=Nat) (fun k=>i≤k/\k≤s.length/\zat p (s.drop i)=(s.take k).drop i++zat p (s.drop k)) (fun k=>s.length-k) (fun k=>[(0,.ref 0 0),(1,.fn fid []),(5,.i i)]) (fun k=>scanner s k) i ⟨qae _,hi,?_⟩ ⟨rfl,rfl,rfl,trivial⟩ rfl ?_
 ·have h0:(s.take i).drop i=[]:=qbp (by simp;omega)
  rw[h0];rfl
 rintro k ⟨h1,h2,h3⟩
 by_cases hlt:k<s.length
 ·have hx:=qab hlt
  repeat' (first
   | (apply TO.move;exact rfl;exact rfl)
   | (apply TO.assign;exact rfl;exact rfl)
   | (apply TO.want;exact rfl)
   | refine zqn ?_
   | refine zqc ?_
   | (apply TO.eqs;(iterate 3 exact rfl))
   | (apply TO.nes;(iterate 3 exact rfl))
   | (apply TO.cmp;(iterate 4 exact rfl))
   | (intro hc;exact absurd hc (by decide))
   | (intro hc;exfalso;simp only[decide_eq_true_eq,decide_eq_false_iff_not,beq_iff_eq,beq_eq_false_iff_ne,bne_iff_ne,bne_eq_false_iff_eq,ne_eq,qam,not_true_eq_false]at hc;done)
   | (intro hc;exfalso;(first|simp only[decide_eq_true_eq,decide_eq_false_iff_not,beq_iff_eq,beq_eq_false_iff_ne,bne_iff_ne,bne_eq_false_iff_eq,ne_eq,qam,not_true_eq_false]at hc|skip);first|omega|(simp only[qaf,qac]at *;omega))
   | intro hc
   | (apply TO.pick;(iterate 3 exact rfl))
   | (apply TO.pass;exact rfl;exact rfl)
   | (apply TO.zbP;exact rfl)
   | (apply TO.load zaa;(iterate 5 exact rfl))
   | (apply TO.zaD zaa;(iterate 6 exact rfl))
   | (apply TO.fieldAddr zaa;(iterate 5 exact rfl);decide;exact rfl)
   | (apply TO.zaj zaa;(iterate 5 exact rfl);decide;exact rfl)
   | (apply TO.nilCheck;(iterate 3 exact rfl))
   | (apply TO.zaw zaa;(iterate 5 exact rfl);assumption)
   | (apply TO.zau zaa;(iterate 5 exact rfl);decide;exact rfl)
   | (apply TO.zaT zaa;(iterate 4 exact rfl))
   | (apply TO.zba zaa;(iterate 7 exact rfl))
   | refine zqg ?_
   | (apply TO.extract;(iterate 3 exact rfl))
   | (apply TO.zdH (hp _);(iterate 3 exact rfl);exact⟨.t _,trivial⟩)
   | refine TO.nil ?_
   | refine TR.seq ?_
   | refine TR.region ?_
   | (apply TR.zbO;exact rfl)
   | (apply TR.zbN;exact rfl)
   | refine Then.normal ?_
   | refine TR.block ?_
   | refine TR.skip ?_
   | (apply TR.zaU hmix;kernel_rfl;exact rfl)
   | refine TR.exit ?_
   | refine TR.ret ?_
   | refine Then.exit ?_
   | refine Then.ret ?_
   | refine zac.exit ?_
   | refine zac.ret ?_
   | refine zab.normal ?_
   | refine zab.ret ?_
   | (apply zab.same;exact rfl)
   | (apply zab.other;exact rfl)
   | (apply TO.zaI;(iterate 3 exact rfl);omega;omega)
   | (apply TO.mul64;(iterate 3 exact rfl);omega;omega)
   | (apply TO.convert_u8;exact rfl;kernel_rfl;kernel_rfl;exact rfl)
   | (apply TO.bin;(iterate 4 exact rfl))
   | (apply TO.zbb zaa;(iterate 6 exact rfl);omega;omega)
   | (apply TO.zaB zaa;(iterate 5 exact rfl);omega)
   | (apply TO.zaE zaa;(iterate 5 exact rfl);omega)
   | (apply TO.not;exact rfl;exact rfl)
   | (apply TO.zan;exact rfl;exact rfl)
   | (apply TO.zaH zaa;(iterate 4 exact rfl);exact leB)
   | (apply TO.zak zaa;(iterate 5 exact rfl);exact leB)
   | (apply TO.za9 zaa;(iterate 4 exact rfl))
   | (apply TO.za6 zaa;(iterate 7 exact rfl))
   | (apply TO.build zaa;(iterate 6 exact rfl))
   | refine zqp ?_
   | refine zqo ?_
   | refine zqe ?_
   | refine zqk ?_
   | refine zqb ?_
   | (apply TO.eqb;(iterate 3 exact rfl);kernel_rfl)
   | (apply TO.neb;(iterate 3 exact rfl);kernel_rfl)
   | (apply TO.zay (j:=0) zaa;(iterate 10 exact rfl))
   | (apply TO.makeFunc;exact rfl;exact rfl)
   | (apply TO.zah zaa;(iterate 5 exact rfl);decide;exact rfl)
   | (apply TO.zar zaa;(iterate 5 exact rfl))
   | (apply TO.zaq zaa;(iterate 4 exact rfl))
   | (apply TO.ne_nil_ptr zaa;(iterate 5 exact rfl))
   | (apply TO.ne_nil_nil zaa;(iterate 4 exact rfl))
   | refine zqj ?_
   | refine zql ?_
   | (apply TO.ssl_hi zaa;(iterate 8 exact rfl);omega))
  ·refine zac.next (k+1) ⟨by omega,hlt,?_⟩ (by omega) ⟨rfl,rfl,rfl,trivial⟩ rfl
   rw[h3,qaF hlt,qaJ hlt,List.drop_append_of_le_length (by simp;omega)]
   simp[zat,hc]
  ·have:zat p (s.drop k)=[]:=by rw[qaF hlt];simp[zat,hc]
   exact zwbh
 ·repeat' (first
   | (apply TO.move;exact rfl;exact rfl)
   | (apply TO.assign;exact rfl;exact rfl)
   | (apply TO.want;exact rfl)
   | refine zqn ?_
   | refine zqc ?_
   | (apply TO.eqs;(iterate 3 exact rfl))
   | (apply TO.nes;(iterate 3 exact rfl))
   | (apply TO.cmp;(iterate 4 exact rfl))
   | (intro hc;exact absurd hc (by decide))
   | (intro hc;exfalso;simp only[decide_eq_true_eq,decide_eq_false_iff_not,beq_iff_eq,beq_eq_false_iff_ne,bne_iff_ne,bne_eq_false_iff_eq,ne_eq,qam,not_true_eq_false]at hc;done)
   | (intro hc;exfalso;(first|simp only[decide_eq_true_eq,decide_eq_false_iff_not,beq_iff_eq,beq_eq_false_iff_ne,bne_iff_ne,bne_eq_false_iff_eq,ne_eq,qam,not_true_eq_false]at hc|skip);first|omega|(simp only[qaf,qac]at *;omega))
   | intro hc
   | (apply TO.pick;(iterate 3 exact rfl))
   | (apply TO.pass;exact rfl;exact rfl)
   | (apply TO.zbP;exact rfl)
   | (apply TO.load zaa;(iterate 5 exact rfl))
   | (apply TO.zaD zaa;(iterate 6 exact rfl))
   | (apply TO.fieldAddr zaa;(iterate 5 exact rfl);decide;exact rfl)
   | (apply TO.zaj zaa;(iterate 5 exact rfl);decide;exact rfl)
   | (apply TO.nilCheck;(iterate 3 exact rfl))
   | (apply TO.zaw zaa;(iterate 5 exact rfl);assumption)
   | (apply TO.zau zaa;(iterate 5 exact rfl);decide;exact rfl)
   | (apply TO.zaT zaa;(iterate 4 exact rfl))
   | (apply TO.zba zaa;(iterate 7 exact rfl))
   | refine zqg ?_
   | (apply TO.extract;(iterate 3 exact rfl))
   | (apply TO.zdH (hp _);(iterate 3 exact rfl);exact⟨.t _,trivial⟩)
   | refine TO.nil ?_
   | refine TR.seq ?_
   | refine TR.region ?_
   | (apply TR.zbO;exact rfl)
   | (apply TR.zbN;exact rfl)
   | refine Then.normal ?_
   | refine TR.block ?_
   | refine TR.skip ?_
   | (apply TR.zaU hmix;kernel_rfl;exact rfl)
   | refine TR.exit ?_
   | refine TR.ret ?_
   | refine Then.exit ?_
   | refine Then.ret ?_
   | refine zac.exit ?_
   | refine zac.ret ?_
   | refine zab.normal ?_
   | refine zab.ret ?_
   | (apply zab.same;exact rfl)
   | (apply zab.other;exact rfl)
   | (apply TO.zaI;(iterate 3 exact rfl);omega;omega)
   | (apply TO.mul64;(iterate 3 exact rfl);omega;omega)
   | (apply TO.convert_u8;exact rfl;kernel_rfl;kernel_rfl;exact rfl)
   | (apply TO.bin;(iterate 4 exact rfl))
   | (apply TO.zbb zaa;(iterate 6 exact rfl);omega;omega)
   | (apply TO.zaB zaa;(iterate 5 exact rfl);omega)
   | (apply TO.zaE zaa;(iterate 5 exact rfl);omega)
   | (apply TO.not;exact rfl;exact rfl)
   | (apply TO.zan;exact rfl;exact rfl)
   | (apply TO.zaH zaa;(iterate 4 exact rfl);exact leB)
   | (apply TO.zak zaa;(iterate 5 exact rfl);exact leB)
   | (apply TO.za9 zaa;(iterate 4 exact rfl))
   | (apply TO.za6 zaa;(iterate 7 exact rfl))
   | (apply TO.build zaa;(iterate 6 exact rfl))
   | refine zqp ?_
   | refine zqo ?_
   | refine zqe ?_
   | refine zqk ?_
   | refine zqb ?_
   | (apply TO.eqb;(iterate 3 exact rfl);kernel_rfl)
   | (apply TO.neb;(iterate 3 exact rfl);kernel_rfl)
   | (apply TO.zay (j:=0) zaa;(iterate 10 exact rfl))
   | (apply TO.makeFunc;exact rfl;exact rfl)
   | (apply TO.zah zaa;(iterate 5 exact rfl);decide;exact rfl)
   | (apply TO.zar zaa;(iterate 5 exact rfl))
   | (apply TO.zaq zaa;(iterate 4 exact rfl))
   | (apply TO.ne_nil_ptr zaa;(iterate 5 exact rfl))
   | (apply TO.ne_nil_nil zaa;(iterate 4 exact rfl))
   | refine zqj ?_
   | refine zql ?_
   | (apply TO.ssl_hi zaa;(iterate 8 exact rfl);omega))
  have:zat p (s.drop k)=[]:=by rw[qbp (by omega)];rfl
  exact zwbh
def zbp(a b:Str):Bool:=decide (b.length≤a.length) && a.take b.length == b
set_option maxHeartbeats 400000 in
theorem zeE (a b:Str):Pure Tryz.prog 75 [.s a,.s b] (.b (zbp a b)):=by
 refine so Tryz.func75 ?_
 by_cases h:b.length≤a.length
 ·repeat' (first
   | (apply TO.move;exact rfl;exact rfl)
   | (apply TO.assign;exact rfl;exact rfl)
   | (apply TO.want;exact rfl)
   | refine zqn ?_
   | refine zqc ?_
   | (apply TO.eqs;(iterate 3 exact rfl))
   | (apply TO.nes;(iterate 3 exact rfl))
   | (apply TO.cmp;(iterate 4 exact rfl))
   | (intro hc;exact absurd hc (by decide))
   | (intro hc;exfalso;simp only[decide_eq_true_eq,decide_eq_false_iff_not,beq_iff_eq,beq_eq_false_iff_ne,bne_iff_ne,bne_eq_false_iff_eq,ne_eq,qam,not_true_eq_false]at hc;done)
   | (intro hc;exfalso;(first|simp only[decide_eq_true_eq,decide_eq_false_iff_not,beq_iff_eq,beq_eq_false_iff_ne,bne_iff_ne,bne_eq_false_iff_eq,ne_eq,qam,not_true_eq_false]at hc|skip);first|omega|(simp only[qaf,qac]at *;omega))
   | intro hc
   | (apply TO.pick;(iterate 3 exact rfl))
   | (apply TO.pass;exact rfl;exact rfl)
   | (apply TO.zbP;exact rfl)
   | (apply TO.load zaa;(iterate 5 exact rfl))
   | (apply TO.zaD zaa;(iterate 6 exact rfl))
   | (apply TO.fieldAddr zaa;(iterate 5 exact rfl);decide;exact rfl)
   | (apply TO.zaj zaa;(iterate 5 exact rfl);decide;exact rfl)
   | (apply TO.nilCheck;(iterate 3 exact rfl))
   | (apply TO.zaw zaa;(iterate 5 exact rfl);assumption)
   | (apply TO.zau zaa;(iterate 5 exact rfl);decide;exact rfl)
   | (apply TO.zaT zaa;(iterate 4 exact rfl))
   | (apply TO.zba zaa;(iterate 7 exact rfl))
   | refine zqg ?_
   | (apply TO.extract;(iterate 3 exact rfl))
   | refine TO.nil ?_
   | refine TR.seq ?_
   | refine TR.region ?_
   | (apply TR.zbO;exact rfl)
   | (apply TR.zbN;exact rfl)
   | refine Then.normal ?_
   | refine TR.block ?_
   | refine TR.skip ?_
   | (apply TR.zaU hmix;kernel_rfl;exact rfl)
   | refine TR.exit ?_
   | refine TR.ret ?_
   | refine Then.exit ?_
   | refine Then.ret ?_
   | refine zac.exit ?_
   | refine zac.ret ?_
   | refine zab.normal ?_
   | refine zab.ret ?_
   | (apply zab.same;exact rfl)
   | (apply zab.other;exact rfl)
   | (apply TO.zaI;(iterate 3 exact rfl);omega;omega)
   | (apply TO.mul64;(iterate 3 exact rfl);omega;omega)
   | (apply TO.convert_u8;exact rfl;kernel_rfl;kernel_rfl;exact rfl)
   | (apply TO.bin;(iterate 4 exact rfl))
   | (apply TO.zbb zaa;(iterate 6 exact rfl);omega;omega)
   | (apply TO.zaB zaa;(iterate 5 exact rfl);omega)
   | (apply TO.zaE zaa;(iterate 5 exact rfl);omega)
   | (apply TO.not;exact rfl;exact rfl)
   | (apply TO.zan;exact rfl;exact rfl)
   | (apply TO.zaH zaa;(iterate 4 exact rfl);exact leB)
   | (apply TO.zak zaa;(iterate 5 exact rfl);exact leB)
   | (apply TO.za9 zaa;(iterate 4 exact rfl))
   | (apply TO.za6 zaa;(iterate 7 exact rfl))
   | (apply TO.build zaa;(iterate 6 exact rfl))
   | refine zqp ?_
   | refine zqo ?_
   | refine zqe ?_
   | refine zqk ?_
   | refine zqb ?_
   | (apply TO.eqb;(iterate 3 exact rfl);kernel_rfl)
   | (apply TO.neb;(iterate 3 exact rfl);kernel_rfl)
   | (apply TO.zay (j:=0) zaa;(iterate 10 exact rfl))
   | (apply TO.makeFunc;exact rfl;exact rfl)
   | (apply TO.zah zaa;(iterate 5 exact rfl);decide;exact rfl)
   | (apply TO.zar zaa;(iterate 5 exact rfl))
   | (apply TO.zaq zaa;(iterate 4 exact rfl))
   | (apply TO.ne_nil_ptr zaa;(iterate 5 exact rfl))
   | (apply TO.ne_nil_nil zaa;(iterate 4 exact rfl))
   | refine zqj ?_
   | refine zql ?_
   | (apply TO.ssl_hi zaa;(iterate 8 exact rfl);omega))
  all_goals exact zwdy
 ·repeat' (first
   | (apply TO.move;exact rfl;exact rfl)
   | (apply TO.assign;exact rfl;exact rfl)
   | (apply TO.want;exact rfl)
   | refine zqn ?_
   | refine zqc ?_
   | (apply TO.eqs;(iterate 3 exact rfl))
   | (apply TO.nes;(iterate 3 exact rfl))
   | (apply TO.cmp;(iterate 4 exact rfl))
   | (intro hc;exact absurd hc (by decide))
   | (intro hc;exfalso;simp only[decide_eq_true_eq,decide_eq_false_iff_not,beq_iff_eq,beq_eq_false_iff_ne,bne_iff_ne,bne_eq_false_iff_eq,ne_eq,qam,not_true_eq_false]at hc;done)
   | (intro hc;exfalso;(first|simp only[decide_eq_true_eq,decide_eq_false_iff_not,beq_iff_eq,beq_eq_false_iff_ne,bne_iff_ne,bne_eq_false_iff_eq,ne_eq,qam,not_true_eq_false]at hc|skip);first|omega|(simp only[qaf,qac]at *;omega))
   | intro hc
   | (apply TO.pick;(iterate 3 exact rfl))
   | (apply TO.pass;exact rfl;exact rfl)
   | (apply TO.zbP;exact rfl)
   | (apply TO.load zaa;(iterate 5 exact rfl))
   | (apply TO.zaD zaa;(iterate 6 exact rfl))
   | (apply TO.fieldAddr zaa;(iterate 5 exact rfl);decide;exact rfl)
   | (apply TO.zaj zaa;(iterate 5 exact rfl);decide;exact rfl)
   | (apply TO.nilCheck;(iterate 3 exact rfl))
   | (apply TO.zaw zaa;(iterate 5 exact rfl);assumption)
   | (apply TO.zau zaa;(iterate 5 exact rfl);decide;exact rfl)
   | (apply TO.zaT zaa;(iterate 4 exact rfl))
   | (apply TO.zba zaa;(iterate 7 exact rfl))
   | refine zqg ?_
   | (apply TO.extract;(iterate 3 exact rfl))
   | refine TO.nil ?_
   | refine TR.seq ?_
   | refine TR.region ?_
   | (apply TR.zbO;exact rfl)
   | (apply TR.zbN;exact rfl)
   | refine Then.normal ?_
   | refine TR.block ?_
   | refine TR.skip ?_
   | (apply TR.zaU hmix;kernel_rfl;exact rfl)
   | refine TR.exit ?_
   | refine TR.ret ?_
   | refine Then.exit ?_
   | refine Then.ret ?_
   | refine zac.exit ?_
   | refine zac.ret ?_
   | refine zab.normal ?_
   | refine zab.ret ?_
   | (apply zab.same;exact rfl)
   | (apply zab.other;exact rfl)
   | (apply TO.zaI;(iterate 3 exact rfl);omega;omega)
   | (apply TO.mul64;(iterate 3 exact rfl);omega;omega)
   | (apply TO.convert_u8;exact rfl;kernel_rfl;kernel_rfl;exact rfl)
   | (apply TO.bin;(iterate 4 exact rfl))
   | (apply TO.zbb zaa;(iterate 6 exact rfl);omega;omega)
   | (apply TO.zaB zaa;(iterate 5 exact rfl);omega)
   | (apply TO.zaE zaa;(iterate 5 exact rfl);omega)
   | (apply TO.not;exact rfl;exact rfl)
   | (apply TO.zan;exact rfl;exact rfl)
   | (apply TO.zaH zaa;(iterate 4 exact rfl);exact leB)
   | (apply TO.zak zaa;(iterate 5 exact rfl);exact leB)
   | (apply TO.za9 zaa;(iterate 4 exact rfl))
   | (apply TO.za6 zaa;(iterate 7 exact rfl))
   | (apply TO.build zaa;(iterate 6 exact rfl))
   | refine zqp ?_
   | refine zqo ?_
   | refine zqe ?_
   | refine zqk ?_
   | refine zqb ?_
   | (apply TO.eqb;(iterate 3 exact rfl);kernel_rfl)
   | (apply TO.neb;(iterate 3 exact rfl);kernel_rfl)
   | (apply TO.zay (j:=0) zaa;(iterate 10 exact rfl))
   | (apply TO.makeFunc;exact rfl;exact rfl)
   | (apply TO.zah zaa;(iterate 5 exact rfl);decide;exact rfl)
   | (apply TO.zar zaa;(iterate 5 exact rfl))
   | (apply TO.zaq zaa;(iterate 4 exact rfl))
   | (apply TO.ne_nil_ptr zaa;(iterate 5 exact rfl))
   | (apply TO.ne_nil_nil zaa;(iterate 4 exact rfl))
   | refine zqj ?_
   | refine zql ?_
   | (apply TO.ssl_hi zaa;(iterate 8 exact rfl);omega))
  all_goals exact zwdy
set_option maxHeartbeats 400000 in
theorem zdS (a b:Str):Pure Tryz.prog 51 [.s a,.s b] (.b (zbp a b)):=by
 refine so Tryz.func51 ?_
 repeat' (first
  | (apply TO.move;exact rfl;exact rfl)
  | (apply TO.assign;exact rfl;exact rfl)
  | (apply TO.want;exact rfl)
  | refine zqn ?_
  | refine zqc ?_
  | (apply TO.eqs;(iterate 3 exact rfl))
  | (apply TO.nes;(iterate 3 exact rfl))
  | (apply TO.cmp;(iterate 4 exact rfl))
  | (intro hc;exact absurd hc (by decide))
  | (intro hc;exfalso;simp only[decide_eq_true_eq,decide_eq_false_iff_not,beq_iff_eq,beq_eq_false_iff_ne,bne_iff_ne,bne_eq_false_iff_eq,ne_eq,qam,not_true_eq_false]at hc;done)
  | (intro hc;exfalso;(first|simp only[decide_eq_true_eq,decide_eq_false_iff_not,beq_iff_eq,beq_eq_false_iff_ne,bne_iff_ne,bne_eq_false_iff_eq,ne_eq,qam,not_true_eq_false]at hc|skip);first|omega|(simp only[qaf,qac]at *;omega))
  | intro hc
  | (apply TO.pick;(iterate 3 exact rfl))
  | (apply TO.pass;exact rfl;exact rfl)
  | (apply TO.zbP;exact rfl)
  | (apply TO.load zaa;(iterate 5 exact rfl))
  | (apply TO.zaD zaa;(iterate 6 exact rfl))
  | (apply TO.fieldAddr zaa;(iterate 5 exact rfl);decide;exact rfl)
  | (apply TO.zaj zaa;(iterate 5 exact rfl);decide;exact rfl)
  | (apply TO.nilCheck;(iterate 3 exact rfl))
  | (apply TO.zaw zaa;(iterate 5 exact rfl);assumption)
  | (apply TO.zau zaa;(iterate 5 exact rfl);decide;exact rfl)
  | (apply TO.zaT zaa;(iterate 4 exact rfl))
  | (apply TO.zba zaa;(iterate 7 exact rfl))
  | refine zqg ?_
  | (apply TO.extract;(iterate 3 exact rfl))
  | (apply TO.zdH (zeE _ _);(iterate 3 exact rfl);exact⟨.t _,.t _,trivial⟩)
  | refine TO.nil ?_
  | refine TR.seq ?_
  | refine TR.region ?_
  | (apply TR.zbO;exact rfl)
  | (apply TR.zbN;exact rfl)
  | refine Then.normal ?_
  | refine TR.block ?_
  | refine TR.skip ?_
  | (apply TR.zaU hmix;kernel_rfl;exact rfl)
  | refine TR.exit ?_
  | refine TR.ret ?_
  | refine Then.exit ?_
  | refine Then.ret ?_
  | refine zac.exit ?_
  | refine zac.ret ?_
  | refine zab.normal ?_
  | refine zab.ret ?_
  | (apply zab.same;exact rfl)
  | (apply zab.other;exact rfl)
  | (apply TO.zaI;(iterate 3 exact rfl);omega;omega)
  | (apply TO.mul64;(iterate 3 exact rfl);omega;omega)
  | (apply TO.convert_u8;exact rfl;kernel_rfl;kernel_rfl;exact rfl)
  | (apply TO.bin;(iterate 4 exact rfl))
  | (apply TO.zbb zaa;(iterate 6 exact rfl);omega;omega)
  | (apply TO.zaB zaa;(iterate 5 exact rfl);omega)
  | (apply TO.zaE zaa;(iterate 5 exact rfl);omega)
  | (apply TO.not;exact rfl;exact rfl)
  | (apply TO.zan;exact rfl;exact rfl)
  | (apply TO.zaH zaa;(iterate 4 exact rfl);exact leB)
  | (apply TO.zak zaa;(iterate 5 exact rfl);exact leB)
  | (apply TO.za9 zaa;(iterate 4 exact rfl))
  | (apply TO.za6 zaa;(iterate 7 exact rfl))
  | (apply TO.build zaa;(iterate 6 exact rfl))
  | refine zqp ?_
  | refine zqo ?_
  | refine zqe ?_
  | refine zqk ?_
  | refine zqb ?_
  | (apply TO.eqb;(iterate 3 exact rfl);kernel_rfl)
  | (apply TO.neb;(iterate 3 exact rfl);kernel_rfl)
  | (apply TO.zay (j:=0) zaa;(iterate 10 exact rfl))
  | (apply TO.makeFunc;exact rfl;exact rfl)
  | (apply TO.zah zaa;(iterate 5 exact rfl);decide;exact rfl)
  | (apply TO.zar zaa;(iterate 5 exact rfl))
  | (apply TO.zaq zaa;(iterate 4 exact rfl))
  | (apply TO.ne_nil_ptr zaa;(iterate 5 exact rfl))
  | (apply TO.ne_nil_nil zaa;(iterate 4 exact rfl))
  | refine zqj ?_
  | refine zql ?_
  | (apply TO.ssl_hi zaa;(iterate 8 exact rfl);omega))
 all_goals try(refine RetK.pure rfl ?_ rfl;exact Le.of_eq (by simp_all [pack,zeE] <;> omega))
set_option maxHeartbeats 400000 in
theorem zjV (c:Int):Pure Tryz.prog 52 [u8 c] (.b (c != 10)):=by
 refine so Tryz.func52 ?_
 repeat' (first
  | (apply TO.move;exact rfl;exact rfl)
  | (apply TO.assign;exact rfl;exact rfl)
  | (apply TO.want;exact rfl)
  | refine zqn ?_
  | refine zqc ?_
  | (apply TO.eqs;(iterate 3 exact rfl))
  | (apply TO.nes;(iterate 3 exact rfl))
  | (apply TO.cmp;(iterate 4 exact rfl))
  | (intro hc;exact absurd hc (by decide))
  | (intro hc;exfalso;simp only[decide_eq_true_eq,decide_eq_false_iff_not,beq_iff_eq,beq_eq_false_iff_ne,bne_iff_ne,bne_eq_false_iff_eq,ne_eq,qam,not_true_eq_false]at hc;done)
  | (intro hc;exfalso;(first|simp only[decide_eq_true_eq,decide_eq_false_iff_not,beq_iff_eq,beq_eq_false_iff_ne,bne_iff_ne,bne_eq_false_iff_eq,ne_eq,qam,not_true_eq_false]at hc|skip);first|omega|(simp only[qaf,qac]at *;omega))
  | intro hc
  | (apply TO.pick;(iterate 3 exact rfl))
  | (apply TO.pass;exact rfl;exact rfl)
  | (apply TO.zbP;exact rfl)
  | (apply TO.load zaa;(iterate 5 exact rfl))
  | (apply TO.zaD zaa;(iterate 6 exact rfl))
  | (apply TO.fieldAddr zaa;(iterate 5 exact rfl);decide;exact rfl)
  | (apply TO.zaj zaa;(iterate 5 exact rfl);decide;exact rfl)
  | (apply TO.nilCheck;(iterate 3 exact rfl))
  | (apply TO.zaw zaa;(iterate 5 exact rfl);assumption)
  | (apply TO.zau zaa;(iterate 5 exact rfl);decide;exact rfl)
  | (apply TO.zaT zaa;(iterate 4 exact rfl))
  | (apply TO.zba zaa;(iterate 7 exact rfl))
  | refine zqg ?_
  | (apply TO.extract;(iterate 3 exact rfl))
  | refine TO.nil ?_
  | refine TR.seq ?_
  | refine TR.region ?_
  | (apply TR.zbO;exact rfl)
  | (apply TR.zbN;exact rfl)
  | refine Then.normal ?_
  | refine TR.block ?_
  | refine TR.skip ?_
  | (apply TR.zaU hmix;kernel_rfl;exact rfl)
  | refine TR.exit ?_
  | refine TR.ret ?_
  | refine Then.exit ?_
  | refine Then.ret ?_
  | refine zac.exit ?_
  | refine zac.ret ?_
  | refine zab.normal ?_
  | refine zab.ret ?_
  | (apply zab.same;exact rfl)
  | (apply zab.other;exact rfl)
  | (apply TO.zaI;(iterate 3 exact rfl);omega;omega)
  | (apply TO.mul64;(iterate 3 exact rfl);omega;omega)
  | (apply TO.convert_u8;exact rfl;kernel_rfl;kernel_rfl;exact rfl)
  | (apply TO.bin;(iterate 4 exact rfl))
  | (apply TO.zbb zaa;(iterate 6 exact rfl);omega;omega)
  | (apply TO.zaB zaa;(iterate 5 exact rfl);omega)
  | (apply TO.zaE zaa;(iterate 5 exact rfl);omega)
  | (apply TO.not;exact rfl;exact rfl)
  | (apply TO.zan;exact rfl;exact rfl)
  | (apply TO.zaH zaa;(iterate 4 exact rfl);exact leB)
  | (apply TO.zak zaa;(iterate 5 exact rfl);exact leB)
  | (apply TO.za9 zaa;(iterate 4 exact rfl))
  | (apply TO.za6 zaa;(iterate 7 exact rfl))
  | (apply TO.build zaa;(iterate 6 exact rfl))
  | refine zqp ?_
  | refine zqo ?_
  | refine zqe ?_
  | refine zqk ?_
  | refine zqb ?_
  | (apply TO.eqb;(iterate 3 exact rfl);kernel_rfl)
  | (apply TO.neb;(iterate 3 exact rfl);kernel_rfl)
  | (apply TO.zay (j:=0) zaa;(iterate 10 exact rfl))
  | (apply TO.makeFunc;exact rfl;exact rfl)
  | (apply TO.zah zaa;(iterate 5 exact rfl);decide;exact rfl)
  | (apply TO.zar zaa;(iterate 5 exact rfl))
  | (apply TO.zaq zaa;(iterate 4 exact rfl))
  | (apply TO.ne_nil_ptr zaa;(iterate 5 exact rfl))
  | (apply TO.ne_nil_nil zaa;(iterate 4 exact rfl))
  | refine zqj ?_
  | refine zql ?_
  | (apply TO.ssl_hi zaa;(iterate 8 exact rfl);omega))
 all_goals exact zwdy
def zaA(c:Int):Bool:=c == 48 || c == 49 || c == 40 || c == 41
set_option maxHeartbeats 400000 in
theorem zj7 (c:Int):Pure Tryz.prog 78 [u8 c] (.b (zaA c)):=by
 refine so Tryz.func78 ?_
 repeat' (first
  | (apply TO.move;exact rfl;exact rfl)
  | (apply TO.assign;exact rfl;exact rfl)
  | (apply TO.want;exact rfl)
  | refine zqn ?_
  | refine zqc ?_
  | (apply TO.eqs;(iterate 3 exact rfl))
  | (apply TO.nes;(iterate 3 exact rfl))
  | (apply TO.cmp;(iterate 4 exact rfl))
  | (intro hc;exact absurd hc (by decide))
  | (intro hc;exfalso;simp only[decide_eq_true_eq,decide_eq_false_iff_not,beq_iff_eq,beq_eq_false_iff_ne,bne_iff_ne,bne_eq_false_iff_eq,ne_eq,qam,not_true_eq_false]at hc;done)
  | (intro hc;exfalso;(first|simp only[decide_eq_true_eq,decide_eq_false_iff_not,beq_iff_eq,beq_eq_false_iff_ne,bne_iff_ne,bne_eq_false_iff_eq,ne_eq,qam,not_true_eq_false]at hc|skip);first|omega|(simp only[qaf,qac]at *;omega))
  | intro hc
  | (apply TO.pick;(iterate 3 exact rfl))
  | (apply TO.pass;exact rfl;exact rfl)
  | (apply TO.zbP;exact rfl)
  | (apply TO.load zaa;(iterate 5 exact rfl))
  | (apply TO.zaD zaa;(iterate 6 exact rfl))
  | (apply TO.fieldAddr zaa;(iterate 5 exact rfl);decide;exact rfl)
  | (apply TO.zaj zaa;(iterate 5 exact rfl);decide;exact rfl)
  | (apply TO.nilCheck;(iterate 3 exact rfl))
  | (apply TO.zaw zaa;(iterate 5 exact rfl);assumption)
  | (apply TO.zau zaa;(iterate 5 exact rfl);decide;exact rfl)
  | (apply TO.zaT zaa;(iterate 4 exact rfl))
  | (apply TO.zba zaa;(iterate 7 exact rfl))
  | refine zqg ?_
  | (apply TO.extract;(iterate 3 exact rfl))
  | refine TO.nil ?_
  | refine TR.seq ?_
  | refine TR.region ?_
  | (apply TR.zbO;exact rfl)
  | (apply TR.zbN;exact rfl)
  | refine Then.normal ?_
  | refine TR.block ?_
  | refine TR.skip ?_
  | (apply TR.zaU hmix;kernel_rfl;exact rfl)
  | refine TR.exit ?_
  | refine TR.ret ?_
  | refine Then.exit ?_
  | refine Then.ret ?_
  | refine zac.exit ?_
  | refine zac.ret ?_
  | refine zab.normal ?_
  | refine zab.ret ?_
  | (apply zab.same;exact rfl)
  | (apply zab.other;exact rfl)
  | (apply TO.zaI;(iterate 3 exact rfl);omega;omega)
  | (apply TO.mul64;(iterate 3 exact rfl);omega;omega)
  | (apply TO.convert_u8;exact rfl;kernel_rfl;kernel_rfl;exact rfl)
  | (apply TO.bin;(iterate 4 exact rfl))
  | (apply TO.zbb zaa;(iterate 6 exact rfl);omega;omega)
  | (apply TO.zaB zaa;(iterate 5 exact rfl);omega)
  | (apply TO.zaE zaa;(iterate 5 exact rfl);omega)
  | (apply TO.not;exact rfl;exact rfl)
  | (apply TO.zan;exact rfl;exact rfl)
  | (apply TO.zaH zaa;(iterate 4 exact rfl);exact leB)
  | (apply TO.zak zaa;(iterate 5 exact rfl);exact leB)
  | (apply TO.za9 zaa;(iterate 4 exact rfl))
  | (apply TO.za6 zaa;(iterate 7 exact rfl))
  | (apply TO.build zaa;(iterate 6 exact rfl))
  | refine zqp ?_
  | refine zqo ?_
  | refine zqe ?_
  | refine zqk ?_
  | refine zqb ?_
  | (apply TO.eqb;(iterate 3 exact rfl);kernel_rfl)
  | (apply TO.neb;(iterate 3 exact rfl);kernel_rfl)
  | (apply TO.zay (j:=0) zaa;(iterate 10 exact rfl))
  | (apply TO.makeFunc;exact rfl;exact rfl)
  | (apply TO.zah zaa;(iterate 5 exact rfl);decide;exact rfl)
  | (apply TO.zar zaa;(iterate 5 exact rfl))
  | (apply TO.zaq zaa;(iterate 4 exact rfl))
  | (apply TO.ne_nil_ptr zaa;(iterate 5 exact rfl))
  | (apply TO.ne_nil_nil zaa;(iterate 4 exact rfl))
  | refine zqj ?_
  | refine zql ?_
  | (apply TO.ssl_hi zaa;(iterate 8 exact rfl);omega))
 all_goals try(refine RetK.pure rfl ?_ rfl;exact Le.of_eq (by simp_all [pack,zaA] <;> omega))
def behind(p:Int->Bool)(l:Str):Str:=l.drop (zat p l).length
theorem zd3(p:Int->Bool)(l:Str):(behind p l).length≤l.length:=by simp[behind]
theorem zcM{l:Str}(h:zbp l [45,45]=true):∃r,l=45::45::r:=by
 match l,h with
 | a::b::r,h=>simp[zbp]at h;exact⟨r,by rw[h.1,h.2]⟩
 | [a],h=>simp[zbp]at h
 | [],h=>simp[zbp]at h
theorem zew{r:Str}:(behind (fun c=>c != 10) (45::45::r)).length<(45::45::r:Str).length:=by
 have:(zat (fun c=>c != 10) (45::45::r)).length=(zat (fun c=>c != 10) r).length+2:=by simp[zat]
 simp[behind,this];omega
def skipped(l:Str):Str:=
 if h:zbp (behind blank l) [45,45]=true then skipped (behind (fun c=>c != 10) (behind blank l)) else behind blank l
termination_by l.length
decreasing_by
 obtain⟨r,hr⟩:=zcM h
 have h1:=zd3 blank l
 rw[hr]at h1⊢
 have:=@zew r
 omega
end Go.Proofs.YtpfnfpaahefdaaaGreat
