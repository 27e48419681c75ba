import Derived.Test.YtpfnfpaahefdaaaGreatPk17
set_option linter.all false
namespace Go.Proofs.YtpfnfpaahefdaaaGreat
open Go Go.TL
attribute [local irreducible] TR TO Then zac RetK Sound zaf Kf GG zaY
def zdT(n:Int):Str->Bool
 | c::_=>(c.toNat:Int) == n
 | []=>false
theorem ziQ{n:Int}{s:Str}{k:Nat}(h:k<s.length):zdT n (s.drop k)=((s[k].toNat:Int) == n):=by
 rw[qaF h];rfl
def zcF(w q:Str):Int×Str×Int:=if zdT 39 q then(5,w,0) else(0,[],5)
def zcE(w q:Str):Nat:=if zdT 39 q then w.length+2 else w.length+1
theorem znH{w q:Str}{i:Nat}(h:zdT 39 q=true):zcF w q=(5,w,0)/\i+zcE w q=i+1+w.length+1:=by
 simp only[zcF,zcE,h,if_true];exact⟨trivial,by omega⟩
theorem zmF{w q:Str}{i:Nat}(h:zdT 39 q=false):zcF w q=(0,[],5)/\i+zcE w q=i+1+w.length:=by
 simp only[zcF,zcE,h];exact⟨rfl,by simp;omega⟩
set_option maxHeartbeats 1000000 in
theorem zk2 (s:Str) (hs:s.length≤1000000) (i:Nat) (hi:i<s.length):
  Sound Tryz.prog 57 [.ref 0 0] (scanner s i) (fun r H'=>r= .ret (tokR (zcF (zaq zav (s.drop (i+1))) (behind zav (s.drop (i+1)))))/\H'=scanner s (i+zcE (zaq zav (s.drop (i+1))) (behind zav (s.drop (i+1))))):=by
 refine so Tryz.func57 ?_
 have hS1:=zda 78 zav zjj s hs (i+1) hi
 have hl:=zhh zav s (i+1) hi
 rw[<-zdW zav s (i+1)]
 generalize zaq zav (s.drop (i+1))=a at hS1 hl⊢
 by_cases he:i+1+a.length<s.length
 ·have hx:=qab he
  have hh:=ziQ (n:=39) he
  generalize s[i+1+a.length]=c at hx hh
  repeat' (first
   | (apply TO.move;exact rfl;exact rfl)
   | (apply TO.assign;exact rfl;exact rfl)
   | (apply TO.want;exact rfl)
   | refine zql ?_
   | refine zqc ?_
   | (apply TO.eqs;(iterate 3 exact rfl))
   | (apply TO.nes;(iterate 3 exact rfl))
   | (apply TO.cmp;(iterate 4 exact rfl))
   | (intro hc;exact absurd hc (by decide))
   | (intro hc;exfalso;simp only[decide_eq_true_eq,decide_eq_false_iff_not,beq_iff_eq,beq_eq_false_iff_ne,bne_iff_ne,bne_eq_false_iff_eq,ne_eq,qap,not_true_eq_false]at hc;done)
   | (intro hc;exfalso;(first|simp only[decide_eq_true_eq,decide_eq_false_iff_not,beq_iff_eq,beq_eq_false_iff_ne,bne_iff_ne,bne_eq_false_iff_eq,ne_eq,qap,not_true_eq_false]at hc|skip);first|omega|(simp only[qai,qac]at *;omega))
   | intro hc
   | (apply TO.pick;(iterate 3 exact rfl))
   | (apply TO.pass;exact rfl;exact rfl)
   | (apply TO.zcr;exact rfl)
   | (apply TO.load zaa;(iterate 5 exact rfl))
   | (apply TO.zaN zaa;(iterate 6 exact rfl))
   | (apply TO.fieldAddr zaa;(iterate 5 exact rfl);decide;exact rfl)
   | (apply TO.zam zaa;(iterate 5 exact rfl);decide;exact rfl)
   | (apply TO.nilCheck;(iterate 3 exact rfl))
   | (apply TO.zaE zaa;(iterate 5 exact rfl);assumption)
   | (apply TO.zax zaa;(iterate 5 exact rfl);decide;exact rfl)
   | (apply TO.za0 zaa;(iterate 4 exact rfl))
   | (apply TO.zbt zaa;(iterate 7 exact rfl))
   | refine zqg ?_
   | (apply TO.extract;(iterate 3 exact rfl))
   | (apply TO.zdu [0] (v':=.s a) (H':=[.cells [.s s,.i ((i+1+a.length:Nat):Int)],.cells [.i 0,.s [],.i 0]]) (hS1);(iterate 3 exact rfl);(first|exact⟨Le.refl _,trivial⟩|exact⟨Le.refl _,Le.refl _,trivial⟩|exact⟨Le.refl _,Le.refl _,Le.refl _,trivial⟩);exact rfl;exact Hands.one rfl rfl;exact rfl;exact rfl)
   | refine TO.nil ?_
   | refine TR.seq ?_
   | refine TR.region ?_
   | (apply TR.zco;exact rfl)
   | (apply TR.zcn;exact rfl)
   | refine Then.normal ?_
   | refine TR.block ?_
   | refine TR.skip ?_
   | (apply TR.za1 hmix;kernel_rfl;exact rfl)
   | refine TR.exit ?_
   | refine TR.ret ?_
   | refine Then.exit ?_
   | refine Then.ret ?_
   | refine zaf.exit ?_
   | refine zaf.ret ?_
   | refine zac.normal ?_
   | refine zac.ret ?_
   | (apply zac.same;exact rfl)
   | (apply zac.other;exact rfl)
   | (apply TO.zaH;(iterate 3 exact rfl);omega;omega)
   | (apply TO.mul64;(iterate 3 exact rfl);omega;omega)
   | (apply TO.convert_u8;exact rfl;kernel_rfl;kernel_rfl;exact rfl)
   | (apply TO.bin;(iterate 4 exact rfl))
   | (apply TO.zbu zaa;(iterate 6 exact rfl);omega;omega)
   | (apply TO.zaL zaa;(iterate 5 exact rfl);omega)
   | (apply TO.zaO zaa;(iterate 5 exact rfl);omega)
   | (apply TO.not;exact rfl;exact rfl)
   | (apply TO.zau;exact rfl;exact rfl)
   | (apply TO.zaQ zaa;(iterate 4 exact rfl);exact leB)
   | (apply TO.zap zaa;(iterate 5 exact rfl);exact leB)
   | (apply TO.zbs zaa;(iterate 4 exact rfl))
   | (apply TO.zbr zaa;(iterate 7 exact rfl))
   | (apply TO.build zaa;(iterate 6 exact rfl))
   | refine zqn ?_
   | refine zqm ?_
   | refine zqe ?_
   | refine zqj ?_
   | refine zqb ?_
   | (apply TO.eqb;(iterate 3 exact rfl);kernel_rfl)
   | (apply TO.neb;(iterate 3 exact rfl);kernel_rfl)
   | (apply TO.zaC (j:=0) zaa;(iterate 10 exact rfl))
   | (apply TO.makeFunc;exact rfl;exact rfl)
   | (apply TO.zak zaa;(iterate 5 exact rfl);decide;exact rfl)
   | (apply TO.eq_nil_ptr zaa;(iterate 5 exact rfl))
   | (apply TO.eq_nil_nil zaa;(iterate 4 exact rfl))
   | (apply TO.ne_nil_ptr zaa;(iterate 5 exact rfl))
   | (apply TO.ne_nil_nil zaa;(iterate 4 exact rfl))
   | refine zqi ?_
   | refine zqk ?_
   | (apply TO.ssl_hi zaa;(iterate 8 exact rfl);omega))
  ·obtain⟨e1,e2⟩:=zmF (w:=a) (i:=i) (hh.trans (by simpa using hc))
   exact zweo
  ·obtain⟨e1,e2⟩:=znH (w:=a) (i:=i) (hh.trans (by simpa using hc))
   exact zweo
 ·have hh:zdT 39 (s.drop (i+1+a.length))=false:=by rw[qbw (by omega)];rfl
  repeat' (first
   | (apply TO.move;exact rfl;exact rfl)
   | (apply TO.assign;exact rfl;exact rfl)
   | (apply TO.want;exact rfl)
   | refine zql ?_
   | refine zqc ?_
   | (apply TO.eqs;(iterate 3 exact rfl))
   | (apply TO.nes;(iterate 3 exact rfl))
   | (apply TO.cmp;(iterate 4 exact rfl))
   | (intro hc;exact absurd hc (by decide))
   | (intro hc;exfalso;simp only[decide_eq_true_eq,decide_eq_false_iff_not,beq_iff_eq,beq_eq_false_iff_ne,bne_iff_ne,bne_eq_false_iff_eq,ne_eq,qap,not_true_eq_false]at hc;done)
   | (intro hc;exfalso;(first|simp only[decide_eq_true_eq,decide_eq_false_iff_not,beq_iff_eq,beq_eq_false_iff_ne,bne_iff_ne,bne_eq_false_iff_eq,ne_eq,qap,not_true_eq_false]at hc|skip);first|omega|(simp only[qai,qac]at *;omega))
   | intro hc
   | (apply TO.pick;(iterate 3 exact rfl))
   | (apply TO.pass;exact rfl;exact rfl)
   | (apply TO.zcr;exact rfl)
   | (apply TO.load zaa;(iterate 5 exact rfl))
   | (apply TO.zaN zaa;(iterate 6 exact rfl))
   | (apply TO.fieldAddr zaa;(iterate 5 exact rfl);decide;exact rfl)
   | (apply TO.zam zaa;(iterate 5 exact rfl);decide;exact rfl)
   | (apply TO.nilCheck;(iterate 3 exact rfl))
   | (apply TO.zaE zaa;(iterate 5 exact rfl);assumption)
   | (apply TO.zax zaa;(iterate 5 exact rfl);decide;exact rfl)
   | (apply TO.za0 zaa;(iterate 4 exact rfl))
   | (apply TO.zbt zaa;(iterate 7 exact rfl))
   | refine zqg ?_
   | (apply TO.extract;(iterate 3 exact rfl))
   | (apply TO.zdu [0] (v':=.s a) (H':=[.cells [.s s,.i ((i+1+a.length:Nat):Int)],.cells [.i 0,.s [],.i 0]]) (hS1);(iterate 3 exact rfl);(first|exact⟨Le.refl _,trivial⟩|exact⟨Le.refl _,Le.refl _,trivial⟩|exact⟨Le.refl _,Le.refl _,Le.refl _,trivial⟩);exact rfl;exact Hands.one rfl rfl;exact rfl;exact rfl)
   | refine TO.nil ?_
   | refine TR.seq ?_
   | refine TR.region ?_
   | (apply TR.zco;exact rfl)
   | (apply TR.zcn;exact rfl)
   | refine Then.normal ?_
   | refine TR.block ?_
   | refine TR.skip ?_
   | (apply TR.za1 hmix;kernel_rfl;exact rfl)
   | refine TR.exit ?_
   | refine TR.ret ?_
   | refine Then.exit ?_
   | refine Then.ret ?_
   | refine zaf.exit ?_
   | refine zaf.ret ?_
   | refine zac.normal ?_
   | refine zac.ret ?_
   | (apply zac.same;exact rfl)
   | (apply zac.other;exact rfl)
   | (apply TO.zaH;(iterate 3 exact rfl);omega;omega)
   | (apply TO.mul64;(iterate 3 exact rfl);omega;omega)
   | (apply TO.convert_u8;exact rfl;kernel_rfl;kernel_rfl;exact rfl)
   | (apply TO.bin;(iterate 4 exact rfl))
   | (apply TO.zbu zaa;(iterate 6 exact rfl);omega;omega)
   | (apply TO.zaL zaa;(iterate 5 exact rfl);omega)
   | (apply TO.zaO zaa;(iterate 5 exact rfl);omega)
   | (apply TO.not;exact rfl;exact rfl)
   | (apply TO.zau;exact rfl;exact rfl)
   | (apply TO.zaQ zaa;(iterate 4 exact rfl);exact leB)
   | (apply TO.zap zaa;(iterate 5 exact rfl);exact leB)
   | (apply TO.zbs zaa;(iterate 4 exact rfl))
   | (apply TO.zbr zaa;(iterate 7 exact rfl))
   | (apply TO.build zaa;(iterate 6 exact rfl))
   | refine zqn ?_
   | refine zqm ?_
   | refine zqe ?_
   | refine zqj ?_
   | refine zqb ?_
   | (apply TO.eqb;(iterate 3 exact rfl);kernel_rfl)
   | (apply TO.neb;(iterate 3 exact rfl);kernel_rfl)
   | (apply TO.zaC (j:=0) zaa;(iterate 10 exact rfl))
   | (apply TO.makeFunc;exact rfl;exact rfl)
   | (apply TO.zak zaa;(iterate 5 exact rfl);decide;exact rfl)
   | (apply TO.eq_nil_ptr zaa;(iterate 5 exact rfl))
   | (apply TO.eq_nil_nil zaa;(iterate 4 exact rfl))
   | (apply TO.ne_nil_ptr zaa;(iterate 5 exact rfl))
   | (apply TO.ne_nil_nil zaa;(iterate 4 exact rfl))
   | refine zqi ?_
   | refine zqk ?_
   | (apply TO.ssl_hi zaa;(iterate 8 exact rfl);omega))
  obtain⟨e1,e2⟩:=zmF (w:=a) (i:=i) hh
  exact zweo
def zec(l b x:Str):Str:=if decide ((b.length:Int)<x.length) && zbh l x then x else b
def best(l:Str)(all:List Str):Str:=all.foldl (zec l) []
theorem zlf(l:Str)(all:List Str):∀b:Str,b.length≤l.length->(all.foldl (zec l) b).length≤l.length:=by
 induction all with
 | nil=>exact fun b h=>h
 | cons x all ih=>
   refine fun b h=>ih _ ?_
   unfold zec;split
   ·rename_i g
    simp only[qat,zbh,decide_eq_true_eq]at g
    exact g.2.1
   ·exact h
def zeX(b:Str):Int×Str×Int:=if b == [] then(0,[],5) else(4,b,0)
set_option maxHeartbeats 1000000 in
theorem zim (all:List Str) (hall:all.length≤1000000) (s:Str) (hs:s.length≤1000000) (i:Nat) (hi:i≤s.length):
  Sound Tryz.prog 58 [.ref 0 0,.t (.sl 1 (all.map T.s))] (scanner s i) (fun r H'=>r= .ret (tokR (zeX (best (s.drop i) all)))/\H'=scanner s (i+(best (s.drop i) all).length)):=by
 refine so Tryz.func58 ?_
 repeat' (first
  | (apply TO.move;exact rfl;exact rfl)
  | (apply TO.assign;exact rfl;exact rfl)
  | (apply TO.want;exact rfl)
  | refine zql ?_
  | refine zqc ?_
  | (apply TO.eqs;(iterate 3 exact rfl))
  | (apply TO.nes;(iterate 3 exact rfl))
  | (apply TO.cmp;(iterate 4 exact rfl))
  | (intro hc;exact absurd hc (by decide))
  | (intro hc;exfalso;simp only[decide_eq_true_eq,decide_eq_false_iff_not,beq_iff_eq,beq_eq_false_iff_ne,bne_iff_ne,bne_eq_false_iff_eq,ne_eq,qap,not_true_eq_false]at hc;done)
  | (intro hc;exfalso;(first|simp only[decide_eq_true_eq,decide_eq_false_iff_not,beq_iff_eq,beq_eq_false_iff_ne,bne_iff_ne,bne_eq_false_iff_eq,ne_eq,qap,not_true_eq_false]at hc|skip);first|omega|(simp only[qai,qac]at *;omega))
  | intro hc
  | (apply TO.pick;(iterate 3 exact rfl))
  | (apply TO.pass;exact rfl;exact rfl)
  | (apply TO.zcr;exact rfl)
  | (apply TO.load zaa;(iterate 5 exact rfl))
  | (apply TO.zaN zaa;(iterate 6 exact rfl))
  | (apply TO.fieldAddr zaa;(iterate 5 exact rfl);decide;exact rfl)
  | (apply TO.zam zaa;(iterate 5 exact rfl);decide;exact rfl)
  | (apply TO.nilCheck;(iterate 3 exact rfl))
  | (apply TO.zaE zaa;(iterate 5 exact rfl);assumption)
  | (apply TO.zax zaa;(iterate 5 exact rfl);decide;exact rfl)
  | (apply TO.za0 zaa;(iterate 4 exact rfl))
  | (apply TO.zbt zaa;(iterate 7 exact rfl))
  | refine zqg ?_
  | (apply TO.extract;(iterate 3 exact rfl))
  | refine TO.nil ?_
  | refine TR.seq ?_
  | refine TR.region ?_
  | (apply TR.zco;exact rfl)
  | (apply TR.zcn;exact rfl)
  | refine Then.normal ?_
  | refine TR.block ?_
  | refine TR.skip ?_
  | (apply TR.za1 hmix;kernel_rfl;exact rfl)
  | refine TR.exit ?_
  | refine TR.ret ?_
  | refine Then.exit ?_
  | refine Then.ret ?_
  | refine zaf.exit ?_
  | refine zaf.ret ?_
  | refine zac.normal ?_
  | refine zac.ret ?_
  | (apply zac.same;exact rfl)
  | (apply zac.other;exact rfl)
  | (apply TO.zaH;(iterate 3 exact rfl);omega;omega)
  | (apply TO.mul64;(iterate 3 exact rfl);omega;omega)
  | (apply TO.convert_u8;exact rfl;kernel_rfl;kernel_rfl;exact rfl)
  | (apply TO.bin;(iterate 4 exact rfl))
  | (apply TO.zbu zaa;(iterate 6 exact rfl);omega;omega)
  | (apply TO.zaL zaa;(iterate 5 exact rfl);omega)
  | (apply TO.zaO zaa;(iterate 5 exact rfl);omega)
  | (apply TO.not;exact rfl;exact rfl)
  | (apply TO.zau;exact rfl;exact rfl)
  | (apply TO.zaQ zaa;(iterate 4 exact rfl);exact leB)
  | (apply TO.zap zaa;(iterate 5 exact rfl);exact leB)
  | (apply TO.zbs zaa;(iterate 4 exact rfl))
  | (apply TO.zbr zaa;(iterate 7 exact rfl))
  | (apply TO.build zaa;(iterate 6 exact rfl))
  | refine zqn ?_
  | refine zqm ?_
  | refine zqe ?_
  | refine zqj ?_
  | refine zqb ?_
  | (apply TO.eqb;(iterate 3 exact rfl);kernel_rfl)
  | (apply TO.neb;(iterate 3 exact rfl);kernel_rfl)
  | (apply TO.zaC (j:=0) zaa;(iterate 10 exact rfl))
  | (apply TO.makeFunc;exact rfl;exact rfl)
  | (apply TO.zak zaa;(iterate 5 exact rfl);decide;exact rfl)
  | (apply TO.eq_nil_ptr zaa;(iterate 5 exact rfl))
  | (apply TO.eq_nil_nil zaa;(iterate 4 exact rfl))
  | (apply TO.ne_nil_ptr zaa;(iterate 5 exact rfl))
  | (apply TO.ne_nil_nil zaa;(iterate 4 exact rfl))
  | refine zqi ?_
  | refine zqk ?_
  | (apply TO.ssl_hi zaa;(iterate 8 exact rfl);omega))
 refine TR.za3 (ι:=Nat) (fun k=>k≤all.length) (fun k=>all.length-k) (fun k=>[(0,.ref 0 0),(11,.i k),(10,.i (all.map T.s).length),(9,.t (.sl 1 (all.map T.s))),(6,.s (best (s.drop i) (all.take k))),(5,.i 0),(4,.ref 1 0)]) (fun _=>[.cells [.s s,.i i],.cells [.i 0,.s [],.i 0]]) 0 (qaT _) ⟨rfl,rfl,rfl,rfl,rfl,rfl,rfl,trivial⟩ rfl ?_
 intro k hk
 have hml:(all.map T.s).length=all.length:=qad _
 by_cases hlt:k<all.length
 ·have hx:(all.map T.s)[k]?=some (T.s all[k]):=by rw[qar,qab hlt];rfl
  have hb:best (s.drop i) (all.take (k+1))=zec (s.drop i) (best (s.drop i) (all.take k)) all[k]:=by
   rw[best,qaH hlt,qb4];rfl
  generalize all[k]=x at hx hb
  repeat' (first
   | (apply TO.move;exact rfl;exact rfl)
   | (apply TO.assign;exact rfl;exact rfl)
   | (apply TO.want;exact rfl)
   | refine zql ?_
   | refine zqc ?_
   | (apply TO.eqs;(iterate 3 exact rfl))
   | (apply TO.nes;(iterate 3 exact rfl))
   | (apply TO.cmp;(iterate 4 exact rfl))
   | (intro hc;exact absurd hc (by decide))
   | (intro hc;exfalso;simp only[decide_eq_true_eq,decide_eq_false_iff_not,beq_iff_eq,beq_eq_false_iff_ne,bne_iff_ne,bne_eq_false_iff_eq,ne_eq,qap,not_true_eq_false]at hc;done)
   | (intro hc;exfalso;(first|simp only[decide_eq_true_eq,decide_eq_false_iff_not,beq_iff_eq,beq_eq_false_iff_ne,bne_iff_ne,bne_eq_false_iff_eq,ne_eq,qap,not_true_eq_false]at hc|skip);first|omega|(simp only[qai,qac]at *;omega))
   | intro hc
   | (apply TO.pick;(iterate 3 exact rfl))
   | (apply TO.pass;exact rfl;exact rfl)
   | (apply TO.zcr;exact rfl)
   | (apply TO.load zaa;(iterate 5 exact rfl))
   | (apply TO.zaN zaa;(iterate 6 exact rfl))
   | (apply TO.fieldAddr zaa;(iterate 5 exact rfl);decide;exact rfl)
   | (apply TO.zam zaa;(iterate 5 exact rfl);decide;exact rfl)
   | (apply TO.nilCheck;(iterate 3 exact rfl))
   | (apply TO.zaE zaa;(iterate 5 exact rfl);assumption)
   | (apply TO.zax zaa;(iterate 5 exact rfl);decide;exact rfl)
   | (apply TO.za0 zaa;(iterate 4 exact rfl))
   | (apply TO.zbt zaa;(iterate 7 exact rfl))
   | refine zqg ?_
   | (apply TO.extract;(iterate 3 exact rfl))
   | (apply TO.zdq (zdz _ _);(iterate 3 exact rfl);exact⟨.t _,.t _,trivial⟩)
   | refine TO.nil ?_
   | refine TR.seq ?_
   | refine TR.region ?_
   | (apply TR.zco;exact rfl)
   | (apply TR.zcn;exact rfl)
   | refine Then.normal ?_
   | refine TR.block ?_
   | refine TR.skip ?_
   | (apply TR.za1 hmix;kernel_rfl;exact rfl)
   | refine TR.exit ?_
   | refine TR.ret ?_
   | refine Then.exit ?_
   | refine Then.ret ?_
   | refine zaf.exit ?_
   | refine zaf.ret ?_
   | refine zac.normal ?_
   | refine zac.ret ?_
   | (apply zac.same;exact rfl)
   | (apply zac.other;exact rfl)
   | (apply TO.zaH;(iterate 3 exact rfl);omega;omega)
   | (apply TO.mul64;(iterate 3 exact rfl);omega;omega)
   | (apply TO.convert_u8;exact rfl;kernel_rfl;kernel_rfl;exact rfl)
   | (apply TO.bin;(iterate 4 exact rfl))
   | (apply TO.zbu zaa;(iterate 6 exact rfl);omega;omega)
   | (apply TO.zaL zaa;(iterate 5 exact rfl);omega)
   | (apply TO.zaO zaa;(iterate 5 exact rfl);omega)
   | (apply TO.not;exact rfl;exact rfl)
   | (apply TO.zau;exact rfl;exact rfl)
   | (apply TO.zaQ zaa;(iterate 4 exact rfl);exact leB)
   | (apply TO.zap zaa;(iterate 5 exact rfl);exact leB)
   | (apply TO.zbs zaa;(iterate 4 exact rfl))
   | (apply TO.zbr zaa;(iterate 7 exact rfl))
   | (apply TO.build zaa;(iterate 6 exact rfl))
   | refine zqn ?_
   | refine zqm ?_
   | refine zqe ?_
   | refine zqj ?_
   | refine zqb ?_
   | (apply TO.eqb;(iterate 3 exact rfl);kernel_rfl)
   | (apply TO.neb;(iterate 3 exact rfl);kernel_rfl)
   | (apply TO.zaC (j:=0) zaa;(iterate 10 exact rfl))
   | (apply TO.makeFunc;exact rfl;exact rfl)
   | (apply TO.zak zaa;(iterate 5 exact rfl);decide;exact rfl)
   | (apply TO.eq_nil_ptr zaa;(iterate 5 exact rfl))
   | (apply TO.eq_nil_nil zaa;(iterate 4 exact rfl))
   | (apply TO.ne_nil_ptr zaa;(iterate 5 exact rfl))
   | (apply TO.ne_nil_nil zaa;(iterate 4 exact rfl))
   | refine zqi ?_
   | refine zqk ?_
   | (apply TO.ssl_hi zaa;(iterate 8 exact rfl);omega))
  ·refine zaf.next (k+1) hlt (by omega) ⟨rfl,rfl,rfl,rfl,?_,rfl,rfl,trivial⟩ rfl
   rw[hb,zec,if_pos (by simp_all)];rfl
  ·refine zaf.next (k+1) hlt (by omega) ⟨rfl,rfl,rfl,rfl,?_,rfl,rfl,trivial⟩ rfl
   rw[hb,zec,if_neg (by simp_all)];rfl
  ·refine zaf.next (k+1) hlt (by omega) ⟨rfl,rfl,rfl,rfl,?_,rfl,rfl,trivial⟩ rfl
   rw[hb,zec,if_neg (by rw[hc];simp)];rfl
 ·have hkl:k=all.length:=by omega
  subst hkl
  rw[qbc]
  have hbl:=zlf (s.drop i) all [] (qaT _)
  rw[<-best,qaM]at hbl
  generalize best (s.drop i) all=b at hbl
  repeat' (first
   | (apply TO.move;exact rfl;exact rfl)
   | (apply TO.assign;exact rfl;exact rfl)
   | (apply TO.want;exact rfl)
   | refine zql ?_
   | refine zqc ?_
   | (apply TO.eqs;(iterate 3 exact rfl))
   | (apply TO.nes;(iterate 3 exact rfl))
   | (apply TO.cmp;(iterate 4 exact rfl))
   | (intro hc;exact absurd hc (by decide))
   | (intro hc;exfalso;simp only[decide_eq_true_eq,decide_eq_false_iff_not,beq_iff_eq,beq_eq_false_iff_ne,bne_iff_ne,bne_eq_false_iff_eq,ne_eq,qap,not_true_eq_false]at hc;done)
   | (intro hc;exfalso;(first|simp only[decide_eq_true_eq,decide_eq_false_iff_not,beq_iff_eq,beq_eq_false_iff_ne,bne_iff_ne,bne_eq_false_iff_eq,ne_eq,qap,not_true_eq_false]at hc|skip);first|omega|(simp only[qai,qac]at *;omega))
   | intro hc
   | (apply TO.pick;(iterate 3 exact rfl))
   | (apply TO.pass;exact rfl;exact rfl)
   | (apply TO.zcr;exact rfl)
   | (apply TO.load zaa;(iterate 5 exact rfl))
   | (apply TO.zaN zaa;(iterate 6 exact rfl))
   | (apply TO.fieldAddr zaa;(iterate 5 exact rfl);decide;exact rfl)
   | (apply TO.zam zaa;(iterate 5 exact rfl);decide;exact rfl)
   | (apply TO.nilCheck;(iterate 3 exact rfl))
   | (apply TO.zaE zaa;(iterate 5 exact rfl);assumption)
   | (apply TO.zax zaa;(iterate 5 exact rfl);decide;exact rfl)
   | (apply TO.za0 zaa;(iterate 4 exact rfl))
   | (apply TO.zbt zaa;(iterate 7 exact rfl))
   | refine zqg ?_
   | (apply TO.extract;(iterate 3 exact rfl))
   | (apply TO.zdq (zdz _ _);(iterate 3 exact rfl);exact⟨.t _,.t _,trivial⟩)
   | refine TO.nil ?_
   | refine TR.seq ?_
   | refine TR.region ?_
   | (apply TR.zco;exact rfl)
   | (apply TR.zcn;exact rfl)
   | refine Then.normal ?_
   | refine TR.block ?_
   | refine TR.skip ?_
   | (apply TR.za1 hmix;kernel_rfl;exact rfl)
   | refine TR.exit ?_
   | refine TR.ret ?_
   | refine Then.exit ?_
   | refine Then.ret ?_
   | refine zaf.exit ?_
   | refine zaf.ret ?_
   | refine zac.normal ?_
   | refine zac.ret ?_
   | (apply zac.same;exact rfl)
   | (apply zac.other;exact rfl)
   | (apply TO.zaH;(iterate 3 exact rfl);omega;omega)
   | (apply TO.mul64;(iterate 3 exact rfl);omega;omega)
   | (apply TO.convert_u8;exact rfl;kernel_rfl;kernel_rfl;exact rfl)
   | (apply TO.bin;(iterate 4 exact rfl))
   | (apply TO.zbu zaa;(iterate 6 exact rfl);omega;omega)
   | (apply TO.zaL zaa;(iterate 5 exact rfl);omega)
   | (apply TO.zaO zaa;(iterate 5 exact rfl);omega)
   | (apply TO.not;exact rfl;exact rfl)
   | (apply TO.zau;exact rfl;exact rfl)
   | (apply TO.zaQ zaa;(iterate 4 exact rfl);exact leB)
   | (apply TO.zap zaa;(iterate 5 exact rfl);exact leB)
   | (apply TO.zbs zaa;(iterate 4 exact rfl))
   | (apply TO.zbr zaa;(iterate 7 exact rfl))
   | (apply TO.build zaa;(iterate 6 exact rfl))
   | refine zqn ?_
   | refine zqm ?_
   | refine zqe ?_
   | refine zqj ?_
   | refine zqb ?_
   | (apply TO.eqb;(iterate 3 exact rfl);kernel_rfl)
   | (apply TO.neb;(iterate 3 exact rfl);kernel_rfl)
   | (apply TO.zaC (j:=0) zaa;(iterate 10 exact rfl))
   | (apply TO.makeFunc;exact rfl;exact rfl)
   | (apply TO.zak zaa;(iterate 5 exact rfl);decide;exact rfl)
   | (apply TO.eq_nil_ptr zaa;(iterate 5 exact rfl))
   | (apply TO.eq_nil_nil zaa;(iterate 4 exact rfl))
   | (apply TO.ne_nil_ptr zaa;(iterate 5 exact rfl))
   | (apply TO.ne_nil_nil zaa;(iterate 4 exact rfl))
   | refine zqi ?_
   | refine zqk ?_
   | (apply TO.ssl_hi zaa;(iterate 8 exact rfl);omega))
  ·have:b=[]:=by simpa using hc
   subst this
   exact zwfg
  ·have e1:zeX b=(4,b,0):=if_neg (by simp[hc])
   rw[e1]
   exact zwfg
end Go.Proofs.YtpfnfpaahefdaaaGreat
