import Derived.Test.YtpfnfpaahefdaaaGreatPk16
set_option linter.all false
namespace Go.Proofs.YtpfnfpaahefdaaaGreat
open Go Go.TL
attribute [local irreducible] TR TO Then zab RetK Sound zac Kf GG za2
def zec(n:Int):Str->Bool
 | c::_=>(c.toNat:Int) == n
 | []=>false
theorem zjB{n:Int}{s:Str}{k:Nat}(h:k<s.length):zec n (s.drop k)=((s[k].toNat:Int) == n):=by
 rw[qaF h];rfl
def zcT(w q:Str):Int×Str×Int:=if zec 39 q then(5,w,0) else(0,[],5)
def zcS(w q:Str):Nat:=if zec 39 q then w.length+2 else w.length+1
theorem zoL{w q:Str}{i:Nat}(h:zec 39 q=true):zcT w q=(5,w,0)/\i+zcS w q=i+1+w.length+1:=by
 simp only[zcT,zcS,h,if_true];exact⟨trivial,by omega⟩
theorem znI{w q:Str}{i:Nat}(h:zec 39 q=false):zcT w q=(0,[],5)/\i+zcS w q=i+1+w.length:=by
 simp only[zcT,zcS,h];exact⟨rfl,by simp;omega⟩
set_option maxHeartbeats 1000000 in
theorem zl5 (s:Str) (hs:s.length≤1000000) (i:Nat) (hi:i<s.length):
  Sound Tryz.prog 57 [.ref 0 0] (scanner s i) (fun r H'=>r= .ret (tokR (zcT (zat zaA (s.drop (i+1))) (behind zaA (s.drop (i+1)))))/\H'=scanner s (i+zcS (zat zaA (s.drop (i+1))) (behind zaA (s.drop (i+1))))):=by
 refine so Tryz.func57 ?_
 have hS1:=zdp 78 zaA zj7 s hs (i+1) hi
 have hl:=zhT zaA s (i+1) hi
 rw[<-zeh zaA s (i+1)]
 generalize zat zaA (s.drop (i+1))=a at hS1 hl⊢
 by_cases he:i+1+a.length<s.length
 ·have hx:=qab he
  have hh:=zjB (n:=39) he
  generalize s[i+1+a.length]=c at hx hh
  repeat' (first
   | (apply TO.move;exact rfl;exact rfl)
   | (apply TO.assign;exact rfl;exact rfl)
   | (apply TO.want;exact rfl)
   | refine zqn ?_
   | refine zqc ?_
   | (apply TO.eqs;(iterate 3 exact rfl))
   | (apply TO.nes;(iterate 3 exact rfl))
   | (apply TO.cmp;(iterate 4 exact rfl))
   | (intro hc;exact absurd hc (by decide))
   | (intro hc;exfalso;simp only[decide_eq_true_eq,decide_eq_false_iff_not,beq_iff_eq,beq_eq_false_iff_ne,bne_iff_ne,bne_eq_false_iff_eq,ne_eq,qam,not_true_eq_false]at hc;done)
   | (intro hc;exfalso;(first|simp only[decide_eq_true_eq,decide_eq_false_iff_not,beq_iff_eq,beq_eq_false_iff_ne,bne_iff_ne,bne_eq_false_iff_eq,ne_eq,qam,not_true_eq_false]at hc|skip);first|omega|(simp only[qaf,qac]at *;omega))
   | intro hc
   | (apply TO.pick;(iterate 3 exact rfl))
   | (apply TO.pass;exact rfl;exact rfl)
   | (apply TO.zbP;exact rfl)
   | (apply TO.load zaa;(iterate 5 exact rfl))
   | (apply TO.zaD zaa;(iterate 6 exact rfl))
   | (apply TO.fieldAddr zaa;(iterate 5 exact rfl);decide;exact rfl)
   | (apply TO.zaj zaa;(iterate 5 exact rfl);decide;exact rfl)
   | (apply TO.nilCheck;(iterate 3 exact rfl))
   | (apply TO.zaw zaa;(iterate 5 exact rfl);assumption)
   | (apply TO.zau zaa;(iterate 5 exact rfl);decide;exact rfl)
   | (apply TO.zaT zaa;(iterate 4 exact rfl))
   | (apply TO.zba zaa;(iterate 7 exact rfl))
   | refine zqg ?_
   | (apply TO.extract;(iterate 3 exact rfl))
   | (apply TO.zcC [0] (v':=.s a) (H':=[.cells [.s s,.i ((i+1+a.length:Nat):Int)],.cells [.i 0,.s [],.i 0]]) (hS1);(iterate 3 exact rfl);(first|exact⟨Le.refl _,trivial⟩|exact⟨Le.refl _,Le.refl _,trivial⟩|exact⟨Le.refl _,Le.refl _,Le.refl _,trivial⟩);exact rfl;exact Hands.one rfl rfl;exact rfl;exact rfl)
   | refine TO.nil ?_
   | refine TR.seq ?_
   | refine TR.region ?_
   | (apply TR.zbO;exact rfl)
   | (apply TR.zbN;exact rfl)
   | refine Then.normal ?_
   | refine TR.block ?_
   | refine TR.skip ?_
   | (apply TR.zaU hmix;kernel_rfl;exact rfl)
   | refine TR.exit ?_
   | refine TR.ret ?_
   | refine Then.exit ?_
   | refine Then.ret ?_
   | refine zac.exit ?_
   | refine zac.ret ?_
   | refine zab.normal ?_
   | refine zab.ret ?_
   | (apply zab.same;exact rfl)
   | (apply zab.other;exact rfl)
   | (apply TO.zaI;(iterate 3 exact rfl);omega;omega)
   | (apply TO.mul64;(iterate 3 exact rfl);omega;omega)
   | (apply TO.convert_u8;exact rfl;kernel_rfl;kernel_rfl;exact rfl)
   | (apply TO.bin;(iterate 4 exact rfl))
   | (apply TO.zbb zaa;(iterate 6 exact rfl);omega;omega)
   | (apply TO.zaB zaa;(iterate 5 exact rfl);omega)
   | (apply TO.zaE zaa;(iterate 5 exact rfl);omega)
   | (apply TO.not;exact rfl;exact rfl)
   | (apply TO.zan;exact rfl;exact rfl)
   | (apply TO.zaH zaa;(iterate 4 exact rfl);exact leB)
   | (apply TO.zak zaa;(iterate 5 exact rfl);exact leB)
   | (apply TO.za9 zaa;(iterate 4 exact rfl))
   | (apply TO.za6 zaa;(iterate 7 exact rfl))
   | (apply TO.build zaa;(iterate 6 exact rfl))
   | refine zqp ?_
   | refine zqo ?_
   | refine zqe ?_
   | refine zqk ?_
   | refine zqb ?_
   | (apply TO.eqb;(iterate 3 exact rfl);kernel_rfl)
   | (apply TO.neb;(iterate 3 exact rfl);kernel_rfl)
   | (apply TO.zay (j:=0) zaa;(iterate 10 exact rfl))
   | (apply TO.makeFunc;exact rfl;exact rfl)
   | (apply TO.zah zaa;(iterate 5 exact rfl);decide;exact rfl)
   | (apply TO.zar zaa;(iterate 5 exact rfl))
   | (apply TO.zaq zaa;(iterate 4 exact rfl))
   | (apply TO.ne_nil_ptr zaa;(iterate 5 exact rfl))
   | (apply TO.ne_nil_nil zaa;(iterate 4 exact rfl))
   | refine zqj ?_
   | refine zql ?_
   | (apply TO.ssl_hi zaa;(iterate 8 exact rfl);omega))
  ·obtain⟨e1,e2⟩:=znI (w:=a) (i:=i) (hh.trans (by simpa using hc))
   exact zwez
  ·obtain⟨e1,e2⟩:=zoL (w:=a) (i:=i) (hh.trans (by simpa using hc))
   exact zwez
 ·have hh:zec 39 (s.drop (i+1+a.length))=false:=by rw[qbp (by omega)];rfl
  repeat' (first
   | (apply TO.move;exact rfl;exact rfl)
   | (apply TO.assign;exact rfl;exact rfl)
   | (apply TO.want;exact rfl)
   | refine zqn ?_
   | refine zqc ?_
   | (apply TO.eqs;(iterate 3 exact rfl))
   | (apply TO.nes;(iterate 3 exact rfl))
   | (apply TO.cmp;(iterate 4 exact rfl))
   | (intro hc;exact absurd hc (by decide))
   | (intro hc;exfalso;simp only[decide_eq_true_eq,decide_eq_false_iff_not,beq_iff_eq,beq_eq_false_iff_ne,bne_iff_ne,bne_eq_false_iff_eq,ne_eq,qam,not_true_eq_false]at hc;done)
   | (intro hc;exfalso;(first|simp only[decide_eq_true_eq,decide_eq_false_iff_not,beq_iff_eq,beq_eq_false_iff_ne,bne_iff_ne,bne_eq_false_iff_eq,ne_eq,qam,not_true_eq_false]at hc|skip);first|omega|(simp only[qaf,qac]at *;omega))
   | intro hc
   | (apply TO.pick;(iterate 3 exact rfl))
   | (apply TO.pass;exact rfl;exact rfl)
   | (apply TO.zbP;exact rfl)
   | (apply TO.load zaa;(iterate 5 exact rfl))
   | (apply TO.zaD zaa;(iterate 6 exact rfl))
   | (apply TO.fieldAddr zaa;(iterate 5 exact rfl);decide;exact rfl)
   | (apply TO.zaj zaa;(iterate 5 exact rfl);decide;exact rfl)
   | (apply TO.nilCheck;(iterate 3 exact rfl))
   | (apply TO.zaw zaa;(iterate 5 exact rfl);assumption)
   | (apply TO.zau zaa;(iterate 5 exact rfl);decide;exact rfl)
   | (apply TO.zaT zaa;(iterate 4 exact rfl))
   | (apply TO.zba zaa;(iterate 7 exact rfl))
   | refine zqg ?_
   | (apply TO.extract;(iterate 3 exact rfl))
   | (apply TO.zcC [0] (v':=.s a) (H':=[.cells [.s s,.i ((i+1+a.length:Nat):Int)],.cells [.i 0,.s [],.i 0]]) (hS1);(iterate 3 exact rfl);(first|exact⟨Le.refl _,trivial⟩|exact⟨Le.refl _,Le.refl _,trivial⟩|exact⟨Le.refl _,Le.refl _,Le.refl _,trivial⟩);exact rfl;exact Hands.one rfl rfl;exact rfl;exact rfl)
   | refine TO.nil ?_
   | refine TR.seq ?_
   | refine TR.region ?_
   | (apply TR.zbO;exact rfl)
   | (apply TR.zbN;exact rfl)
   | refine Then.normal ?_
   | refine TR.block ?_
   | refine TR.skip ?_
   | (apply TR.zaU hmix;kernel_rfl;exact rfl)
   | refine TR.exit ?_
   | refine TR.ret ?_
   | refine Then.exit ?_
   | refine Then.ret ?_
   | refine zac.exit ?_
   | refine zac.ret ?_
   | refine zab.normal ?_
   | refine zab.ret ?_
   | (apply zab.same;exact rfl)
   | (apply zab.other;exact rfl)
   | (apply TO.zaI;(iterate 3 exact rfl);omega;omega)
   | (apply TO.mul64;(iterate 3 exact rfl);omega;omega)
   | (apply TO.convert_u8;exact rfl;kernel_rfl;kernel_rfl;exact rfl)
   | (apply TO.bin;(iterate 4 exact rfl))
   | (apply TO.zbb zaa;(iterate 6 exact rfl);omega;omega)
   | (apply TO.zaB zaa;(iterate 5 exact rfl);omega)
   | (apply TO.zaE zaa;(iterate 5 exact rfl);omega)
   | (apply TO.not;exact rfl;exact rfl)
   | (apply TO.zan;exact rfl;exact rfl)
   | (apply TO.zaH zaa;(iterate 4 exact rfl);exact leB)
   | (apply TO.zak zaa;(iterate 5 exact rfl);exact leB)
   | (apply TO.za9 zaa;(iterate 4 exact rfl))
   | (apply TO.za6 zaa;(iterate 7 exact rfl))
   | (apply TO.build zaa;(iterate 6 exact rfl))
   | refine zqp ?_
   | refine zqo ?_
   | refine zqe ?_
   | refine zqk ?_
   | refine zqb ?_
   | (apply TO.eqb;(iterate 3 exact rfl);kernel_rfl)
   | (apply TO.neb;(iterate 3 exact rfl);kernel_rfl)
   | (apply TO.zay (j:=0) zaa;(iterate 10 exact rfl))
   | (apply TO.makeFunc;exact rfl;exact rfl)
   | (apply TO.zah zaa;(iterate 5 exact rfl);decide;exact rfl)
   | (apply TO.zar zaa;(iterate 5 exact rfl))
   | (apply TO.zaq zaa;(iterate 4 exact rfl))
   | (apply TO.ne_nil_ptr zaa;(iterate 5 exact rfl))
   | (apply TO.ne_nil_nil zaa;(iterate 4 exact rfl))
   | refine zqj ?_
   | refine zql ?_
   | (apply TO.ssl_hi zaa;(iterate 8 exact rfl);omega))
  obtain⟨e1,e2⟩:=znI (w:=a) (i:=i) hh
  exact zwez
def zex(l b x:Str):Str:=if decide ((b.length:Int)<x.length) && zbp l x then x else b
def best(l:Str)(all:List Str):Str:=all.foldl (zex l) []
theorem zmi(l:Str)(all:List Str):∀b:Str,b.length≤l.length->(all.foldl (zex l) b).length≤l.length:=by
 induction all with
 | nil=>exact fun b h=>h
 | cons x all ih=>
   refine fun b h=>ih _ ?_
   unfold zex;split
   ·rename_i g
    simp only[qat,zbp,decide_eq_true_eq]at g
    exact g.2.1
   ·exact h
def zfp(b:Str):Int×Str×Int:=if b == [] then(0,[],5) else(4,b,0)
set_option maxHeartbeats 1000000 in
theorem zi3 (all:List Str) (hall:all.length≤1000000) (s:Str) (hs:s.length≤1000000) (i:Nat) (hi:i≤s.length):
  Sound Tryz.prog 58 [.ref 0 0,.t (.sl 1 (all.map T.s))] (scanner s i) (fun r H'=>r= .ret (tokR (zfp (best (s.drop i) all)))/\H'=scanner s (i+(best (s.drop i) all).length)):=by
 refine so Tryz.func58 ?_
 repeat' (first
  | (apply TO.move;exact rfl;exact rfl)
  | (apply TO.assign;exact rfl;exact rfl)
  | (apply TO.want;exact rfl)
  | refine zqn ?_
  | refine zqc ?_
  | (apply TO.eqs;(iterate 3 exact rfl))
  | (apply TO.nes;(iterate 3 exact rfl))
  | (apply TO.cmp;(iterate 4 exact rfl))
  | (intro hc;exact absurd hc (by decide))
  | (intro hc;exfalso;simp only[decide_eq_true_eq,decide_eq_false_iff_not,beq_iff_eq,beq_eq_false_iff_ne,bne_iff_ne,bne_eq_false_iff_eq,ne_eq,qam,not_true_eq_false]at hc;done)
  | (intro hc;exfalso;(first|simp only[decide_eq_true_eq,decide_eq_false_iff_not,beq_iff_eq,beq_eq_false_iff_ne,bne_iff_ne,bne_eq_false_iff_eq,ne_eq,qam,not_true_eq_false]at hc|skip);first|omega|(simp only[qaf,qac]at *;omega))
  | intro hc
  | (apply TO.pick;(iterate 3 exact rfl))
  | (apply TO.pass;exact rfl;exact rfl)
  | (apply TO.zbP;exact rfl)
  | (apply TO.load zaa;(iterate 5 exact rfl))
  | (apply TO.zaD zaa;(iterate 6 exact rfl))
  | (apply TO.fieldAddr zaa;(iterate 5 exact rfl);decide;exact rfl)
  | (apply TO.zaj zaa;(iterate 5 exact rfl);decide;exact rfl)
  | (apply TO.nilCheck;(iterate 3 exact rfl))
  | (apply TO.zaw zaa;(iterate 5 exact rfl);assumption)
  | (apply TO.zau zaa;(iterate 5 exact rfl);decide;exact rfl)
  | (apply TO.zaT zaa;(iterate 4 exact rfl))
  | (apply TO.zba zaa;(iterate 7 exact rfl))
  | refine zqg ?_
  | (apply TO.extract;(iterate 3 exact rfl))
  | refine TO.nil ?_
  | refine TR.seq ?_
  | refine TR.region ?_
  | (apply TR.zbO;exact rfl)
  | (apply TR.zbN;exact rfl)
  | refine Then.normal ?_
  | refine TR.block ?_
  | refine TR.skip ?_
  | (apply TR.zaU hmix;kernel_rfl;exact rfl)
  | refine TR.exit ?_
  | refine TR.ret ?_
  | refine Then.exit ?_
  | refine Then.ret ?_
  | refine zac.exit ?_
  | refine zac.ret ?_
  | refine zab.normal ?_
  | refine zab.ret ?_
  | (apply zab.same;exact rfl)
  | (apply zab.other;exact rfl)
  | (apply TO.zaI;(iterate 3 exact rfl);omega;omega)
  | (apply TO.mul64;(iterate 3 exact rfl);omega;omega)
  | (apply TO.convert_u8;exact rfl;kernel_rfl;kernel_rfl;exact rfl)
  | (apply TO.bin;(iterate 4 exact rfl))
  | (apply TO.zbb zaa;(iterate 6 exact rfl);omega;omega)
  | (apply TO.zaB zaa;(iterate 5 exact rfl);omega)
  | (apply TO.zaE zaa;(iterate 5 exact rfl);omega)
  | (apply TO.not;exact rfl;exact rfl)
  | (apply TO.zan;exact rfl;exact rfl)
  | (apply TO.zaH zaa;(iterate 4 exact rfl);exact leB)
  | (apply TO.zak zaa;(iterate 5 exact rfl);exact leB)
  | (apply TO.za9 zaa;(iterate 4 exact rfl))
  | (apply TO.za6 zaa;(iterate 7 exact rfl))
  | (apply TO.build zaa;(iterate 6 exact rfl))
  | refine zqp ?_
  | refine zqo ?_
  | refine zqe ?_
  | refine zqk ?_
  | refine zqb ?_
  | (apply TO.eqb;(iterate 3 exact rfl);kernel_rfl)
  | (apply TO.neb;(iterate 3 exact rfl);kernel_rfl)
  | (apply TO.zay (j:=0) zaa;(iterate 10 exact rfl))
  | (apply TO.makeFunc;exact rfl;exact rfl)
  | (apply TO.zah zaa;(iterate 5 exact rfl);decide;exact rfl)
  | (apply TO.zar zaa;(iterate 5 exact rfl))
  | (apply TO.zaq zaa;(iterate 4 exact rfl))
  | (apply TO.ne_nil_ptr zaa;(iterate 5 exact rfl))
  | (apply TO.ne_nil_nil zaa;(iterate 4 exact rfl))
  | refine zqj ?_
  | refine zql ?_
  | (apply TO.ssl_hi zaa;(iterate 8 exact rfl);omega))
 refine TR.zbd (ι:=Nat) (fun k=>k≤all.length) (fun k=>all.length-k) (fun k=>[(0,.ref 0 0),(11,.i k),(10,.i (all.map T.s).length),(9,.t (.sl 1 (all.map T.s))),(6,.s (best (s.drop i) (all.take k))),(5,.i 0),(4,.ref 1 0)]) (fun _=>[.cells [.s s,.i i],.cells [.i 0,.s [],.i 0]]) 0 (qaV _) ⟨rfl,rfl,rfl,rfl,rfl,rfl,rfl,trivial⟩ rfl ?_
 intro k hk
 have hml:(all.map T.s).length=all.length:=qad _
 by_cases hlt:k<all.length
 ·have hx:(all.map T.s)[k]?=some (T.s all[k]):=by rw[qar,qab hlt];rfl
  have hb:best (s.drop i) (all.take (k+1))=zex (s.drop i) (best (s.drop i) (all.take k)) all[k]:=by
   rw[best,qaJ hlt,qb8];rfl
  generalize all[k]=x at hx hb
  repeat' (first
   | (apply TO.move;exact rfl;exact rfl)
   | (apply TO.assign;exact rfl;exact rfl)
   | (apply TO.want;exact rfl)
   | refine zqn ?_
   | refine zqc ?_
   | (apply TO.eqs;(iterate 3 exact rfl))
   | (apply TO.nes;(iterate 3 exact rfl))
   | (apply TO.cmp;(iterate 4 exact rfl))
   | (intro hc;exact absurd hc (by decide))
   | (intro hc;exfalso;simp only[decide_eq_true_eq,decide_eq_false_iff_not,beq_iff_eq,beq_eq_false_iff_ne,bne_iff_ne,bne_eq_false_iff_eq,ne_eq,qam,not_true_eq_false]at hc;done)
   | (intro hc;exfalso;(first|simp only[decide_eq_true_eq,decide_eq_false_iff_not,beq_iff_eq,beq_eq_false_iff_ne,bne_iff_ne,bne_eq_false_iff_eq,ne_eq,qam,not_true_eq_false]at hc|skip);first|omega|(simp only[qaf,qac]at *;omega))
   | intro hc
   | (apply TO.pick;(iterate 3 exact rfl))
   | (apply TO.pass;exact rfl;exact rfl)
   | (apply TO.zbP;exact rfl)
   | (apply TO.load zaa;(iterate 5 exact rfl))
   | (apply TO.zaD zaa;(iterate 6 exact rfl))
   | (apply TO.fieldAddr zaa;(iterate 5 exact rfl);decide;exact rfl)
   | (apply TO.zaj zaa;(iterate 5 exact rfl);decide;exact rfl)
   | (apply TO.nilCheck;(iterate 3 exact rfl))
   | (apply TO.zaw zaa;(iterate 5 exact rfl);assumption)
   | (apply TO.zau zaa;(iterate 5 exact rfl);decide;exact rfl)
   | (apply TO.zaT zaa;(iterate 4 exact rfl))
   | (apply TO.zba zaa;(iterate 7 exact rfl))
   | refine zqg ?_
   | (apply TO.extract;(iterate 3 exact rfl))
   | (apply TO.zdH (zdS _ _);(iterate 3 exact rfl);exact⟨.t _,.t _,trivial⟩)
   | refine TO.nil ?_
   | refine TR.seq ?_
   | refine TR.region ?_
   | (apply TR.zbO;exact rfl)
   | (apply TR.zbN;exact rfl)
   | refine Then.normal ?_
   | refine TR.block ?_
   | refine TR.skip ?_
   | (apply TR.zaU hmix;kernel_rfl;exact rfl)
   | refine TR.exit ?_
   | refine TR.ret ?_
   | refine Then.exit ?_
   | refine Then.ret ?_
   | refine zac.exit ?_
   | refine zac.ret ?_
   | refine zab.normal ?_
   | refine zab.ret ?_
   | (apply zab.same;exact rfl)
   | (apply zab.other;exact rfl)
   | (apply TO.zaI;(iterate 3 exact rfl);omega;omega)
   | (apply TO.mul64;(iterate 3 exact rfl);omega;omega)
   | (apply TO.convert_u8;exact rfl;kernel_rfl;kernel_rfl;exact rfl)
   | (apply TO.bin;(iterate 4 exact rfl))
   | (apply TO.zbb zaa;(iterate 6 exact rfl);omega;omega)
   | (apply TO.zaB zaa;(iterate 5 exact rfl);omega)
   | (apply TO.zaE zaa;(iterate 5 exact rfl);omega)
   | (apply TO.not;exact rfl;exact rfl)
   | (apply TO.zan;exact rfl;exact rfl)
   | (apply TO.zaH zaa;(iterate 4 exact rfl);exact leB)
   | (apply TO.zak zaa;(iterate 5 exact rfl);exact leB)
   | (apply TO.za9 zaa;(iterate 4 exact rfl))
   | (apply TO.za6 zaa;(iterate 7 exact rfl))
   | (apply TO.build zaa;(iterate 6 exact rfl))
   | refine zqp ?_
   | refine zqo ?_
   | refine zqe ?_
   | refine zqk ?_
   | refine zqb ?_
   | (apply TO.eqb;(iterate 3 exact rfl);kernel_rfl)
   | (apply TO.neb;(iterate 3 exact rfl);kernel_rfl)
   | (apply TO.zay (j:=0) zaa;(iterate 10 exact rfl))
   | (apply TO.makeFunc;exact rfl;exact rfl)
   | (apply TO.zah zaa;(iterate 5 exact rfl);decide;exact rfl)
   | (apply TO.zar zaa;(iterate 5 exact rfl))
   | (apply TO.zaq zaa;(iterate 4 exact rfl))
   | (apply TO.ne_nil_ptr zaa;(iterate 5 exact rfl))
   | (apply TO.ne_nil_nil zaa;(iterate 4 exact rfl))
   | refine zqj ?_
   | refine zql ?_
   | (apply TO.ssl_hi zaa;(iterate 8 exact rfl);omega))
  ·refine zac.next (k+1) hlt (by omega) ⟨rfl,rfl,rfl,rfl,?_,rfl,rfl,trivial⟩ rfl
   rw[hb,zex,if_pos (by simp_all)];rfl
  ·refine zac.next (k+1) hlt (by omega) ⟨rfl,rfl,rfl,rfl,?_,rfl,rfl,trivial⟩ rfl
   rw[hb,zex,if_neg (by simp_all)];rfl
  ·refine zac.next (k+1) hlt (by omega) ⟨rfl,rfl,rfl,rfl,?_,rfl,rfl,trivial⟩ rfl
   rw[hb,zex,if_neg (by rw[hc];simp)];rfl
 ·have hkl:k=all.length:=by omega
  subst hkl
  rw[qbd]
  have hbl:=zmi (s.drop i) all [] (qaV _)
  rw[<-best,qaQ]at hbl
  generalize best (s.drop i) all=b at hbl
  repeat' (first
   | (apply TO.move;exact rfl;exact rfl)
   | (apply TO.assign;exact rfl;exact rfl)
   | (apply TO.want;exact rfl)
   | refine zqn ?_
   | refine zqc ?_
   | (apply TO.eqs;(iterate 3 exact rfl))
   | (apply TO.nes;(iterate 3 exact rfl))
   | (apply TO.cmp;(iterate 4 exact rfl))
   | (intro hc;exact absurd hc (by decide))
   | (intro hc;exfalso;simp only[decide_eq_true_eq,decide_eq_false_iff_not,beq_iff_eq,beq_eq_false_iff_ne,bne_iff_ne,bne_eq_false_iff_eq,ne_eq,qam,not_true_eq_false]at hc;done)
   | (intro hc;exfalso;(first|simp only[decide_eq_true_eq,decide_eq_false_iff_not,beq_iff_eq,beq_eq_false_iff_ne,bne_iff_ne,bne_eq_false_iff_eq,ne_eq,qam,not_true_eq_false]at hc|skip);first|omega|(simp only[qaf,qac]at *;omega))
   | intro hc
   | (apply TO.pick;(iterate 3 exact rfl))
   | (apply TO.pass;exact rfl;exact rfl)
   | (apply TO.zbP;exact rfl)
   | (apply TO.load zaa;(iterate 5 exact rfl))
   | (apply TO.zaD zaa;(iterate 6 exact rfl))
   | (apply TO.fieldAddr zaa;(iterate 5 exact rfl);decide;exact rfl)
   | (apply TO.zaj zaa;(iterate 5 exact rfl);decide;exact rfl)
   | (apply TO.nilCheck;(iterate 3 exact rfl))
   | (apply TO.zaw zaa;(iterate 5 exact rfl);assumption)
   | (apply TO.zau zaa;(iterate 5 exact rfl);decide;exact rfl)
   | (apply TO.zaT zaa;(iterate 4 exact rfl))
   | (apply TO.zba zaa;(iterate 7 exact rfl))
   | refine zqg ?_
   | (apply TO.extract;(iterate 3 exact rfl))
   | (apply TO.zdH (zdS _ _);(iterate 3 exact rfl);exact⟨.t _,.t _,trivial⟩)
   | refine TO.nil ?_
   | refine TR.seq ?_
   | refine TR.region ?_
   | (apply TR.zbO;exact rfl)
   | (apply TR.zbN;exact rfl)
   | refine Then.normal ?_
   | refine TR.block ?_
   | refine TR.skip ?_
   | (apply TR.zaU hmix;kernel_rfl;exact rfl)
   | refine TR.exit ?_
   | refine TR.ret ?_
   | refine Then.exit ?_
   | refine Then.ret ?_
   | refine zac.exit ?_
   | refine zac.ret ?_
   | refine zab.normal ?_
   | refine zab.ret ?_
   | (apply zab.same;exact rfl)
   | (apply zab.other;exact rfl)
   | (apply TO.zaI;(iterate 3 exact rfl);omega;omega)
   | (apply TO.mul64;(iterate 3 exact rfl);omega;omega)
   | (apply TO.convert_u8;exact rfl;kernel_rfl;kernel_rfl;exact rfl)
   | (apply TO.bin;(iterate 4 exact rfl))
   | (apply TO.zbb zaa;(iterate 6 exact rfl);omega;omega)
   | (apply TO.zaB zaa;(iterate 5 exact rfl);omega)
   | (apply TO.zaE zaa;(iterate 5 exact rfl);omega)
   | (apply TO.not;exact rfl;exact rfl)
   | (apply TO.zan;exact rfl;exact rfl)
   | (apply TO.zaH zaa;(iterate 4 exact rfl);exact leB)
   | (apply TO.zak zaa;(iterate 5 exact rfl);exact leB)
   | (apply TO.za9 zaa;(iterate 4 exact rfl))
   | (apply TO.za6 zaa;(iterate 7 exact rfl))
   | (apply TO.build zaa;(iterate 6 exact rfl))
   | refine zqp ?_
   | refine zqo ?_
   | refine zqe ?_
   | refine zqk ?_
   | refine zqb ?_
   | (apply TO.eqb;(iterate 3 exact rfl);kernel_rfl)
   | (apply TO.neb;(iterate 3 exact rfl);kernel_rfl)
   | (apply TO.zay (j:=0) zaa;(iterate 10 exact rfl))
   | (apply TO.makeFunc;exact rfl;exact rfl)
   | (apply TO.zah zaa;(iterate 5 exact rfl);decide;exact rfl)
   | (apply TO.zar zaa;(iterate 5 exact rfl))
   | (apply TO.zaq zaa;(iterate 4 exact rfl))
   | (apply TO.ne_nil_ptr zaa;(iterate 5 exact rfl))
   | (apply TO.ne_nil_nil zaa;(iterate 4 exact rfl))
   | refine zqj ?_
   | refine zql ?_
   | (apply TO.ssl_hi zaa;(iterate 8 exact rfl);omega))
  ·have:b=[]:=by simpa using hc
   subst this
   exact zwfs
  ·have e1:zfp b=(4,b,0):=if_neg (by simp[hc])
   rw[e1]
   exact zwfs
def zdd:List Str:=[[40],[41],[58],[59],[44],[61],[124],[45,62],[60,62],[60,61],[62,61],[60],[62],[43],[45],[42],[47]]
def zai(l:Str):(Int×Str×Int)×Nat:=
 match l with
 | []=>((0,[],5),0)
 | c::r=>
   if letter c.toNat then(zda (zat inner l),(zat inner l).length)
   else if digit c.toNat then(zc3 (zat digit l),(zat digit l).length)
   else if(c.toNat:Int) == 39 then(zcT (zat zaA r) (behind zaA r),zcS (zat zaA r) (behind zaA r))
   else(zfp (best l zdd),(best l zdd).length)
set_option maxHeartbeats 1000000 in
theorem zj3 (s:Str) (hs:s.length≤1000000) (i:Nat) (hi:i<s.length):
  Sound Tryz.prog 24 [.ref 0 0] (scanner s i) (fun r H'=>r= .ret (tokR (zai (s.drop i)).1)/\H'=scanner s (i+(zai (s.drop i)).2)):=by
 refine so Tryz.func24 ?_
 have hx:=qab hi
 have hd:s.drop i=s[i]::s.drop (i+1):=qaF hi
 have h1:=zlH s hs i (qb3 hi)
 have h2:=ziM s hs i (qb3 hi)
 have h3:=zl5 s hs i hi
 have h4:=zi3 zdd (by decide) s hs i (qb3 hi)
 have e1:letter s[i].toNat=true->zai (s.drop i)=(zda (zat inner (s.drop i)),(zat inner (s.drop i)).length):=fun g=>by rw[hd];simp only[zai,g,if_true]
 have e2:letter s[i].toNat=false->digit s[i].toNat=true->zai (s.drop i)=(zc3 (zat digit (s.drop i)),(zat digit (s.drop i)).length):=fun g g2=>by rw[hd];simp only[zai,g,g2,if_true];rfl
 have e3:letter s[i].toNat=false->digit s[i].toNat=false->((s[i].toNat:Int) == 39)=true->zai (s.drop i)=(zcT (zat zaA (s.drop (i+1))) (behind zaA (s.drop (i+1))),zcS (zat zaA (s.drop (i+1))) (behind zaA (s.drop (i+1)))):=fun g g2 g3=>by rw[hd];simp only[zai,g,g2,g3,if_true];rfl
 have e4:letter s[i].toNat=false->digit s[i].toNat=false->((s[i].toNat:Int) == 39)=false->zai (s.drop i)=(zfp (best (s.drop i) zdd),(best (s.drop i) zdd).length):=fun g g2 g3=>by rw[hd];simp only[zai,g,g2,g3,if_true];rfl
 generalize zai (s.drop i)=tk at e1 e2 e3 e4⊢
 generalize zda (zat inner (s.drop i))=t1 at h1 e1
 generalize (zat inner (s.drop i)).length=n1 at h1 e1
 generalize zc3 (zat digit (s.drop i))=t2 at h2 e2
 generalize (zat digit (s.drop i)).length=n2 at h2 e2
 generalize zcT (zat zaA (s.drop (i+1))) (behind zaA (s.drop (i+1)))=t3 at h3 e3
 generalize zcS (zat zaA (s.drop (i+1))) (behind zaA (s.drop (i+1)))=n3 at h3 e3
 generalize zfp (best (s.drop i) zdd)=t4 at h4 e4
 generalize (best (s.drop i) zdd).length=n4 at h4 e4
 clear hd
 generalize s[i]=c at hx e1 e2 e3 e4
 repeat' (first
  | (apply TO.move;exact rfl;exact rfl)
  | (apply TO.assign;exact rfl;exact rfl)
  | (apply TO.want;exact rfl)
  | refine zqn ?_
  | refine zqc ?_
  | (apply TO.eqs;(iterate 3 exact rfl))
  | (apply TO.nes;(iterate 3 exact rfl))
  | (apply TO.cmp;(iterate 4 exact rfl))
  | (intro hc;exact absurd hc (by decide))
  | (intro hc;exfalso;simp only[decide_eq_true_eq,decide_eq_false_iff_not,beq_iff_eq,beq_eq_false_iff_ne,bne_iff_ne,bne_eq_false_iff_eq,ne_eq,qam,not_true_eq_false]at hc;done)
  | (intro hc;exfalso;(first|simp only[decide_eq_true_eq,decide_eq_false_iff_not,beq_iff_eq,beq_eq_false_iff_ne,bne_iff_ne,bne_eq_false_iff_eq,ne_eq,qam,not_true_eq_false]at hc|skip);first|omega|(simp only[qaf,qac]at *;omega))
  | intro hc
  | (apply TO.pick;(iterate 3 exact rfl))
  | (apply TO.pass;exact rfl;exact rfl)
  | (apply TO.zbP;exact rfl)
  | (apply TO.load zaa;(iterate 5 exact rfl))
  | (apply TO.zaD zaa;(iterate 6 exact rfl))
  | (apply TO.fieldAddr zaa;(iterate 5 exact rfl);decide;exact rfl)
  | (apply TO.zaj zaa;(iterate 5 exact rfl);decide;exact rfl)
  | (apply TO.nilCheck;(iterate 3 exact rfl))
  | (apply TO.zaw zaa;(iterate 5 exact rfl);assumption)
  | (apply TO.zau zaa;(iterate 5 exact rfl);decide;exact rfl)
  | (apply TO.zaT zaa;(iterate 4 exact rfl))
  | (apply TO.zba zaa;(iterate 7 exact rfl))
  | refine zqg ?_
  | (apply TO.extract;(iterate 3 exact rfl))
  | (apply TO.zdH (zc1 _);(iterate 3 exact rfl);exact⟨.t _,trivial⟩)
  | (apply TO.zdH (zei _);(iterate 3 exact rfl);exact⟨.t _,trivial⟩)
  | (apply TO.zcC [0] (v':=tokR t1) (H':=[.cells [.s s,.i ((i+n1:Nat):Int)],.cells [.i 0,.s [],.i 0]]) (h1);(iterate 3 exact rfl);(first|exact⟨Le.refl _,trivial⟩|exact⟨Le.refl _,Le.refl _,trivial⟩|exact⟨Le.refl _,Le.refl _,Le.refl _,trivial⟩);exact rfl;exact Hands.one rfl rfl;exact rfl;exact rfl)
  | (apply TO.zcC [0] (v':=tokR t2) (H':=[.cells [.s s,.i ((i+n2:Nat):Int)],.cells [.i 0,.s [],.i 0]]) (h2);(iterate 3 exact rfl);(first|exact⟨Le.refl _,trivial⟩|exact⟨Le.refl _,Le.refl _,trivial⟩|exact⟨Le.refl _,Le.refl _,Le.refl _,trivial⟩);exact rfl;exact Hands.one rfl rfl;exact rfl;exact rfl)
  | (apply TO.zcC [0] (v':=tokR t3) (H':=[.cells [.s s,.i ((i+n3:Nat):Int)],.cells [.i 0,.s [],.i 0]]) (h3);(iterate 3 exact rfl);(first|exact⟨Le.refl _,trivial⟩|exact⟨Le.refl _,Le.refl _,trivial⟩|exact⟨Le.refl _,Le.refl _,Le.refl _,trivial⟩);exact rfl;exact Hands.one rfl rfl;exact rfl;exact rfl)
  | (apply TO.zcC [0] (v':=tokR t4) (H':=[.cells [.s s,.i ((i+n4:Nat):Int)],.cells [.i 0,.s [],.i 0]]) (h4);(iterate 3 exact rfl);(first|exact⟨Le.refl _,trivial⟩|exact⟨Le.refl _,Le.refl _,trivial⟩|exact⟨Le.refl _,Le.refl _,Le.refl _,trivial⟩);exact rfl;exact Hands.one rfl rfl;exact rfl;exact rfl)
  | refine TO.nil ?_
  | refine TR.seq ?_
  | refine TR.region ?_
  | (apply TR.zbO;exact rfl)
  | (apply TR.zbN;exact rfl)
  | refine Then.normal ?_
  | refine TR.block ?_
  | refine TR.skip ?_
  | (apply TR.zaU hmix;kernel_rfl;exact rfl)
  | refine TR.exit ?_
  | refine TR.ret ?_
  | refine Then.exit ?_
  | refine Then.ret ?_
  | refine zac.exit ?_
  | refine zac.ret ?_
  | refine zab.normal ?_
  | refine zab.ret ?_
  | (apply zab.same;exact rfl)
  | (apply zab.other;exact rfl)
  | (apply TO.zaI;(iterate 3 exact rfl);omega;omega)
  | (apply TO.mul64;(iterate 3 exact rfl);omega;omega)
  | (apply TO.convert_u8;exact rfl;kernel_rfl;kernel_rfl;exact rfl)
  | (apply TO.bin;(iterate 4 exact rfl))
  | (apply TO.zbb zaa;(iterate 6 exact rfl);omega;omega)
  | (apply TO.zaB zaa;(iterate 5 exact rfl);omega)
  | (apply TO.zaE zaa;(iterate 5 exact rfl);omega)
  | (apply TO.not;exact rfl;exact rfl)
  | (apply TO.zan;exact rfl;exact rfl)
  | (apply TO.zaH zaa;(iterate 4 exact rfl);exact leB)
  | (apply TO.zak zaa;(iterate 5 exact rfl);exact leB)
  | (apply TO.za9 zaa;(iterate 4 exact rfl))
  | (apply TO.za6 zaa;(iterate 7 exact rfl))
  | (apply TO.build zaa;(iterate 6 exact rfl))
  | refine zqp ?_
  | refine zqo ?_
  | refine zqe ?_
  | refine zqk ?_
  | refine zqb ?_
  | (apply TO.eqb;(iterate 3 exact rfl);kernel_rfl)
  | (apply TO.neb;(iterate 3 exact rfl);kernel_rfl)
  | (apply TO.zay (j:=0) zaa;(iterate 10 exact rfl))
  | (apply TO.makeFunc;exact rfl;exact rfl)
  | (apply TO.zah zaa;(iterate 5 exact rfl);decide;exact rfl)
  | (apply TO.zar zaa;(iterate 5 exact rfl))
  | (apply TO.zaq zaa;(iterate 4 exact rfl))
  | (apply TO.ne_nil_ptr zaa;(iterate 5 exact rfl))
  | (apply TO.ne_nil_nil zaa;(iterate 4 exact rfl))
  | refine zqj ?_
  | refine zql ?_
  | (apply TO.ssl_hi zaa;(iterate 8 exact rfl);omega))
 ·rw[e1 hc];exact RetK.keep 1 rfl (Le.refl _) rfl rfl rfl rfl rfl ⟨rfl,rfl⟩
 ·rw[e2 (by assumption) hc];exact RetK.keep 1 rfl (Le.refl _) rfl rfl rfl rfl rfl ⟨rfl,rfl⟩
 ·rw[e3 (by assumption) (by assumption) hc];exact RetK.keep 1 rfl (Le.refl _) rfl rfl rfl rfl rfl ⟨rfl,rfl⟩
 ·rw[e4 (by assumption) (by assumption) hc];exact RetK.keep 1 rfl (Le.refl _) rfl rfl rfl rfl rfl ⟨rfl,rfl⟩
abbrev Tok:=Int×Str×Int
abbrev tokT (t:Tok):T:=.ag [.i t.1,.s t.2.1,.i t.2.2]
def zcF:Nat->Str->Nat->List Tok->List Tok×Int×Int
 | 0,_,_,_=>([],0,0)
 | n+1,s,i,out=>
   if s.length-(skipped (s.drop i)).length=s.length then(out,0,0)
   else if((zai (s.drop (s.length-(skipped (s.drop i)).length))).1.2.2 != 0)=true then([],((s.length-(skipped (s.drop i)).length:Nat):Int),(zai (s.drop (s.length-(skipped (s.drop i)).length))).1.2.2)
   else zcF n s (s.length-(skipped (s.drop i)).length+(zai (s.drop (s.length-(skipped (s.drop i)).length))).2)
    (out++[((zai (s.drop (s.length-(skipped (s.drop i)).length))).1.1,(zai (s.drop (s.length-(skipped (s.drop i)).length))).1.2.1,((s.length-(skipped (s.drop i)).length:Nat):Int))])
def scan(s:Str):List Tok×Int×Int:=if 65536<s.length then([],0,3) else zcF (s.length+1) s 0 []
abbrev zrs (a:List Tok×Int×Int):SV:=.tup [.t (.sl 3 (a.1.map tokT)),.i a.2.1,.i a.2.2]
theorem zgH{l:Str}(hl:l≠ [])(h:((zai l).1.2.2 != 0)=false):0<(zai l).2/\(zai l).2≤l.length:=by
 match l,hl with
 | c::r,_=>
   have g1:=zch inner (c::r)
   have g2:=zch digit (c::r)
   have g3:=zch zaA r
   have g4:=zmi (c::r) zdd [] (qaV _)
   have g5:best (c::r) zdd=zdd.foldl (zex (c::r)) []:=rfl
   rw[<-g5]at g4
   clear g5
   revert h
   unfold zai
   simp only
   generalize best (c::r) zdd=b at g4⊢
   split
   ·rename_i h1
    intro _
    refine⟨?_,g1⟩
    have:inner c.toNat=true:=by simp[inner,h1]
    simp[zat,this]
   ·split
    ·rename_i h1
     intro _
     refine⟨?_,g2⟩
     simp[zat,h1]
    ·split
     ·intro h
      have hq:zec 39 (behind zaA r)=true:=by
       cases hq:zec 39 (behind zaA r) with
       | true=>rfl
       | false=>simp[zcT,hq]at h
      have hb:(behind zaA r)≠ []:=fun e=>by rw[e]at hq;cases hq
      have hl:=qbo.2 hb
      simp only[behind,qaQ]at hl
      simp only[zcS,hq,if_true,qac]
      omega
     ·intro h
      refine⟨?_,g4⟩
      simp only[zfp]at h
      split at h
      ·simp at h
      ·rename_i hb
       exact qbo.2 (fun e=>hb (by rw[e];rfl))
set_option maxHeartbeats 2000000 in
theorem ze5 (s:Str):Pure Tryz.prog 9 [.s s] (zrs (scan s)):=by
 refine so Tryz.func9 ?_
 repeat' (first
  | (apply TO.move;exact rfl;exact rfl)
  | (apply TO.assign;exact rfl;exact rfl)
  | (apply TO.want;exact rfl)
  | refine zqn ?_
  | refine zqc ?_
  | (apply TO.eqs;(iterate 3 exact rfl))
  | (apply TO.nes;(iterate 3 exact rfl))
  | (apply TO.cmp;(iterate 4 exact rfl))
  | (intro hc;exact absurd hc (by decide))
  | (intro hc;exfalso;simp only[decide_eq_true_eq,decide_eq_false_iff_not,beq_iff_eq,beq_eq_false_iff_ne,bne_iff_ne,bne_eq_false_iff_eq,ne_eq,qam,not_true_eq_false]at hc;done)
  | (intro hc;exfalso;(first|simp only[decide_eq_true_eq,decide_eq_false_iff_not,beq_iff_eq,beq_eq_false_iff_ne,bne_iff_ne,bne_eq_false_iff_eq,ne_eq,qam,not_true_eq_false]at hc|skip);first|omega|(simp only[qaf,qac]at *;omega))
  | intro hc
  | (apply TO.pick;(iterate 3 exact rfl))
  | (apply TO.pass;exact rfl;exact rfl)
  | (apply TO.zbP;exact rfl)
  | (apply TO.load zaa;(iterate 5 exact rfl))
  | (apply TO.zaD zaa;(iterate 6 exact rfl))
  | (apply TO.fieldAddr zaa;(iterate 5 exact rfl);decide;exact rfl)
  | (apply TO.zaj zaa;(iterate 5 exact rfl);decide;exact rfl)
  | (apply TO.nilCheck;(iterate 3 exact rfl))
  | (apply TO.zaw zaa;(iterate 5 exact rfl);assumption)
  | (apply TO.zau zaa;(iterate 5 exact rfl);decide;exact rfl)
  | (apply TO.zaT zaa;(iterate 4 exact rfl))
  | (apply TO.zba zaa;(iterate 7 exact rfl))
  | refine zqg ?_
  | (apply TO.extract;(iterate 3 exact rfl))
  | refine TO.nil ?_
  | refine TR.seq ?_
  | refine TR.region ?_
  | (apply TR.zbO;exact rfl)
  | (apply TR.zbN;exact rfl)
  | refine Then.normal ?_
  | refine TR.block ?_
  | refine TR.skip ?_
  | (apply TR.zaU hmix;kernel_rfl;exact rfl)
  | refine TR.exit ?_
  | refine TR.ret ?_
  | refine Then.exit ?_
  | refine Then.ret ?_
  | refine zac.exit ?_
  | refine zac.ret ?_
  | refine zab.normal ?_
  | refine zab.ret ?_
  | (apply zab.same;exact rfl)
  | (apply zab.other;exact rfl)
  | (apply TO.zaI;(iterate 3 exact rfl);omega;omega)
  | (apply TO.mul64;(iterate 3 exact rfl);omega;omega)
  | (apply TO.convert_u8;exact rfl;kernel_rfl;kernel_rfl;exact rfl)
  | (apply TO.bin;(iterate 4 exact rfl))
  | (apply TO.zbb zaa;(iterate 6 exact rfl);omega;omega)
  | (apply TO.zaB zaa;(iterate 5 exact rfl);omega)
  | (apply TO.zaE zaa;(iterate 5 exact rfl);omega)
  | (apply TO.not;exact rfl;exact rfl)
  | (apply TO.zan;exact rfl;exact rfl)
  | (apply TO.zaH zaa;(iterate 4 exact rfl);exact leB)
  | (apply TO.zak zaa;(iterate 5 exact rfl);exact leB)
  | (apply TO.za9 zaa;(iterate 4 exact rfl))
  | (apply TO.za6 zaa;(iterate 7 exact rfl))
  | (apply TO.build zaa;(iterate 6 exact rfl))
  | refine zqp ?_
  | refine zqo ?_
  | refine zqe ?_
  | refine zqk ?_
  | refine zqb ?_
  | (apply TO.eqb;(iterate 3 exact rfl);kernel_rfl)
  | (apply TO.neb;(iterate 3 exact rfl);kernel_rfl)
  | (apply TO.zay (j:=0) zaa;(iterate 10 exact rfl))
  | (apply TO.makeFunc;exact rfl;exact rfl)
  | (apply TO.zah zaa;(iterate 5 exact rfl);decide;exact rfl)
  | (apply TO.zar zaa;(iterate 5 exact rfl))
  | (apply TO.zaq zaa;(iterate 4 exact rfl))
  | (apply TO.ne_nil_ptr zaa;(iterate 5 exact rfl))
  | (apply TO.ne_nil_nil zaa;(iterate 4 exact rfl))
  | refine zqj ?_
  | refine zql ?_
  | (apply TO.ssl_hi zaa;(iterate 8 exact rfl);omega))
 ·refine RetK.pure rfl ?_ rfl
  have:scan s=([],0,3):=if_pos (by simp at hc;omega)
  rw[this]
  exact Le.tup ⟨Le.nil 3,Le.refl _,Le.refl _,trivial⟩
 ·refine TR.tail 3 6 rfl ?_
  have hlen:s.length≤65536:=by simp at hc;omega
  have hsc:scan s=zcF (s.length+1) s 0 []:=if_neg (by omega)
  refine TR.zbd (ι:=Nat×Nat×List Tok) (fun x=>x.2.1≤s.length/\s.length-x.2.1<x.1/\x.2.2.length≤x.2.1/\zcF x.1 s x.2.1 x.2.2=scan s) (fun x=>x.1)
   (fun x=>[(0,.s s),(5,.ref 0 0),(6,.sl 3 (x.2.2.map tokT) 1)]) (fun x=>[.cells [.s s,.i x.2.1],.tail (x.2.2.map tokT).length]) (s.length+1,0,[]) ⟨qaV _,by simp,qae _,hsc.symm⟩ ⟨rfl,rfl,rfl,trivial⟩ rfl ?_
  clear hc hsc
  rintro⟨n,i,out⟩ ⟨hi,hn,ho,he⟩
  simp only at hi hn ho he⊢
  obtain⟨n,rfl⟩:∃m,n=m+1:=⟨n-1,by omega⟩
  rw[zcF]at he
  have hS:=zl0 s (by omega) i hi
  have hj1:=zgy (s.drop i)
  rw[qaQ]at hj1
  obtain⟨j,hj⟩:∃j,j=s.length-(skipped (s.drop i)).length:=⟨_,rfl⟩
  rw[<-hj]at he hS
  have hj2:i≤j:=by omega
  have hj3:j≤s.length:=by omega
  clear hj hj1
  have hml:(out.map tokT).length=out.length:=qad _
  by_cases hlt:j<s.length
  ·have hT:=zj3 s (by omega) j hlt
   have hL:=zgH (l:=s.drop j) (by simp;omega)
   rw[if_neg (by omega)]at he
   rw[qaQ]at hL
   generalize zai (s.drop j)=tk at hT hL he
   obtain⟨⟨ka,xa,ea⟩,na⟩:=tk
   simp only at hT hL he
   repeat' (first
    | (apply TO.move;exact rfl;exact rfl)
    | (apply TO.assign;exact rfl;exact rfl)
    | (apply TO.want;exact rfl)
    | refine zqn ?_
    | refine zqc ?_
    | (apply TO.eqs;(iterate 3 exact rfl))
    | (apply TO.nes;(iterate 3 exact rfl))
    | (apply TO.cmp;(iterate 4 exact rfl))
    | (intro hc;exact absurd hc (by decide))
    | (intro hc;exfalso;simp only[decide_eq_true_eq,decide_eq_false_iff_not,beq_iff_eq,beq_eq_false_iff_ne,bne_iff_ne,bne_eq_false_iff_eq,ne_eq,qam,not_true_eq_false]at hc;done)
    | (intro hc;exfalso;(first|simp only[decide_eq_true_eq,decide_eq_false_iff_not,beq_iff_eq,beq_eq_false_iff_ne,bne_iff_ne,bne_eq_false_iff_eq,ne_eq,qam,not_true_eq_false]at hc|skip);first|omega|(simp only[qaf,qac]at *;omega))
    | intro hc
    | (apply TO.pick;(iterate 3 exact rfl))
    | (apply TO.pass;exact rfl;exact rfl)
    | (apply TO.zbP;exact rfl)
    | (apply TO.load zaa;(iterate 5 exact rfl))
    | (apply TO.zaD zaa;(iterate 6 exact rfl))
    | (apply TO.fieldAddr zaa;(iterate 5 exact rfl);decide;exact rfl)
    | (apply TO.zaj zaa;(iterate 5 exact rfl);decide;exact rfl)
    | (apply TO.nilCheck;(iterate 3 exact rfl))
    | (apply TO.zaw zaa;(iterate 5 exact rfl);assumption)
    | (apply TO.zau zaa;(iterate 5 exact rfl);decide;exact rfl)
    | (apply TO.zaT zaa;(iterate 4 exact rfl))
    | (apply TO.zba zaa;(iterate 7 exact rfl))
    | refine zqg ?_
    | (apply TO.extract;(iterate 3 exact rfl))
    | (apply TO.zcC [0] (v':=.tup []) (H':=[.cells [.s s,.i (j:Int)],.tail (out.map tokT).length]) (hS);(iterate 3 exact rfl);(first|exact⟨Le.refl _,trivial⟩|exact⟨Le.refl _,Le.refl _,trivial⟩|exact⟨Le.refl _,Le.refl _,Le.refl _,trivial⟩);exact rfl;exact Hands.one rfl rfl;exact rfl;exact rfl)
    | (apply TO.zcC [0] (v':=tokR (ka,xa,ea)) (H':=[.cells [.s s,.i ((j+na:Nat):Int)],.tail (out.map tokT).length]) (hT);(iterate 3 exact rfl);(first|exact⟨Le.refl _,trivial⟩|exact⟨Le.refl _,Le.refl _,trivial⟩|exact⟨Le.refl _,Le.refl _,Le.refl _,trivial⟩);exact rfl;exact Hands.one rfl rfl;exact rfl;exact rfl)
    | refine TO.nil ?_
    | refine TR.seq ?_
    | refine TR.region ?_
    | (apply TR.zbO;exact rfl)
    | (apply TR.zbN;exact rfl)
    | refine Then.normal ?_
    | refine TR.block ?_
    | refine TR.skip ?_
    | (apply TR.zaU hmix;kernel_rfl;exact rfl)
    | refine TR.exit ?_
    | refine TR.ret ?_
    | refine Then.exit ?_
    | refine Then.ret ?_
    | refine zac.exit ?_
    | refine zac.ret ?_
    | refine zab.normal ?_
    | refine zab.ret ?_
    | (apply zab.same;exact rfl)
    | (apply zab.other;exact rfl)
    | (apply TO.zaI;(iterate 3 exact rfl);omega;omega)
    | (apply TO.mul64;(iterate 3 exact rfl);omega;omega)
    | (apply TO.convert_u8;exact rfl;kernel_rfl;kernel_rfl;exact rfl)
    | (apply TO.bin;(iterate 4 exact rfl))
    | (apply TO.zbb zaa;(iterate 6 exact rfl);omega;omega)
    | (apply TO.zaB zaa;(iterate 5 exact rfl);omega)
    | (apply TO.zaE zaa;(iterate 5 exact rfl);omega)
    | (apply TO.not;exact rfl;exact rfl)
    | (apply TO.zan;exact rfl;exact rfl)
    | (apply TO.zaH zaa;(iterate 4 exact rfl);exact leB)
    | (apply TO.zak zaa;(iterate 5 exact rfl);exact leB)
    | (apply TO.za9 zaa;(iterate 4 exact rfl))
    | (apply TO.za6 zaa;(iterate 7 exact rfl))
    | (apply TO.build zaa;(iterate 6 exact rfl))
    | refine zqp ?_
    | refine zqo ?_
    | refine zqe ?_
    | refine zqk ?_
    | refine zqb ?_
    | (apply TO.eqb;(iterate 3 exact rfl);kernel_rfl)
    | (apply TO.neb;(iterate 3 exact rfl);kernel_rfl)
    | (apply TO.zay (j:=0) zaa;(iterate 10 exact rfl))
    | (apply TO.makeFunc;exact rfl;exact rfl)
    | (apply TO.zah zaa;(iterate 5 exact rfl);decide;exact rfl)
    | (apply TO.zar zaa;(iterate 5 exact rfl))
    | (apply TO.zaq zaa;(iterate 4 exact rfl))
    | (apply TO.ne_nil_ptr zaa;(iterate 5 exact rfl))
    | (apply TO.ne_nil_nil zaa;(iterate 4 exact rfl))
    | refine zqj ?_
    | refine zql ?_
    | (apply TO.ssl_hi zaa;(iterate 8 exact rfl);omega))
   ·refine RetK.pure rfl ?_ rfl
    rw[if_pos hc]at he
    rw[<-he]
    exact Le.tup ⟨Le.nil 3,Le.refl _,Le.refl _,trivial⟩
   ·obtain⟨hL1,hL2⟩:=hL hc
    rw[if_neg (by rw[show(ea != 0)=false from hc];simp)]at he
    refine zac.cut 2 (n,j+na,out++[(ka,xa,(j:Int))]) ⟨by simp only;omega,by simp only;omega,by simp only[qal,qac,qaf];omega,he⟩ (qbF n) ⟨rfl,rfl,?_,trivial⟩ rfl rfl ?_ rfl rfl
    ·simp only[qav];rfl
    ·simp only[qav,qal];rfl
  ·repeat' (first
    | (apply TO.move;exact rfl;exact rfl)
    | (apply TO.assign;exact rfl;exact rfl)
    | (apply TO.want;exact rfl)
    | refine zqn ?_
    | refine zqc ?_
    | (apply TO.eqs;(iterate 3 exact rfl))
    | (apply TO.nes;(iterate 3 exact rfl))
    | (apply TO.cmp;(iterate 4 exact rfl))
    | (intro hc;exact absurd hc (by decide))
    | (intro hc;exfalso;simp only[decide_eq_true_eq,decide_eq_false_iff_not,beq_iff_eq,beq_eq_false_iff_ne,bne_iff_ne,bne_eq_false_iff_eq,ne_eq,qam,not_true_eq_false]at hc;done)
    | (intro hc;exfalso;(first|simp only[decide_eq_true_eq,decide_eq_false_iff_not,beq_iff_eq,beq_eq_false_iff_ne,bne_iff_ne,bne_eq_false_iff_eq,ne_eq,qam,not_true_eq_false]at hc|skip);first|omega|(simp only[qaf,qac]at *;omega))
    | intro hc
    | (apply TO.pick;(iterate 3 exact rfl))
    | (apply TO.pass;exact rfl;exact rfl)
    | (apply TO.zbP;exact rfl)
    | (apply TO.load zaa;(iterate 5 exact rfl))
    | (apply TO.zaD zaa;(iterate 6 exact rfl))
    | (apply TO.fieldAddr zaa;(iterate 5 exact rfl);decide;exact rfl)
    | (apply TO.zaj zaa;(iterate 5 exact rfl);decide;exact rfl)
    | (apply TO.nilCheck;(iterate 3 exact rfl))
    | (apply TO.zaw zaa;(iterate 5 exact rfl);assumption)
    | (apply TO.zau zaa;(iterate 5 exact rfl);decide;exact rfl)
    | (apply TO.zaT zaa;(iterate 4 exact rfl))
    | (apply TO.zba zaa;(iterate 7 exact rfl))
    | refine zqg ?_
    | (apply TO.extract;(iterate 3 exact rfl))
    | (apply TO.zcC [0] (v':=.tup []) (H':=[.cells [.s s,.i (j:Int)],.tail (out.map tokT).length]) (hS);(iterate 3 exact rfl);(first|exact⟨Le.refl _,trivial⟩|exact⟨Le.refl _,Le.refl _,trivial⟩|exact⟨Le.refl _,Le.refl _,Le.refl _,trivial⟩);exact rfl;exact Hands.one rfl rfl;exact rfl;exact rfl)
    | refine TO.nil ?_
    | refine TR.seq ?_
    | refine TR.region ?_
    | (apply TR.zbO;exact rfl)
    | (apply TR.zbN;exact rfl)
    | refine Then.normal ?_
    | refine TR.block ?_
    | refine TR.skip ?_
    | (apply TR.zaU hmix;kernel_rfl;exact rfl)
    | refine TR.exit ?_
    | refine TR.ret ?_
    | refine Then.exit ?_
    | refine Then.ret ?_
    | refine zac.exit ?_
    | refine zac.ret ?_
    | refine zab.normal ?_
    | refine zab.ret ?_
    | (apply zab.same;exact rfl)
    | (apply zab.other;exact rfl)
    | (apply TO.zaI;(iterate 3 exact rfl);omega;omega)
    | (apply TO.mul64;(iterate 3 exact rfl);omega;omega)
    | (apply TO.convert_u8;exact rfl;kernel_rfl;kernel_rfl;exact rfl)
    | (apply TO.bin;(iterate 4 exact rfl))
    | (apply TO.zbb zaa;(iterate 6 exact rfl);omega;omega)
    | (apply TO.zaB zaa;(iterate 5 exact rfl);omega)
    | (apply TO.zaE zaa;(iterate 5 exact rfl);omega)
    | (apply TO.not;exact rfl;exact rfl)
    | (apply TO.zan;exact rfl;exact rfl)
    | (apply TO.zaH zaa;(iterate 4 exact rfl);exact leB)
    | (apply TO.zak zaa;(iterate 5 exact rfl);exact leB)
    | (apply TO.za9 zaa;(iterate 4 exact rfl))
    | (apply TO.za6 zaa;(iterate 7 exact rfl))
    | (apply TO.build zaa;(iterate 6 exact rfl))
    | refine zqp ?_
    | refine zqo ?_
    | refine zqe ?_
    | refine zqk ?_
    | refine zqb ?_
    | (apply TO.eqb;(iterate 3 exact rfl);kernel_rfl)
    | (apply TO.neb;(iterate 3 exact rfl);kernel_rfl)
    | (apply TO.zay (j:=0) zaa;(iterate 10 exact rfl))
    | (apply TO.makeFunc;exact rfl;exact rfl)
    | (apply TO.zah zaa;(iterate 5 exact rfl);decide;exact rfl)
    | (apply TO.zar zaa;(iterate 5 exact rfl))
    | (apply TO.zaq zaa;(iterate 4 exact rfl))
    | (apply TO.ne_nil_ptr zaa;(iterate 5 exact rfl))
    | (apply TO.ne_nil_nil zaa;(iterate 4 exact rfl))
    | refine zqj ?_
    | refine zql ?_
    | (apply TO.ssl_hi zaa;(iterate 8 exact rfl);omega))
   have hje:j=s.length:=by omega
   rw[if_pos hje]at he
   refine RetK.pure rfl ?_ rfl
   rw[<-he]
   exact Le.tup ⟨Le.own 3 _ 1,Le.refl _,Le.refl _,trivial⟩
end Go.Proofs.YtpfnfpaahefdaaaGreat
