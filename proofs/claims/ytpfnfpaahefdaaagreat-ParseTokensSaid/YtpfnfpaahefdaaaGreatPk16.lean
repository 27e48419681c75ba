import Derived.Test.YtpfnfpaahefdaaaGreatPk15
set_option linter.all false
namespace Go.Proofs.YtpfnfpaahefdaaaGreat
open Go Go.TL
attribute [local irreducible] TR TO Then zab RetK Sound zac Kf GG za2
theorem zb7(l:Str):skipped l=if zbp (behind blank l) [45,45]=true then skipped (behind (fun c=>c != 10) (behind blank l)) else behind blank l:=by
 rw[skipped];split <;> rfl
theorem zgy(l:Str):(skipped l).length≤l.length:=by
 induction hn:l.length using Nat.strongRecOn generalizing l with
 | _ n ih=>
   subst hn
   rw[zb7]
   have h1:=zd3 blank l
   split
   ·rename_i h
    obtain⟨r,hr⟩:=zcM h
    have:=@zew r
    rw[hr]at h1⊢
    have h2:=ih _ (by omega) (behind (fun c=>c != 10) (45::45::r)) rfl
    omega
   ·exact h1
theorem zeh(p:Int->Bool)(s:Str)(k:Nat):s.drop (k+(zat p (s.drop k)).length)=behind p (s.drop k):=by
 rw[behind,qb6]
theorem zhT(p:Int->Bool)(s:Str)(k:Nat)(hk:k≤s.length):k+(zat p (s.drop k)).length≤s.length:=by
 have:=zch p (s.drop k)
 rw[qaQ]at this;omega
set_option maxHeartbeats 1000000 in
theorem zl0 (s:Str) (hs:s.length≤1000000) (i:Nat) (hi:i≤s.length):
  Sound Tryz.prog 23 [.ref 0 0] (scanner s i) (fun r H'=>r= .ret (.tup [])/\H'=scanner s (s.length-(skipped (s.drop i)).length)):=by
 refine so Tryz.func23 ?_
 repeat' (first
  | (apply TO.move;exact rfl;exact rfl)
  | (apply TO.assign;exact rfl;exact rfl)
  | (apply TO.want;exact rfl)
  | refine zqn ?_
  | refine zqc ?_
  | (apply TO.eqs;(iterate 3 exact rfl))
  | (apply TO.nes;(iterate 3 exact rfl))
  | (apply TO.cmp;(iterate 4 exact rfl))
  | (intro hc;exact absurd hc (by decide))
  | (intro hc;exfalso;simp only[decide_eq_true_eq,decide_eq_false_iff_not,beq_iff_eq,beq_eq_false_iff_ne,bne_iff_ne,bne_eq_false_iff_eq,ne_eq,qam,not_true_eq_false]at hc;done)
  | (intro hc;exfalso;(first|simp only[decide_eq_true_eq,decide_eq_false_iff_not,beq_iff_eq,beq_eq_false_iff_ne,bne_iff_ne,bne_eq_false_iff_eq,ne_eq,qam,not_true_eq_false]at hc|skip);first|omega|(simp only[qaf,qac]at *;omega))
  | intro hc
  | (apply TO.pick;(iterate 3 exact rfl))
  | (apply TO.pass;exact rfl;exact rfl)
  | (apply TO.zbP;exact rfl)
  | (apply TO.load zaa;(iterate 5 exact rfl))
  | (apply TO.zaD zaa;(iterate 6 exact rfl))
  | (apply TO.fieldAddr zaa;(iterate 5 exact rfl);decide;exact rfl)
  | (apply TO.zaj zaa;(iterate 5 exact rfl);decide;exact rfl)
  | (apply TO.nilCheck;(iterate 3 exact rfl))
  | (apply TO.zaw zaa;(iterate 5 exact rfl);assumption)
  | (apply TO.zau zaa;(iterate 5 exact rfl);decide;exact rfl)
  | (apply TO.zaT zaa;(iterate 4 exact rfl))
  | (apply TO.zba zaa;(iterate 7 exact rfl))
  | refine zqg ?_
  | (apply TO.extract;(iterate 3 exact rfl))
  | refine TO.nil ?_
  | refine TR.seq ?_
  | refine TR.region ?_
  | (apply TR.zbO;exact rfl)
  | (apply TR.zbN;exact rfl)
  | refine Then.normal ?_
  | refine TR.block ?_
  | refine TR.skip ?_
  | (apply TR.zaU hmix;kernel_rfl;exact rfl)
  | refine TR.exit ?_
  | refine TR.ret ?_
  | refine Then.exit ?_
  | refine Then.ret ?_
  | refine zac.exit ?_
  | refine zac.ret ?_
  | refine zab.normal ?_
  | refine zab.ret ?_
  | (apply zab.same;exact rfl)
  | (apply zab.other;exact rfl)
  | (apply TO.zaI;(iterate 3 exact rfl);omega;omega)
  | (apply TO.mul64;(iterate 3 exact rfl);omega;omega)
  | (apply TO.convert_u8;exact rfl;kernel_rfl;kernel_rfl;exact rfl)
  | (apply TO.bin;(iterate 4 exact rfl))
  | (apply TO.zbb zaa;(iterate 6 exact rfl);omega;omega)
  | (apply TO.zaB zaa;(iterate 5 exact rfl);omega)
  | (apply TO.zaE zaa;(iterate 5 exact rfl);omega)
  | (apply TO.not;exact rfl;exact rfl)
  | (apply TO.zan;exact rfl;exact rfl)
  | (apply TO.zaH zaa;(iterate 4 exact rfl);exact leB)
  | (apply TO.zak zaa;(iterate 5 exact rfl);exact leB)
  | (apply TO.za9 zaa;(iterate 4 exact rfl))
  | (apply TO.za6 zaa;(iterate 7 exact rfl))
  | (apply TO.build zaa;(iterate 6 exact rfl))
  | refine zqp ?_
  | refine zqo ?_
  | refine zqe ?_
  | refine zqk ?_
  | refine zqb ?_
  | (apply TO.eqb;(iterate 3 exact rfl);kernel_rfl)
  | (apply TO.neb;(iterate 3 exact rfl);kernel_rfl)
  | (apply TO.zay (j:=0) zaa;(iterate 10 exact rfl))
  | (apply TO.makeFunc;exact rfl;exact rfl)
  | (apply TO.zah zaa;(iterate 5 exact rfl);decide;exact rfl)
  | (apply TO.zar zaa;(iterate 5 exact rfl))
  | (apply TO.zaq zaa;(iterate 4 exact rfl))
  | (apply TO.ne_nil_ptr zaa;(iterate 5 exact rfl))
  | (apply TO.ne_nil_nil zaa;(iterate 4 exact rfl))
  | refine zqj ?_
  | refine zql ?_
  | (apply TO.ssl_hi zaa;(iterate 8 exact rfl);omega))
 refine TR.zbd (ι:=Nat) (fun k=>k≤s.length/\skipped (s.drop k)=skipped (s.drop i)) (fun k=>s.length-k) (fun k=>[(0,.ref 0 0)]) (fun k=>scanner s k) i ⟨hi,rfl⟩ ⟨rfl,trivial⟩ rfl ?_
 rintro k ⟨h1,h3⟩
 obtain⟨a,ha⟩:∃a,a=zat blank (s.drop k):=⟨_,rfl⟩
 have ha1:=zhT blank s k h1
 have ha2:=zeh blank s k
 rw[<-ha]at ha1 ha2
 obtain⟨b,hb⟩:∃b,b=zat (fun c=>c != 10) (s.drop (k+a.length)):=⟨_,rfl⟩
 have hb1:=zhT (fun c=>c != 10) s (k+a.length) ha1
 have hb2:=zeh (fun c=>c != 10) s (k+a.length)
 rw[<-hb]at hb1 hb2
 have hS1:=zdp 50 blank zjj s hs k h1
 rw[<-ha]at hS1
 have hS2:=zdp 52 (fun c=>c != 10) zjV s hs (k+a.length) ha1
 rw[<-hb]at hS2
 have he:=zb7 (s.drop k)
 repeat' (first
  | (apply TO.move;exact rfl;exact rfl)
  | (apply TO.assign;exact rfl;exact rfl)
  | (apply TO.want;exact rfl)
  | refine zqn ?_
  | refine zqc ?_
  | (apply TO.eqs;(iterate 3 exact rfl))
  | (apply TO.nes;(iterate 3 exact rfl))
  | (apply TO.cmp;(iterate 4 exact rfl))
  | (intro hc;exact absurd hc (by decide))
  | (intro hc;exfalso;simp only[decide_eq_true_eq,decide_eq_false_iff_not,beq_iff_eq,beq_eq_false_iff_ne,bne_iff_ne,bne_eq_false_iff_eq,ne_eq,qam,not_true_eq_false]at hc;done)
  | (intro hc;exfalso;(first|simp only[decide_eq_true_eq,decide_eq_false_iff_not,beq_iff_eq,beq_eq_false_iff_ne,bne_iff_ne,bne_eq_false_iff_eq,ne_eq,qam,not_true_eq_false]at hc|skip);first|omega|(simp only[qaf,qac]at *;omega))
  | intro hc
  | (apply TO.pick;(iterate 3 exact rfl))
  | (apply TO.pass;exact rfl;exact rfl)
  | (apply TO.zbP;exact rfl)
  | (apply TO.load zaa;(iterate 5 exact rfl))
  | (apply TO.zaD zaa;(iterate 6 exact rfl))
  | (apply TO.fieldAddr zaa;(iterate 5 exact rfl);decide;exact rfl)
  | (apply TO.zaj zaa;(iterate 5 exact rfl);decide;exact rfl)
  | (apply TO.nilCheck;(iterate 3 exact rfl))
  | (apply TO.zaw zaa;(iterate 5 exact rfl);assumption)
  | (apply TO.zau zaa;(iterate 5 exact rfl);decide;exact rfl)
  | (apply TO.zaT zaa;(iterate 4 exact rfl))
  | (apply TO.zba zaa;(iterate 7 exact rfl))
  | refine zqg ?_
  | (apply TO.extract;(iterate 3 exact rfl))
  | (apply TO.zcC [0] (v':=.s a) (H':=scanner s (k+a.length)) (hS1);(iterate 3 exact rfl);(first|exact⟨Le.refl _,trivial⟩|exact⟨Le.refl _,Le.refl _,trivial⟩|exact⟨Le.refl _,Le.refl _,Le.refl _,trivial⟩);exact rfl;exact Hands.one rfl rfl;exact rfl;exact rfl)
  | (apply TO.zcC [0] (v':=.s b) (H':=scanner s (k+a.length+b.length)) (hS2);(iterate 3 exact rfl);(first|exact⟨Le.refl _,trivial⟩|exact⟨Le.refl _,Le.refl _,trivial⟩|exact⟨Le.refl _,Le.refl _,Le.refl _,trivial⟩);exact rfl;exact Hands.one rfl rfl;exact rfl;exact rfl)
  | (apply TO.zdH (zdS _ _);(iterate 3 exact rfl);exact⟨.t _,.t _,trivial⟩)
  | refine TO.nil ?_
  | refine TR.seq ?_
  | refine TR.region ?_
  | (apply TR.zbO;exact rfl)
  | (apply TR.zbN;exact rfl)
  | refine Then.normal ?_
  | refine TR.block ?_
  | refine TR.skip ?_
  | (apply TR.zaU hmix;kernel_rfl;exact rfl)
  | refine TR.exit ?_
  | refine TR.ret ?_
  | refine Then.exit ?_
  | refine Then.ret ?_
  | refine zac.exit ?_
  | refine zac.ret ?_
  | refine zab.normal ?_
  | refine zab.ret ?_
  | (apply zab.same;exact rfl)
  | (apply zab.other;exact rfl)
  | (apply TO.zaI;(iterate 3 exact rfl);omega;omega)
  | (apply TO.mul64;(iterate 3 exact rfl);omega;omega)
  | (apply TO.convert_u8;exact rfl;kernel_rfl;kernel_rfl;exact rfl)
  | (apply TO.bin;(iterate 4 exact rfl))
  | (apply TO.zbb zaa;(iterate 6 exact rfl);omega;omega)
  | (apply TO.zaB zaa;(iterate 5 exact rfl);omega)
  | (apply TO.zaE zaa;(iterate 5 exact rfl);omega)
  | (apply TO.not;exact rfl;exact rfl)
  | (apply TO.zan;exact rfl;exact rfl)
  | (apply TO.zaH zaa;(iterate 4 exact rfl);exact leB)
  | (apply TO.zak zaa;(iterate 5 exact rfl);exact leB)
  | (apply TO.za9 zaa;(iterate 4 exact rfl))
  | (apply TO.za6 zaa;(iterate 7 exact rfl))
  | (apply TO.build zaa;(iterate 6 exact rfl))
  | refine zqp ?_
  | refine zqo ?_
  | refine zqe ?_
  | refine zqk ?_
  | refine zqb ?_
  | (apply TO.eqb;(iterate 3 exact rfl);kernel_rfl)
  | (apply TO.neb;(iterate 3 exact rfl);kernel_rfl)
  | (apply TO.zay (j:=0) zaa;(iterate 10 exact rfl))
  | (apply TO.makeFunc;exact rfl;exact rfl)
  | (apply TO.zah zaa;(iterate 5 exact rfl);decide;exact rfl)
  | (apply TO.zar zaa;(iterate 5 exact rfl))
  | (apply TO.zaq zaa;(iterate 4 exact rfl))
  | (apply TO.ne_nil_ptr zaa;(iterate 5 exact rfl))
  | (apply TO.ne_nil_nil zaa;(iterate 4 exact rfl))
  | refine zqj ?_
  | refine zql ?_
  | (apply TO.ssl_hi zaa;(iterate 8 exact rfl);omega))
 ·have hlt:0<b.length:=by
   rw[hb,ha2]
   rw[ha2]at hc
   obtain⟨r,hr⟩:=zcM hc
   rw[hr];simp[zat]
  refine zac.next (k+a.length+b.length) ⟨hb1,?_⟩ (by omega) ⟨rfl,trivial⟩ rfl
  rw[<-h3,he,hb2,<-ha2,if_pos hc]
 ·refine RetK.keep 1 rfl (Le.refl _) rfl rfl rfl rfl rfl ⟨rfl,?_⟩
  rw[<-ha2,if_neg (by simp[hc])]at he
  rw[<-h3,he,qaQ,show s.length-(s.length-(k+a.length))=k+a.length from by omega];rfl
abbrev tokV (k:Int)(x:Str)(p:Int):SV:=.ag [.i k,.s x,.i p]
abbrev tokR (a:Int×Str×Int):SV:=.tup [tokV a.1 a.2.1 0,.i a.2.2]
def zda(w:Str):Int×Str×Int:=if 40<(w.length:Int) then(0,[],3) else if keyword w then(3,w,0) else(1,w,0)
def zc3(w:Str):Int×Str×Int:=
 if decide (1<(w.length:Int)) && (match w with|c::_=>((c.toNat:Int) == 48)|[]=>false) then(0,[],5)
 else if decide (5<(w.length:Int)) || ((w.length:Int) == 5 && !(Op.bytesLess w [51,50,55,54,56] || w == [51,50,55,54,56])) then(0,[],14) else(2,w,0)
set_option maxHeartbeats 1000000 in
theorem zlH (s:Str) (hs:s.length≤1000000) (i:Nat) (hi:i≤s.length):
  Sound Tryz.prog 54 [.ref 0 0] (scanner s i) (fun r H'=>r= .ret (tokR (zda (zat inner (s.drop i))))/\H'=scanner s (i+(zat inner (s.drop i)).length)):=by
 refine so Tryz.func54 ?_
 have hS1:=zdp 76 inner zgf s hs i hi
 generalize zat inner (s.drop i)=a at hS1⊢
 repeat' (first
  | (apply TO.move;exact rfl;exact rfl)
  | (apply TO.assign;exact rfl;exact rfl)
  | (apply TO.want;exact rfl)
  | refine zqn ?_
  | refine zqc ?_
  | (apply TO.eqs;(iterate 3 exact rfl))
  | (apply TO.nes;(iterate 3 exact rfl))
  | (apply TO.cmp;(iterate 4 exact rfl))
  | (intro hc;exact absurd hc (by decide))
  | (intro hc;exfalso;simp only[decide_eq_true_eq,decide_eq_false_iff_not,beq_iff_eq,beq_eq_false_iff_ne,bne_iff_ne,bne_eq_false_iff_eq,ne_eq,qam,not_true_eq_false]at hc;done)
  | (intro hc;exfalso;(first|simp only[decide_eq_true_eq,decide_eq_false_iff_not,beq_iff_eq,beq_eq_false_iff_ne,bne_iff_ne,bne_eq_false_iff_eq,ne_eq,qam,not_true_eq_false]at hc|skip);first|omega|(simp only[qaf,qac]at *;omega))
  | intro hc
  | (apply TO.pick;(iterate 3 exact rfl))
  | (apply TO.pass;exact rfl;exact rfl)
  | (apply TO.zbP;exact rfl)
  | (apply TO.load zaa;(iterate 5 exact rfl))
  | (apply TO.zaD zaa;(iterate 6 exact rfl))
  | (apply TO.fieldAddr zaa;(iterate 5 exact rfl);decide;exact rfl)
  | (apply TO.zaj zaa;(iterate 5 exact rfl);decide;exact rfl)
  | (apply TO.nilCheck;(iterate 3 exact rfl))
  | (apply TO.zaw zaa;(iterate 5 exact rfl);assumption)
  | (apply TO.zau zaa;(iterate 5 exact rfl);decide;exact rfl)
  | (apply TO.zaT zaa;(iterate 4 exact rfl))
  | (apply TO.zba zaa;(iterate 7 exact rfl))
  | refine zqg ?_
  | (apply TO.extract;(iterate 3 exact rfl))
  | (apply TO.zcC [0] (v':=.s a) (H':=[.cells [.s s,.i ((i+a.length:Nat):Int)],.cells [.i 0,.s [],.i 0]]) (hS1);(iterate 3 exact rfl);(first|exact⟨Le.refl _,trivial⟩|exact⟨Le.refl _,Le.refl _,trivial⟩|exact⟨Le.refl _,Le.refl _,Le.refl _,trivial⟩);exact rfl;exact Hands.one rfl rfl;exact rfl;exact rfl)
  | (apply TO.zdH (zca _);(iterate 3 exact rfl);exact⟨.t _,trivial⟩)
  | refine TO.nil ?_
  | refine TR.seq ?_
  | refine TR.region ?_
  | (apply TR.zbO;exact rfl)
  | (apply TR.zbN;exact rfl)
  | refine Then.normal ?_
  | refine TR.block ?_
  | refine TR.skip ?_
  | (apply TR.zaU hmix;kernel_rfl;exact rfl)
  | refine TR.exit ?_
  | refine TR.ret ?_
  | refine Then.exit ?_
  | refine Then.ret ?_
  | refine zac.exit ?_
  | refine zac.ret ?_
  | refine zab.normal ?_
  | refine zab.ret ?_
  | (apply zab.same;exact rfl)
  | (apply zab.other;exact rfl)
  | (apply TO.zaI;(iterate 3 exact rfl);omega;omega)
  | (apply TO.mul64;(iterate 3 exact rfl);omega;omega)
  | (apply TO.convert_u8;exact rfl;kernel_rfl;kernel_rfl;exact rfl)
  | (apply TO.bin;(iterate 4 exact rfl))
  | (apply TO.zbb zaa;(iterate 6 exact rfl);omega;omega)
  | (apply TO.zaB zaa;(iterate 5 exact rfl);omega)
  | (apply TO.zaE zaa;(iterate 5 exact rfl);omega)
  | (apply TO.not;exact rfl;exact rfl)
  | (apply TO.zan;exact rfl;exact rfl)
  | (apply TO.zaH zaa;(iterate 4 exact rfl);exact leB)
  | (apply TO.zak zaa;(iterate 5 exact rfl);exact leB)
  | (apply TO.za9 zaa;(iterate 4 exact rfl))
  | (apply TO.za6 zaa;(iterate 7 exact rfl))
  | (apply TO.build zaa;(iterate 6 exact rfl))
  | refine zqp ?_
  | refine zqo ?_
  | refine zqe ?_
  | refine zqk ?_
  | refine zqb ?_
  | (apply TO.eqb;(iterate 3 exact rfl);kernel_rfl)
  | (apply TO.neb;(iterate 3 exact rfl);kernel_rfl)
  | (apply TO.zay (j:=0) zaa;(iterate 10 exact rfl))
  | (apply TO.makeFunc;exact rfl;exact rfl)
  | (apply TO.zah zaa;(iterate 5 exact rfl);decide;exact rfl)
  | (apply TO.zar zaa;(iterate 5 exact rfl))
  | (apply TO.zaq zaa;(iterate 4 exact rfl))
  | (apply TO.ne_nil_ptr zaa;(iterate 5 exact rfl))
  | (apply TO.ne_nil_nil zaa;(iterate 4 exact rfl))
  | refine zqj ?_
  | refine zql ?_
  | (apply TO.ssl_hi zaa;(iterate 8 exact rfl);omega))
 all_goals(refine RetK.keep 1 rfl (Le.of_eq (congrArg tokR (a₁:=(_,_,_)) (a₂:=zda a) ?_)) rfl rfl rfl rfl rfl ⟨rfl,?_⟩ <;> first|rfl|(simp_all [zda];done)|(simp only[zda];(repeat' split) <;> first|rfl|(exfalso;simp_all;done)|(exfalso;simp_all <;> omega)))
set_option maxHeartbeats 1000000 in
theorem ziM (s:Str) (hs:s.length≤1000000) (i:Nat) (hi:i≤s.length):
  Sound Tryz.prog 56 [.ref 0 0] (scanner s i) (fun r H'=>r= .ret (tokR (zc3 (zat digit (s.drop i))))/\H'=scanner s (i+(zat digit (s.drop i)).length)):=by
 refine so Tryz.func56 ?_
 have hS1:=zdp 55 digit zei s hs i hi
 have hl:=zhT digit s i hi
 generalize zat digit (s.drop i)=a at hS1 hl⊢
 cases a with
 | nil=>
   repeat' (first
    | (apply TO.move;exact rfl;exact rfl)
    | (apply TO.assign;exact rfl;exact rfl)
    | (apply TO.want;exact rfl)
    | refine zqn ?_
    | refine zqc ?_
    | (apply TO.eqs;(iterate 3 exact rfl))
    | (apply TO.nes;(iterate 3 exact rfl))
    | (apply TO.cmp;(iterate 4 exact rfl))
    | (intro hc;exact absurd hc (by decide))
    | (intro hc;exfalso;simp only[decide_eq_true_eq,decide_eq_false_iff_not,beq_iff_eq,beq_eq_false_iff_ne,bne_iff_ne,bne_eq_false_iff_eq,ne_eq,qam,not_true_eq_false]at hc;done)
    | (intro hc;exfalso;(first|simp only[decide_eq_true_eq,decide_eq_false_iff_not,beq_iff_eq,beq_eq_false_iff_ne,bne_iff_ne,bne_eq_false_iff_eq,ne_eq,qam,not_true_eq_false]at hc|skip);first|omega|(simp only[qaf,qac]at *;omega))
    | intro hc
    | (apply TO.pick;(iterate 3 exact rfl))
    | (apply TO.pass;exact rfl;exact rfl)
    | (apply TO.zbP;exact rfl)
    | (apply TO.load zaa;(iterate 5 exact rfl))
    | (apply TO.zaD zaa;(iterate 6 exact rfl))
    | (apply TO.fieldAddr zaa;(iterate 5 exact rfl);decide;exact rfl)
    | (apply TO.zaj zaa;(iterate 5 exact rfl);decide;exact rfl)
    | (apply TO.nilCheck;(iterate 3 exact rfl))
    | (apply TO.zaw zaa;(iterate 5 exact rfl);assumption)
    | (apply TO.zau zaa;(iterate 5 exact rfl);decide;exact rfl)
    | (apply TO.zaT zaa;(iterate 4 exact rfl))
    | (apply TO.zba zaa;(iterate 7 exact rfl))
    | refine zqg ?_
    | (apply TO.extract;(iterate 3 exact rfl))
    | (apply TO.zcC [0] (v':=.s []) (H':=[.cells [.s s,.i ((i+([]:Str).length:Nat):Int)],.cells [.i 0,.s [],.i 0]]) (hS1);(iterate 3 exact rfl);(first|exact⟨Le.refl _,trivial⟩|exact⟨Le.refl _,Le.refl _,trivial⟩|exact⟨Le.refl _,Le.refl _,Le.refl _,trivial⟩);exact rfl;exact Hands.one rfl rfl;exact rfl;exact rfl)
    | (apply TO.zdH (zca _);(iterate 3 exact rfl);exact⟨.t _,trivial⟩)
    | refine TO.nil ?_
    | refine TR.seq ?_
    | refine TR.region ?_
    | (apply TR.zbO;exact rfl)
    | (apply TR.zbN;exact rfl)
    | refine Then.normal ?_
    | refine TR.block ?_
    | refine TR.skip ?_
    | (apply TR.zaU hmix;kernel_rfl;exact rfl)
    | refine TR.exit ?_
    | refine TR.ret ?_
    | refine Then.exit ?_
    | refine Then.ret ?_
    | refine zac.exit ?_
    | refine zac.ret ?_
    | refine zab.normal ?_
    | refine zab.ret ?_
    | (apply zab.same;exact rfl)
    | (apply zab.other;exact rfl)
    | (apply TO.zaI;(iterate 3 exact rfl);omega;omega)
    | (apply TO.mul64;(iterate 3 exact rfl);omega;omega)
    | (apply TO.convert_u8;exact rfl;kernel_rfl;kernel_rfl;exact rfl)
    | (apply TO.bin;(iterate 4 exact rfl))
    | (apply TO.zbb zaa;(iterate 6 exact rfl);omega;omega)
    | (apply TO.zaB zaa;(iterate 5 exact rfl);omega)
    | (apply TO.zaE zaa;(iterate 5 exact rfl);omega)
    | (apply TO.not;exact rfl;exact rfl)
    | (apply TO.zan;exact rfl;exact rfl)
    | (apply TO.zaH zaa;(iterate 4 exact rfl);exact leB)
    | (apply TO.zak zaa;(iterate 5 exact rfl);exact leB)
    | (apply TO.za9 zaa;(iterate 4 exact rfl))
    | (apply TO.za6 zaa;(iterate 7 exact rfl))
    | (apply TO.build zaa;(iterate 6 exact rfl))
    | refine zqp ?_
    | refine zqo ?_
    | refine zqe ?_
    | refine zqk ?_
    | refine zqb ?_
    | (apply TO.eqb;(iterate 3 exact rfl);kernel_rfl)
    | (apply TO.neb;(iterate 3 exact rfl);kernel_rfl)
    | (apply TO.zay (j:=0) zaa;(iterate 10 exact rfl))
    | (apply TO.makeFunc;exact rfl;exact rfl)
    | (apply TO.zah zaa;(iterate 5 exact rfl);decide;exact rfl)
    | (apply TO.zar zaa;(iterate 5 exact rfl))
    | (apply TO.zaq zaa;(iterate 4 exact rfl))
    | (apply TO.ne_nil_ptr zaa;(iterate 5 exact rfl))
    | (apply TO.ne_nil_nil zaa;(iterate 4 exact rfl))
    | refine zqj ?_
    | refine zql ?_
    | (apply TO.ssl_hi zaa;(iterate 8 exact rfl);omega))
   all_goals(refine RetK.keep 1 rfl (Le.of_eq (congrArg tokR (a₁:=(_,_,_)) (a₂:=zc3 _) ?_)) rfl rfl rfl rfl rfl ⟨rfl,?_⟩ <;> first|rfl|(simp_all [zc3];done)|(simp only[zc3];(repeat' split) <;> first|rfl|(exfalso;simp_all;done)|(exfalso;simp_all <;> omega)))
 | cons c r=>
   repeat' (first
    | (apply TO.move;exact rfl;exact rfl)
    | (apply TO.assign;exact rfl;exact rfl)
    | (apply TO.want;exact rfl)
    | refine zqn ?_
    | refine zqc ?_
    | (apply TO.eqs;(iterate 3 exact rfl))
    | (apply TO.nes;(iterate 3 exact rfl))
    | (apply TO.cmp;(iterate 4 exact rfl))
    | (intro hc;exact absurd hc (by decide))
    | (intro hc;exfalso;simp only[decide_eq_true_eq,decide_eq_false_iff_not,beq_iff_eq,beq_eq_false_iff_ne,bne_iff_ne,bne_eq_false_iff_eq,ne_eq,qam,not_true_eq_false]at hc;done)
    | (intro hc;exfalso;(first|simp only[decide_eq_true_eq,decide_eq_false_iff_not,beq_iff_eq,beq_eq_false_iff_ne,bne_iff_ne,bne_eq_false_iff_eq,ne_eq,qam,not_true_eq_false]at hc|skip);first|omega|(simp only[qaf,qac]at *;omega))
    | intro hc
    | (apply TO.pick;(iterate 3 exact rfl))
    | (apply TO.pass;exact rfl;exact rfl)
    | (apply TO.zbP;exact rfl)
    | (apply TO.load zaa;(iterate 5 exact rfl))
    | (apply TO.zaD zaa;(iterate 6 exact rfl))
    | (apply TO.fieldAddr zaa;(iterate 5 exact rfl);decide;exact rfl)
    | (apply TO.zaj zaa;(iterate 5 exact rfl);decide;exact rfl)
    | (apply TO.nilCheck;(iterate 3 exact rfl))
    | (apply TO.zaw zaa;(iterate 5 exact rfl);assumption)
    | (apply TO.zau zaa;(iterate 5 exact rfl);decide;exact rfl)
    | (apply TO.zaT zaa;(iterate 4 exact rfl))
    | (apply TO.zba zaa;(iterate 7 exact rfl))
    | refine zqg ?_
    | (apply TO.extract;(iterate 3 exact rfl))
    | (apply TO.zcC [0] (v':=.s (c::r)) (H':=[.cells [.s s,.i ((i+(c::r).length:Nat):Int)],.cells [.i 0,.s [],.i 0]]) (hS1);(iterate 3 exact rfl);(first|exact⟨Le.refl _,trivial⟩|exact⟨Le.refl _,Le.refl _,trivial⟩|exact⟨Le.refl _,Le.refl _,Le.refl _,trivial⟩);exact rfl;exact Hands.one rfl rfl;exact rfl;exact rfl)
    | (apply TO.zdH (zca _);(iterate 3 exact rfl);exact⟨.t _,trivial⟩)
    | refine TO.nil ?_
    | refine TR.seq ?_
    | refine TR.region ?_
    | (apply TR.zbO;exact rfl)
    | (apply TR.zbN;exact rfl)
    | refine Then.normal ?_
    | refine TR.block ?_
    | refine TR.skip ?_
    | (apply TR.zaU hmix;kernel_rfl;exact rfl)
    | refine TR.exit ?_
    | refine TR.ret ?_
    | refine Then.exit ?_
    | refine Then.ret ?_
    | refine zac.exit ?_
    | refine zac.ret ?_
    | refine zab.normal ?_
    | refine zab.ret ?_
    | (apply zab.same;exact rfl)
    | (apply zab.other;exact rfl)
    | (apply TO.zaI;(iterate 3 exact rfl);omega;omega)
    | (apply TO.mul64;(iterate 3 exact rfl);omega;omega)
    | (apply TO.convert_u8;exact rfl;kernel_rfl;kernel_rfl;exact rfl)
    | (apply TO.bin;(iterate 4 exact rfl))
    | (apply TO.zbb zaa;(iterate 6 exact rfl);omega;omega)
    | (apply TO.zaB zaa;(iterate 5 exact rfl);omega)
    | (apply TO.zaE zaa;(iterate 5 exact rfl);omega)
    | (apply TO.not;exact rfl;exact rfl)
    | (apply TO.zan;exact rfl;exact rfl)
    | (apply TO.zaH zaa;(iterate 4 exact rfl);exact leB)
    | (apply TO.zak zaa;(iterate 5 exact rfl);exact leB)
    | (apply TO.za9 zaa;(iterate 4 exact rfl))
    | (apply TO.za6 zaa;(iterate 7 exact rfl))
    | (apply TO.build zaa;(iterate 6 exact rfl))
    | refine zqp ?_
    | refine zqo ?_
    | refine zqe ?_
    | refine zqk ?_
    | refine zqb ?_
    | (apply TO.eqb;(iterate 3 exact rfl);kernel_rfl)
    | (apply TO.neb;(iterate 3 exact rfl);kernel_rfl)
    | (apply TO.zay (j:=0) zaa;(iterate 10 exact rfl))
    | (apply TO.makeFunc;exact rfl;exact rfl)
    | (apply TO.zah zaa;(iterate 5 exact rfl);decide;exact rfl)
    | (apply TO.zar zaa;(iterate 5 exact rfl))
    | (apply TO.zaq zaa;(iterate 4 exact rfl))
    | (apply TO.ne_nil_ptr zaa;(iterate 5 exact rfl))
    | (apply TO.ne_nil_nil zaa;(iterate 4 exact rfl))
    | refine zqj ?_
    | refine zql ?_
    | (apply TO.ssl_hi zaa;(iterate 8 exact rfl);omega))
   all_goals(refine RetK.keep 1 rfl (Le.of_eq (congrArg tokR (a₁:=(_,_,_)) (a₂:=zc3 _) ?_)) rfl rfl rfl rfl rfl ⟨rfl,?_⟩ <;> first|rfl|(simp_all [zc3];done)|(simp only[zc3];(repeat' split) <;> first|rfl|(exfalso;simp_all;done)|(exfalso;simp_all <;> omega)))
end Go.Proofs.YtpfnfpaahefdaaaGreat
