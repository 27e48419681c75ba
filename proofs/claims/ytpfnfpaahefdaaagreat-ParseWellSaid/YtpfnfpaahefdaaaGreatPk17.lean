import Derived.Test.YtpfnfpaahefdaaaGreatPk16
set_option linter.all false
namespace Go.Proofs.YtpfnfpaahefdaaaGreat
open Go Go.TL
attribute [local irreducible] TR TO Then zac RetK Sound zaf Kf GG zaY
theorem zc9(l:Str):skipped l=if zbh (behind blank l) [45,45]=true then skipped (behind (fun c=>c != 10) (behind blank l)) else behind blank l:=by
 rw[skipped];split <;> rfl
theorem zfY(l:Str):(skipped l).length≤l.length:=by
 induction hn:l.length using Nat.strongRecOn generalizing l with
 | _ n ih=>
   subst hn
   rw[zc9]
   have h1:=zdL blank l
   split
   ·rename_i h
    obtain⟨r,hr⟩:=zcz h
    have:=@zeb r
    rw[hr]at h1⊢
    have h2:=ih _ (by omega) (behind (fun c=>c != 10) (45::45::r)) rfl
    omega
   ·exact h1
theorem zdW(p:Int->Bool)(s:Str)(k:Nat):s.drop (k+(zaq p (s.drop k)).length)=behind p (s.drop k):=by
 rw[behind,qb0]
theorem zhh(p:Int->Bool)(s:Str)(k:Nat)(hk:k≤s.length):k+(zaq p (s.drop k)).length≤s.length:=by
 have:=zb3 p (s.drop k)
 rw[qaM]at this;omega
set_option maxHeartbeats 1000000 in
theorem zkX (s:Str) (hs:s.length≤1000000) (i:Nat) (hi:i≤s.length):
  Sound Tryz.prog 23 [.ref 0 0] (scanner s i) (fun r H'=>r= .ret (.tup [])/\H'=scanner s (s.length-(skipped (s.drop i)).length)):=by
 refine so Tryz.func23 ?_
 repeat' (first
  | (apply TO.move;exact rfl;exact rfl)
  | (apply TO.assign;exact rfl;exact rfl)
  | (apply TO.want;exact rfl)
  | refine zql ?_
  | refine zqc ?_
  | (apply TO.eqs;(iterate 3 exact rfl))
  | (apply TO.nes;(iterate 3 exact rfl))
  | (apply TO.cmp;(iterate 4 exact rfl))
  | (intro hc;exact absurd hc (by decide))
  | (intro hc;exfalso;simp only[decide_eq_true_eq,decide_eq_false_iff_not,beq_iff_eq,beq_eq_false_iff_ne,bne_iff_ne,bne_eq_false_iff_eq,ne_eq,qap,not_true_eq_false]at hc;done)
  | (intro hc;exfalso;(first|simp only[decide_eq_true_eq,decide_eq_false_iff_not,beq_iff_eq,beq_eq_false_iff_ne,bne_iff_ne,bne_eq_false_iff_eq,ne_eq,qap,not_true_eq_false]at hc|skip);first|omega|(simp only[qai,qac]at *;omega))
  | intro hc
  | (apply TO.pick;(iterate 3 exact rfl))
  | (apply TO.pass;exact rfl;exact rfl)
  | (apply TO.zcr;exact rfl)
  | (apply TO.load zaa;(iterate 5 exact rfl))
  | (apply TO.zaN zaa;(iterate 6 exact rfl))
  | (apply TO.fieldAddr zaa;(iterate 5 exact rfl);decide;exact rfl)
  | (apply TO.zam zaa;(iterate 5 exact rfl);decide;exact rfl)
  | (apply TO.nilCheck;(iterate 3 exact rfl))
  | (apply TO.zaE zaa;(iterate 5 exact rfl);assumption)
  | (apply TO.zax zaa;(iterate 5 exact rfl);decide;exact rfl)
  | (apply TO.za0 zaa;(iterate 4 exact rfl))
  | (apply TO.zbt zaa;(iterate 7 exact rfl))
  | refine zqg ?_
  | (apply TO.extract;(iterate 3 exact rfl))
  | refine TO.nil ?_
  | refine TR.seq ?_
  | refine TR.region ?_
  | (apply TR.zco;exact rfl)
  | (apply TR.zcn;exact rfl)
  | refine Then.normal ?_
  | refine TR.block ?_
  | refine TR.skip ?_
  | (apply TR.za1 hmix;kernel_rfl;exact rfl)
  | refine TR.exit ?_
  | refine TR.ret ?_
  | refine Then.exit ?_
  | refine Then.ret ?_
  | refine zaf.exit ?_
  | refine zaf.ret ?_
  | refine zac.normal ?_
  | refine zac.ret ?_
  | (apply zac.same;exact rfl)
  | (apply zac.other;exact rfl)
  | (apply TO.zaH;(iterate 3 exact rfl);omega;omega)
  | (apply TO.mul64;(iterate 3 exact rfl);omega;omega)
  | (apply TO.convert_u8;exact rfl;kernel_rfl;kernel_rfl;exact rfl)
  | (apply TO.bin;(iterate 4 exact rfl))
  | (apply TO.zbu zaa;(iterate 6 exact rfl);omega;omega)
  | (apply TO.zaL zaa;(iterate 5 exact rfl);omega)
  | (apply TO.zaO zaa;(iterate 5 exact rfl);omega)
  | (apply TO.not;exact rfl;exact rfl)
  | (apply TO.zau;exact rfl;exact rfl)
  | (apply TO.zaQ zaa;(iterate 4 exact rfl);exact leB)
  | (apply TO.zap zaa;(iterate 5 exact rfl);exact leB)
  | (apply TO.zbs zaa;(iterate 4 exact rfl))
  | (apply TO.zbr zaa;(iterate 7 exact rfl))
  | (apply TO.build zaa;(iterate 6 exact rfl))
  | refine zqn ?_
  | refine zqm ?_
  | refine zqe ?_
  | refine zqj ?_
  | refine zqb ?_
  | (apply TO.eqb;(iterate 3 exact rfl);kernel_rfl)
  | (apply TO.neb;(iterate 3 exact rfl);kernel_rfl)
  | (apply TO.zaC (j:=0) zaa;(iterate 10 exact rfl))
  | (apply TO.makeFunc;exact rfl;exact rfl)
  | (apply TO.zak zaa;(iterate 5 exact rfl);decide;exact rfl)
  | (apply TO.eq_nil_ptr zaa;(iterate 5 exact rfl))
  | (apply TO.eq_nil_nil zaa;(iterate 4 exact rfl))
  | (apply TO.ne_nil_ptr zaa;(iterate 5 exact rfl))
  | (apply TO.ne_nil_nil zaa;(iterate 4 exact rfl))
  | refine zqi ?_
  | refine zqk ?_
  | (apply TO.ssl_hi zaa;(iterate 8 exact rfl);omega))
 refine TR.za3 (ι:=Nat) (fun k=>k≤s.length/\skipped (s.drop k)=skipped (s.drop i)) (fun k=>s.length-k) (fun k=>[(0,.ref 0 0)]) (fun k=>scanner s k) i ⟨hi,rfl⟩ ⟨rfl,trivial⟩ rfl ?_
 rintro k ⟨h1,h3⟩
 obtain⟨a,ha⟩:∃a,a=zaq blank (s.drop k):=⟨_,rfl⟩
 have ha1:=zhh blank s k h1
 have ha2:=zdW blank s k
 rw[<-ha]at ha1 ha2
 obtain⟨b,hb⟩:∃b,b=zaq (fun c=>c != 10) (s.drop (k+a.length)):=⟨_,rfl⟩
 have hb1:=zhh (fun c=>c != 10) s (k+a.length) ha1
 have hb2:=zdW (fun c=>c != 10) s (k+a.length)
 rw[<-hb]at hb1 hb2
 have hS1:=zda 50 blank ziA s hs k h1
 rw[<-ha]at hS1
 have hS2:=zda 52 (fun c=>c != 10) zi7 s hs (k+a.length) ha1
 rw[<-hb]at hS2
 have he:=zc9 (s.drop k)
 repeat' (first
  | (apply TO.move;exact rfl;exact rfl)
  | (apply TO.assign;exact rfl;exact rfl)
  | (apply TO.want;exact rfl)
  | refine zql ?_
  | refine zqc ?_
  | (apply TO.eqs;(iterate 3 exact rfl))
  | (apply TO.nes;(iterate 3 exact rfl))
  | (apply TO.cmp;(iterate 4 exact rfl))
  | (intro hc;exact absurd hc (by decide))
  | (intro hc;exfalso;simp only[decide_eq_true_eq,decide_eq_false_iff_not,beq_iff_eq,beq_eq_false_iff_ne,bne_iff_ne,bne_eq_false_iff_eq,ne_eq,qap,not_true_eq_false]at hc;done)
  | (intro hc;exfalso;(first|simp only[decide_eq_true_eq,decide_eq_false_iff_not,beq_iff_eq,beq_eq_false_iff_ne,bne_iff_ne,bne_eq_false_iff_eq,ne_eq,qap,not_true_eq_false]at hc|skip);first|omega|(simp only[qai,qac]at *;omega))
  | intro hc
  | (apply TO.pick;(iterate 3 exact rfl))
  | (apply TO.pass;exact rfl;exact rfl)
  | (apply TO.zcr;exact rfl)
  | (apply TO.load zaa;(iterate 5 exact rfl))
  | (apply TO.zaN zaa;(iterate 6 exact rfl))
  | (apply TO.fieldAddr zaa;(iterate 5 exact rfl);decide;exact rfl)
  | (apply TO.zam zaa;(iterate 5 exact rfl);decide;exact rfl)
  | (apply TO.nilCheck;(iterate 3 exact rfl))
  | (apply TO.zaE zaa;(iterate 5 exact rfl);assumption)
  | (apply TO.zax zaa;(iterate 5 exact rfl);decide;exact rfl)
  | (apply TO.za0 zaa;(iterate 4 exact rfl))
  | (apply TO.zbt zaa;(iterate 7 exact rfl))
  | refine zqg ?_
  | (apply TO.extract;(iterate 3 exact rfl))
  | (apply TO.zdu [0] (v':=.s a) (H':=scanner s (k+a.length)) (hS1);(iterate 3 exact rfl);(first|exact⟨Le.refl _,trivial⟩|exact⟨Le.refl _,Le.refl _,trivial⟩|exact⟨Le.refl _,Le.refl _,Le.refl _,trivial⟩);exact rfl;exact Hands.one rfl rfl;exact rfl;exact rfl)
  | (apply TO.zdu [0] (v':=.s b) (H':=scanner s (k+a.length+b.length)) (hS2);(iterate 3 exact rfl);(first|exact⟨Le.refl _,trivial⟩|exact⟨Le.refl _,Le.refl _,trivial⟩|exact⟨Le.refl _,Le.refl _,Le.refl _,trivial⟩);exact rfl;exact Hands.one rfl rfl;exact rfl;exact rfl)
  | (apply TO.zdq (zdz _ _);(iterate 3 exact rfl);exact⟨.t _,.t _,trivial⟩)
  | refine TO.nil ?_
  | refine TR.seq ?_
  | refine TR.region ?_
  | (apply TR.zco;exact rfl)
  | (apply TR.zcn;exact rfl)
  | refine Then.normal ?_
  | refine TR.block ?_
  | refine TR.skip ?_
  | (apply TR.za1 hmix;kernel_rfl;exact rfl)
  | refine TR.exit ?_
  | refine TR.ret ?_
  | refine Then.exit ?_
  | refine Then.ret ?_
  | refine zaf.exit ?_
  | refine zaf.ret ?_
  | refine zac.normal ?_
  | refine zac.ret ?_
  | (apply zac.same;exact rfl)
  | (apply zac.other;exact rfl)
  | (apply TO.zaH;(iterate 3 exact rfl);omega;omega)
  | (apply TO.mul64;(iterate 3 exact rfl);omega;omega)
  | (apply TO.convert_u8;exact rfl;kernel_rfl;kernel_rfl;exact rfl)
  | (apply TO.bin;(iterate 4 exact rfl))
  | (apply TO.zbu zaa;(iterate 6 exact rfl);omega;omega)
  | (apply TO.zaL zaa;(iterate 5 exact rfl);omega)
  | (apply TO.zaO zaa;(iterate 5 exact rfl);omega)
  | (apply TO.not;exact rfl;exact rfl)
  | (apply TO.zau;exact rfl;exact rfl)
  | (apply TO.zaQ zaa;(iterate 4 exact rfl);exact leB)
  | (apply TO.zap zaa;(iterate 5 exact rfl);exact leB)
  | (apply TO.zbs zaa;(iterate 4 exact rfl))
  | (apply TO.zbr zaa;(iterate 7 exact rfl))
  | (apply TO.build zaa;(iterate 6 exact rfl))
  | refine zqn ?_
  | refine zqm ?_
  | refine zqe ?_
  | refine zqj ?_
  | refine zqb ?_
  | (apply TO.eqb;(iterate 3 exact rfl);kernel_rfl)
  | (apply TO.neb;(iterate 3 exact rfl);kernel_rfl)
  | (apply TO.zaC (j:=0) zaa;(iterate 10 exact rfl))
  | (apply TO.makeFunc;exact rfl;exact rfl)
  | (apply TO.zak zaa;(iterate 5 exact rfl);decide;exact rfl)
  | (apply TO.eq_nil_ptr zaa;(iterate 5 exact rfl))
  | (apply TO.eq_nil_nil zaa;(iterate 4 exact rfl))
  | (apply TO.ne_nil_ptr zaa;(iterate 5 exact rfl))
  | (apply TO.ne_nil_nil zaa;(iterate 4 exact rfl))
  | refine zqi ?_
  | refine zqk ?_
  | (apply TO.ssl_hi zaa;(iterate 8 exact rfl);omega))
 ·have hlt:0<b.length:=by
   rw[hb,ha2]
   rw[ha2]at hc
   obtain⟨r,hr⟩:=zcz hc
   rw[hr];simp[zaq]
  refine zaf.next (k+a.length+b.length) ⟨hb1,?_⟩ (by omega) ⟨rfl,trivial⟩ rfl
  rw[<-h3,he,hb2,<-ha2,if_pos hc]
 ·refine RetK.keep 1 rfl (Le.refl _) rfl rfl rfl rfl rfl ⟨rfl,?_⟩
  rw[<-ha2,if_neg (by simp[hc])]at he
  rw[<-h3,he,qaM,show s.length-(s.length-(k+a.length))=k+a.length from by omega];rfl
abbrev tokV (k:Int)(x:Str)(p:Int):SV:=.ag [.i k,.s x,.i p]
abbrev tokR (a:Int×Str×Int):SV:=.tup [tokV a.1 a.2.1 0,.i a.2.2]
def zcV(w:Str):Int×Str×Int:=if 40<(w.length:Int) then(0,[],3) else if keyword w then(3,w,0) else(1,w,0)
def zcO(w:Str):Int×Str×Int:=
 if decide (1<(w.length:Int)) && (match w with|c::_=>((c.toNat:Int) == 48)|[]=>false) then(0,[],5)
 else if decide (5<(w.length:Int)) || ((w.length:Int) == 5 && !(Op.bytesLess w [51,50,55,54,56] || w == [51,50,55,54,56])) then(0,[],14) else(2,w,0)
set_option maxHeartbeats 1000000 in
theorem zkE (s:Str) (hs:s.length≤1000000) (i:Nat) (hi:i≤s.length):
  Sound Tryz.prog 54 [.ref 0 0] (scanner s i) (fun r H'=>r= .ret (tokR (zcV (zaq inner (s.drop i))))/\H'=scanner s (i+(zaq inner (s.drop i)).length)):=by
 refine so Tryz.func54 ?_
 have hS1:=zda 76 inner zfL s hs i hi
 generalize zaq inner (s.drop i)=a at hS1⊢
 repeat' (first
  | (apply TO.move;exact rfl;exact rfl)
  | (apply TO.assign;exact rfl;exact rfl)
  | (apply TO.want;exact rfl)
  | refine zql ?_
  | refine zqc ?_
  | (apply TO.eqs;(iterate 3 exact rfl))
  | (apply TO.nes;(iterate 3 exact rfl))
  | (apply TO.cmp;(iterate 4 exact rfl))
  | (intro hc;exact absurd hc (by decide))
  | (intro hc;exfalso;simp only[decide_eq_true_eq,decide_eq_false_iff_not,beq_iff_eq,beq_eq_false_iff_ne,bne_iff_ne,bne_eq_false_iff_eq,ne_eq,qap,not_true_eq_false]at hc;done)
  | (intro hc;exfalso;(first|simp only[decide_eq_true_eq,decide_eq_false_iff_not,beq_iff_eq,beq_eq_false_iff_ne,bne_iff_ne,bne_eq_false_iff_eq,ne_eq,qap,not_true_eq_false]at hc|skip);first|omega|(simp only[qai,qac]at *;omega))
  | intro hc
  | (apply TO.pick;(iterate 3 exact rfl))
  | (apply TO.pass;exact rfl;exact rfl)
  | (apply TO.zcr;exact rfl)
  | (apply TO.load zaa;(iterate 5 exact rfl))
  | (apply TO.zaN zaa;(iterate 6 exact rfl))
  | (apply TO.fieldAddr zaa;(iterate 5 exact rfl);decide;exact rfl)
  | (apply TO.zam zaa;(iterate 5 exact rfl);decide;exact rfl)
  | (apply TO.nilCheck;(iterate 3 exact rfl))
  | (apply TO.zaE zaa;(iterate 5 exact rfl);assumption)
  | (apply TO.zax zaa;(iterate 5 exact rfl);decide;exact rfl)
  | (apply TO.za0 zaa;(iterate 4 exact rfl))
  | (apply TO.zbt zaa;(iterate 7 exact rfl))
  | refine zqg ?_
  | (apply TO.extract;(iterate 3 exact rfl))
  | (apply TO.zdu [0] (v':=.s a) (H':=[.cells [.s s,.i ((i+a.length:Nat):Int)],.cells [.i 0,.s [],.i 0]]) (hS1);(iterate 3 exact rfl);(first|exact⟨Le.refl _,trivial⟩|exact⟨Le.refl _,Le.refl _,trivial⟩|exact⟨Le.refl _,Le.refl _,Le.refl _,trivial⟩);exact rfl;exact Hands.one rfl rfl;exact rfl;exact rfl)
  | (apply TO.zdq (zbV _);(iterate 3 exact rfl);exact⟨.t _,trivial⟩)
  | refine TO.nil ?_
  | refine TR.seq ?_
  | refine TR.region ?_
  | (apply TR.zco;exact rfl)
  | (apply TR.zcn;exact rfl)
  | refine Then.normal ?_
  | refine TR.block ?_
  | refine TR.skip ?_
  | (apply TR.za1 hmix;kernel_rfl;exact rfl)
  | refine TR.exit ?_
  | refine TR.ret ?_
  | refine Then.exit ?_
  | refine Then.ret ?_
  | refine zaf.exit ?_
  | refine zaf.ret ?_
  | refine zac.normal ?_
  | refine zac.ret ?_
  | (apply zac.same;exact rfl)
  | (apply zac.other;exact rfl)
  | (apply TO.zaH;(iterate 3 exact rfl);omega;omega)
  | (apply TO.mul64;(iterate 3 exact rfl);omega;omega)
  | (apply TO.convert_u8;exact rfl;kernel_rfl;kernel_rfl;exact rfl)
  | (apply TO.bin;(iterate 4 exact rfl))
  | (apply TO.zbu zaa;(iterate 6 exact rfl);omega;omega)
  | (apply TO.zaL zaa;(iterate 5 exact rfl);omega)
  | (apply TO.zaO zaa;(iterate 5 exact rfl);omega)
  | (apply TO.not;exact rfl;exact rfl)
  | (apply TO.zau;exact rfl;exact rfl)
  | (apply TO.zaQ zaa;(iterate 4 exact rfl);exact leB)
  | (apply TO.zap zaa;(iterate 5 exact rfl);exact leB)
  | (apply TO.zbs zaa;(iterate 4 exact rfl))
  | (apply TO.zbr zaa;(iterate 7 exact rfl))
  | (apply TO.build zaa;(iterate 6 exact rfl))
  | refine zqn ?_
  | refine zqm ?_
  | refine zqe ?_
  | refine zqj ?_
  | refine zqb ?_
  | (apply TO.eqb;(iterate 3 exact rfl);kernel_rfl)
  | (apply TO.neb;(iterate 3 exact rfl);kernel_rfl)
  | (apply TO.zaC (j:=0) zaa;(iterate 10 exact rfl))
  | (apply TO.makeFunc;exact rfl;exact rfl)
  | (apply TO.zak zaa;(iterate 5 exact rfl);decide;exact rfl)
  | (apply TO.eq_nil_ptr zaa;(iterate 5 exact rfl))
  | (apply TO.eq_nil_nil zaa;(iterate 4 exact rfl))
  | (apply TO.ne_nil_ptr zaa;(iterate 5 exact rfl))
  | (apply TO.ne_nil_nil zaa;(iterate 4 exact rfl))
  | refine zqi ?_
  | refine zqk ?_
  | (apply TO.ssl_hi zaa;(iterate 8 exact rfl);omega))
 all_goals(refine RetK.keep 1 rfl (Le.of_eq (congrArg tokR (a₁:=(_,_,_)) (a₂:=zcV a) ?_)) rfl rfl rfl rfl rfl ⟨rfl,?_⟩ <;> first|rfl|(simp_all [zcV];done)|(simp only[zcV];(repeat' split) <;> first|rfl|(exfalso;simp_all;done)|(exfalso;simp_all <;> omega)))
set_option maxHeartbeats 1000000 in
theorem zh8 (s:Str) (hs:s.length≤1000000) (i:Nat) (hi:i≤s.length):
  Sound Tryz.prog 56 [.ref 0 0] (scanner s i) (fun r H'=>r= .ret (tokR (zcO (zaq digit (s.drop i))))/\H'=scanner s (i+(zaq digit (s.drop i)).length)):=by
 refine so Tryz.func56 ?_
 have hS1:=zda 55 digit zdX s hs i hi
 have hl:=zhh digit s i hi
 generalize zaq digit (s.drop i)=a at hS1 hl⊢
 cases a with
 | nil=>
   repeat' (first
    | (apply TO.move;exact rfl;exact rfl)
    | (apply TO.assign;exact rfl;exact rfl)
    | (apply TO.want;exact rfl)
    | refine zql ?_
    | refine zqc ?_
    | (apply TO.eqs;(iterate 3 exact rfl))
    | (apply TO.nes;(iterate 3 exact rfl))
    | (apply TO.cmp;(iterate 4 exact rfl))
    | (intro hc;exact absurd hc (by decide))
    | (intro hc;exfalso;simp only[decide_eq_true_eq,decide_eq_false_iff_not,beq_iff_eq,beq_eq_false_iff_ne,bne_iff_ne,bne_eq_false_iff_eq,ne_eq,qap,not_true_eq_false]at hc;done)
    | (intro hc;exfalso;(first|simp only[decide_eq_true_eq,decide_eq_false_iff_not,beq_iff_eq,beq_eq_false_iff_ne,bne_iff_ne,bne_eq_false_iff_eq,ne_eq,qap,not_true_eq_false]at hc|skip);first|omega|(simp only[qai,qac]at *;omega))
    | intro hc
    | (apply TO.pick;(iterate 3 exact rfl))
    | (apply TO.pass;exact rfl;exact rfl)
    | (apply TO.zcr;exact rfl)
    | (apply TO.load zaa;(iterate 5 exact rfl))
    | (apply TO.zaN zaa;(iterate 6 exact rfl))
    | (apply TO.fieldAddr zaa;(iterate 5 exact rfl);decide;exact rfl)
    | (apply TO.zam zaa;(iterate 5 exact rfl);decide;exact rfl)
    | (apply TO.nilCheck;(iterate 3 exact rfl))
    | (apply TO.zaE zaa;(iterate 5 exact rfl);assumption)
    | (apply TO.zax zaa;(iterate 5 exact rfl);decide;exact rfl)
    | (apply TO.za0 zaa;(iterate 4 exact rfl))
    | (apply TO.zbt zaa;(iterate 7 exact rfl))
    | refine zqg ?_
    | (apply TO.extract;(iterate 3 exact rfl))
    | (apply TO.zdu [0] (v':=.s []) (H':=[.cells [.s s,.i ((i+([]:Str).length:Nat):Int)],.cells [.i 0,.s [],.i 0]]) (hS1);(iterate 3 exact rfl);(first|exact⟨Le.refl _,trivial⟩|exact⟨Le.refl _,Le.refl _,trivial⟩|exact⟨Le.refl _,Le.refl _,Le.refl _,trivial⟩);exact rfl;exact Hands.one rfl rfl;exact rfl;exact rfl)
    | (apply TO.zdq (zbV _);(iterate 3 exact rfl);exact⟨.t _,trivial⟩)
    | refine TO.nil ?_
    | refine TR.seq ?_
    | refine TR.region ?_
    | (apply TR.zco;exact rfl)
    | (apply TR.zcn;exact rfl)
    | refine Then.normal ?_
    | refine TR.block ?_
    | refine TR.skip ?_
    | (apply TR.za1 hmix;kernel_rfl;exact rfl)
    | refine TR.exit ?_
    | refine TR.ret ?_
    | refine Then.exit ?_
    | refine Then.ret ?_
    | refine zaf.exit ?_
    | refine zaf.ret ?_
    | refine zac.normal ?_
    | refine zac.ret ?_
    | (apply zac.same;exact rfl)
    | (apply zac.other;exact rfl)
    | (apply TO.zaH;(iterate 3 exact rfl);omega;omega)
    | (apply TO.mul64;(iterate 3 exact rfl);omega;omega)
    | (apply TO.convert_u8;exact rfl;kernel_rfl;kernel_rfl;exact rfl)
    | (apply TO.bin;(iterate 4 exact rfl))
    | (apply TO.zbu zaa;(iterate 6 exact rfl);omega;omega)
    | (apply TO.zaL zaa;(iterate 5 exact rfl);omega)
    | (apply TO.zaO zaa;(iterate 5 exact rfl);omega)
    | (apply TO.not;exact rfl;exact rfl)
    | (apply TO.zau;exact rfl;exact rfl)
    | (apply TO.zaQ zaa;(iterate 4 exact rfl);exact leB)
    | (apply TO.zap zaa;(iterate 5 exact rfl);exact leB)
    | (apply TO.zbs zaa;(iterate 4 exact rfl))
    | (apply TO.zbr zaa;(iterate 7 exact rfl))
    | (apply TO.build zaa;(iterate 6 exact rfl))
    | refine zqn ?_
    | refine zqm ?_
    | refine zqe ?_
    | refine zqj ?_
    | refine zqb ?_
    | (apply TO.eqb;(iterate 3 exact rfl);kernel_rfl)
    | (apply TO.neb;(iterate 3 exact rfl);kernel_rfl)
    | (apply TO.zaC (j:=0) zaa;(iterate 10 exact rfl))
    | (apply TO.makeFunc;exact rfl;exact rfl)
    | (apply TO.zak zaa;(iterate 5 exact rfl);decide;exact rfl)
    | (apply TO.eq_nil_ptr zaa;(iterate 5 exact rfl))
    | (apply TO.eq_nil_nil zaa;(iterate 4 exact rfl))
    | (apply TO.ne_nil_ptr zaa;(iterate 5 exact rfl))
    | (apply TO.ne_nil_nil zaa;(iterate 4 exact rfl))
    | refine zqi ?_
    | refine zqk ?_
    | (apply TO.ssl_hi zaa;(iterate 8 exact rfl);omega))
   all_goals(refine RetK.keep 1 rfl (Le.of_eq (congrArg tokR (a₁:=(_,_,_)) (a₂:=zcO _) ?_)) rfl rfl rfl rfl rfl ⟨rfl,?_⟩ <;> first|rfl|(simp_all [zcO];done)|(simp only[zcO];(repeat' split) <;> first|rfl|(exfalso;simp_all;done)|(exfalso;simp_all <;> omega)))
 | cons c r=>
   repeat' (first
    | (apply TO.move;exact rfl;exact rfl)
    | (apply TO.assign;exact rfl;exact rfl)
    | (apply TO.want;exact rfl)
    | refine zql ?_
    | refine zqc ?_
    | (apply TO.eqs;(iterate 3 exact rfl))
    | (apply TO.nes;(iterate 3 exact rfl))
    | (apply TO.cmp;(iterate 4 exact rfl))
    | (intro hc;exact absurd hc (by decide))
    | (intro hc;exfalso;simp only[decide_eq_true_eq,decide_eq_false_iff_not,beq_iff_eq,beq_eq_false_iff_ne,bne_iff_ne,bne_eq_false_iff_eq,ne_eq,qap,not_true_eq_false]at hc;done)
    | (intro hc;exfalso;(first|simp only[decide_eq_true_eq,decide_eq_false_iff_not,beq_iff_eq,beq_eq_false_iff_ne,bne_iff_ne,bne_eq_false_iff_eq,ne_eq,qap,not_true_eq_false]at hc|skip);first|omega|(simp only[qai,qac]at *;omega))
    | intro hc
    | (apply TO.pick;(iterate 3 exact rfl))
    | (apply TO.pass;exact rfl;exact rfl)
    | (apply TO.zcr;exact rfl)
    | (apply TO.load zaa;(iterate 5 exact rfl))
    | (apply TO.zaN zaa;(iterate 6 exact rfl))
    | (apply TO.fieldAddr zaa;(iterate 5 exact rfl);decide;exact rfl)
    | (apply TO.zam zaa;(iterate 5 exact rfl);decide;exact rfl)
    | (apply TO.nilCheck;(iterate 3 exact rfl))
    | (apply TO.zaE zaa;(iterate 5 exact rfl);assumption)
    | (apply TO.zax zaa;(iterate 5 exact rfl);decide;exact rfl)
    | (apply TO.za0 zaa;(iterate 4 exact rfl))
    | (apply TO.zbt zaa;(iterate 7 exact rfl))
    | refine zqg ?_
    | (apply TO.extract;(iterate 3 exact rfl))
    | (apply TO.zdu [0] (v':=.s (c::r)) (H':=[.cells [.s s,.i ((i+(c::r).length:Nat):Int)],.cells [.i 0,.s [],.i 0]]) (hS1);(iterate 3 exact rfl);(first|exact⟨Le.refl _,trivial⟩|exact⟨Le.refl _,Le.refl _,trivial⟩|exact⟨Le.refl _,Le.refl _,Le.refl _,trivial⟩);exact rfl;exact Hands.one rfl rfl;exact rfl;exact rfl)
    | (apply TO.zdq (zbV _);(iterate 3 exact rfl);exact⟨.t _,trivial⟩)
    | refine TO.nil ?_
    | refine TR.seq ?_
    | refine TR.region ?_
    | (apply TR.zco;exact rfl)
    | (apply TR.zcn;exact rfl)
    | refine Then.normal ?_
    | refine TR.block ?_
    | refine TR.skip ?_
    | (apply TR.za1 hmix;kernel_rfl;exact rfl)
    | refine TR.exit ?_
    | refine TR.ret ?_
    | refine Then.exit ?_
    | refine Then.ret ?_
    | refine zaf.exit ?_
    | refine zaf.ret ?_
    | refine zac.normal ?_
    | refine zac.ret ?_
    | (apply zac.same;exact rfl)
    | (apply zac.other;exact rfl)
    | (apply TO.zaH;(iterate 3 exact rfl);omega;omega)
    | (apply TO.mul64;(iterate 3 exact rfl);omega;omega)
    | (apply TO.convert_u8;exact rfl;kernel_rfl;kernel_rfl;exact rfl)
    | (apply TO.bin;(iterate 4 exact rfl))
    | (apply TO.zbu zaa;(iterate 6 exact rfl);omega;omega)
    | (apply TO.zaL zaa;(iterate 5 exact rfl);omega)
    | (apply TO.zaO zaa;(iterate 5 exact rfl);omega)
    | (apply TO.not;exact rfl;exact rfl)
    | (apply TO.zau;exact rfl;exact rfl)
    | (apply TO.zaQ zaa;(iterate 4 exact rfl);exact leB)
    | (apply TO.zap zaa;(iterate 5 exact rfl);exact leB)
    | (apply TO.zbs zaa;(iterate 4 exact rfl))
    | (apply TO.zbr zaa;(iterate 7 exact rfl))
    | (apply TO.build zaa;(iterate 6 exact rfl))
    | refine zqn ?_
    | refine zqm ?_
    | refine zqe ?_
    | refine zqj ?_
    | refine zqb ?_
    | (apply TO.eqb;(iterate 3 exact rfl);kernel_rfl)
    | (apply TO.neb;(iterate 3 exact rfl);kernel_rfl)
    | (apply TO.zaC (j:=0) zaa;(iterate 10 exact rfl))
    | (apply TO.makeFunc;exact rfl;exact rfl)
    | (apply TO.zak zaa;(iterate 5 exact rfl);decide;exact rfl)
    | (apply TO.eq_nil_ptr zaa;(iterate 5 exact rfl))
    | (apply TO.eq_nil_nil zaa;(iterate 4 exact rfl))
    | (apply TO.ne_nil_ptr zaa;(iterate 5 exact rfl))
    | (apply TO.ne_nil_nil zaa;(iterate 4 exact rfl))
    | refine zqi ?_
    | refine zqk ?_
    | (apply TO.ssl_hi zaa;(iterate 8 exact rfl);omega))
   all_goals(refine RetK.keep 1 rfl (Le.of_eq (congrArg tokR (a₁:=(_,_,_)) (a₂:=zcO _) ?_)) rfl rfl rfl rfl rfl ⟨rfl,?_⟩ <;> first|rfl|(simp_all [zcO];done)|(simp only[zcO];(repeat' split) <;> first|rfl|(exfalso;simp_all;done)|(exfalso;simp_all <;> omega)))
end Go.Proofs.YtpfnfpaahefdaaaGreat
