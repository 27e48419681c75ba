import Derived.Test.YtpfnfpaahefdaaaGreatPk18
set_option linter.all false
namespace Go.Proofs.YtpfnfpaahefdaaaGreat
open Go Go.TL
attribute [local irreducible] TR TO Then zac RetK Sound zaf Kf GG zaY
def zcX:List Str:=[[40],[41],[58],[59],[44],[61],[124],[45,62],[60,62],[60,61],[62,61],[60],[62],[43],[45],[42],[47]]
def zah(l:Str):(Int×Str×Int)×Nat:=
 match l with
 | []=>((0,[],5),0)
 | c::r=>
   if letter c.toNat then(zcV (zaq inner l),(zaq inner l).length)
   else if digit c.toNat then(zcO (zaq digit l),(zaq digit l).length)
   else if(c.toNat:Int) == 39 then(zcF (zaq zav r) (behind zav r),zcE (zaq zav r) (behind zav r))
   else(zeX (best l zcX),(best l zcX).length)
set_option maxHeartbeats 1000000 in
theorem zjf (s:Str) (hs:s.length≤1000000) (i:Nat) (hi:i<s.length):
  Sound Tryz.prog 24 [.ref 0 0] (scanner s i) (fun r H'=>r= .ret (tokR (zah (s.drop i)).1)/\H'=scanner s (i+(zah (s.drop i)).2)):=by
 refine so Tryz.func24 ?_
 have hx:=qab hi
 have hd:s.drop i=s[i]::s.drop (i+1):=qaF hi
 have h1:=zkE s hs i (qbX hi)
 have h2:=zh8 s hs i (qbX hi)
 have h3:=zk2 s hs i hi
 have h4:=zim zcX (by decide) s hs i (qbX hi)
 have e1:letter s[i].toNat=true->zah (s.drop i)=(zcV (zaq inner (s.drop i)),(zaq inner (s.drop i)).length):=fun g=>by rw[hd];simp only[zah,g,if_true]
 have e2:letter s[i].toNat=false->digit s[i].toNat=true->zah (s.drop i)=(zcO (zaq digit (s.drop i)),(zaq digit (s.drop i)).length):=fun g g2=>by rw[hd];simp only[zah,g,g2,if_true];rfl
 have e3:letter s[i].toNat=false->digit s[i].toNat=false->((s[i].toNat:Int) == 39)=true->zah (s.drop i)=(zcF (zaq zav (s.drop (i+1))) (behind zav (s.drop (i+1))),zcE (zaq zav (s.drop (i+1))) (behind zav (s.drop (i+1)))):=fun g g2 g3=>by rw[hd];simp only[zah,g,g2,g3,if_true];rfl
 have e4:letter s[i].toNat=false->digit s[i].toNat=false->((s[i].toNat:Int) == 39)=false->zah (s.drop i)=(zeX (best (s.drop i) zcX),(best (s.drop i) zcX).length):=fun g g2 g3=>by rw[hd];simp only[zah,g,g2,g3,if_true];rfl
 generalize zah (s.drop i)=tk at e1 e2 e3 e4⊢
 generalize zcV (zaq inner (s.drop i))=t1 at h1 e1
 generalize (zaq inner (s.drop i)).length=n1 at h1 e1
 generalize zcO (zaq digit (s.drop i))=t2 at h2 e2
 generalize (zaq digit (s.drop i)).length=n2 at h2 e2
 generalize zcF (zaq zav (s.drop (i+1))) (behind zav (s.drop (i+1)))=t3 at h3 e3
 generalize zcE (zaq zav (s.drop (i+1))) (behind zav (s.drop (i+1)))=n3 at h3 e3
 generalize zeX (best (s.drop i) zcX)=t4 at h4 e4
 generalize (best (s.drop i) zcX).length=n4 at h4 e4
 clear hd
 generalize s[i]=c at hx e1 e2 e3 e4
 repeat' (first
  | (apply TO.move;exact rfl;exact rfl)
  | (apply TO.assign;exact rfl;exact rfl)
  | (apply TO.want;exact rfl)
  | refine zql ?_
  | refine zqc ?_
  | (apply TO.eqs;(iterate 3 exact rfl))
  | (apply TO.nes;(iterate 3 exact rfl))
  | (apply TO.cmp;(iterate 4 exact rfl))
  | (intro hc;exact absurd hc (by decide))
  | (intro hc;exfalso;simp only[decide_eq_true_eq,decide_eq_false_iff_not,beq_iff_eq,beq_eq_false_iff_ne,bne_iff_ne,bne_eq_false_iff_eq,ne_eq,qap,not_true_eq_false]at hc;done)
  | (intro hc;exfalso;(first|simp only[decide_eq_true_eq,decide_eq_false_iff_not,beq_iff_eq,beq_eq_false_iff_ne,bne_iff_ne,bne_eq_false_iff_eq,ne_eq,qap,not_true_eq_false]at hc|skip);first|omega|(simp only[qai,qac]at *;omega))
  | intro hc
  | (apply TO.pick;(iterate 3 exact rfl))
  | (apply TO.pass;exact rfl;exact rfl)
  | (apply TO.zcr;exact rfl)
  | (apply TO.load zaa;(iterate 5 exact rfl))
  | (apply TO.zaN zaa;(iterate 6 exact rfl))
  | (apply TO.fieldAddr zaa;(iterate 5 exact rfl);decide;exact rfl)
  | (apply TO.zam zaa;(iterate 5 exact rfl);decide;exact rfl)
  | (apply TO.nilCheck;(iterate 3 exact rfl))
  | (apply TO.zaE zaa;(iterate 5 exact rfl);assumption)
  | (apply TO.zax zaa;(iterate 5 exact rfl);decide;exact rfl)
  | (apply TO.za0 zaa;(iterate 4 exact rfl))
  | (apply TO.zbt zaa;(iterate 7 exact rfl))
  | refine zqg ?_
  | (apply TO.extract;(iterate 3 exact rfl))
  | (apply TO.zdq (zcM _);(iterate 3 exact rfl);exact⟨.t _,trivial⟩)
  | (apply TO.zdq (zdX _);(iterate 3 exact rfl);exact⟨.t _,trivial⟩)
  | (apply TO.zdu [0] (v':=tokR t1) (H':=[.cells [.s s,.i ((i+n1:Nat):Int)],.cells [.i 0,.s [],.i 0]]) (h1);(iterate 3 exact rfl);(first|exact⟨Le.refl _,trivial⟩|exact⟨Le.refl _,Le.refl _,trivial⟩|exact⟨Le.refl _,Le.refl _,Le.refl _,trivial⟩);exact rfl;exact Hands.one rfl rfl;exact rfl;exact rfl)
  | (apply TO.zdu [0] (v':=tokR t2) (H':=[.cells [.s s,.i ((i+n2:Nat):Int)],.cells [.i 0,.s [],.i 0]]) (h2);(iterate 3 exact rfl);(first|exact⟨Le.refl _,trivial⟩|exact⟨Le.refl _,Le.refl _,trivial⟩|exact⟨Le.refl _,Le.refl _,Le.refl _,trivial⟩);exact rfl;exact Hands.one rfl rfl;exact rfl;exact rfl)
  | (apply TO.zdu [0] (v':=tokR t3) (H':=[.cells [.s s,.i ((i+n3:Nat):Int)],.cells [.i 0,.s [],.i 0]]) (h3);(iterate 3 exact rfl);(first|exact⟨Le.refl _,trivial⟩|exact⟨Le.refl _,Le.refl _,trivial⟩|exact⟨Le.refl _,Le.refl _,Le.refl _,trivial⟩);exact rfl;exact Hands.one rfl rfl;exact rfl;exact rfl)
  | (apply TO.zdu [0] (v':=tokR t4) (H':=[.cells [.s s,.i ((i+n4:Nat):Int)],.cells [.i 0,.s [],.i 0]]) (h4);(iterate 3 exact rfl);(first|exact⟨Le.refl _,trivial⟩|exact⟨Le.refl _,Le.refl _,trivial⟩|exact⟨Le.refl _,Le.refl _,Le.refl _,trivial⟩);exact rfl;exact Hands.one rfl rfl;exact rfl;exact rfl)
  | refine TO.nil ?_
  | refine TR.seq ?_
  | refine TR.region ?_
  | (apply TR.zco;exact rfl)
  | (apply TR.zcn;exact rfl)
  | refine Then.normal ?_
  | refine TR.block ?_
  | refine TR.skip ?_
  | (apply TR.za1 hmix;kernel_rfl;exact rfl)
  | refine TR.exit ?_
  | refine TR.ret ?_
  | refine Then.exit ?_
  | refine Then.ret ?_
  | refine zaf.exit ?_
  | refine zaf.ret ?_
  | refine zac.normal ?_
  | refine zac.ret ?_
  | (apply zac.same;exact rfl)
  | (apply zac.other;exact rfl)
  | (apply TO.zaH;(iterate 3 exact rfl);omega;omega)
  | (apply TO.mul64;(iterate 3 exact rfl);omega;omega)
  | (apply TO.convert_u8;exact rfl;kernel_rfl;kernel_rfl;exact rfl)
  | (apply TO.bin;(iterate 4 exact rfl))
  | (apply TO.zbu zaa;(iterate 6 exact rfl);omega;omega)
  | (apply TO.zaL zaa;(iterate 5 exact rfl);omega)
  | (apply TO.zaO zaa;(iterate 5 exact rfl);omega)
  | (apply TO.not;exact rfl;exact rfl)
  | (apply TO.zau;exact rfl;exact rfl)
  | (apply TO.zaQ zaa;(iterate 4 exact rfl);exact leB)
  | (apply TO.zap zaa;(iterate 5 exact rfl);exact leB)
  | (apply TO.zbs zaa;(iterate 4 exact rfl))
  | (apply TO.zbr zaa;(iterate 7 exact rfl))
  | (apply TO.build zaa;(iterate 6 exact rfl))
  | refine zqn ?_
  | refine zqm ?_
  | refine zqe ?_
  | refine zqj ?_
  | refine zqb ?_
  | (apply TO.eqb;(iterate 3 exact rfl);kernel_rfl)
  | (apply TO.neb;(iterate 3 exact rfl);kernel_rfl)
  | (apply TO.zaC (j:=0) zaa;(iterate 10 exact rfl))
  | (apply TO.makeFunc;exact rfl;exact rfl)
  | (apply TO.zak zaa;(iterate 5 exact rfl);decide;exact rfl)
  | (apply TO.eq_nil_ptr zaa;(iterate 5 exact rfl))
  | (apply TO.eq_nil_nil zaa;(iterate 4 exact rfl))
  | (apply TO.ne_nil_ptr zaa;(iterate 5 exact rfl))
  | (apply TO.ne_nil_nil zaa;(iterate 4 exact rfl))
  | refine zqi ?_
  | refine zqk ?_
  | (apply TO.ssl_hi zaa;(iterate 8 exact rfl);omega))
 ·rw[e1 hc];exact RetK.keep 1 rfl (Le.refl _) rfl rfl rfl rfl rfl ⟨rfl,rfl⟩
 ·rw[e2 (by assumption) hc];exact RetK.keep 1 rfl (Le.refl _) rfl rfl rfl rfl rfl ⟨rfl,rfl⟩
 ·rw[e3 (by assumption) (by assumption) hc];exact RetK.keep 1 rfl (Le.refl _) rfl rfl rfl rfl rfl ⟨rfl,rfl⟩
 ·rw[e4 (by assumption) (by assumption) hc];exact RetK.keep 1 rfl (Le.refl _) rfl rfl rfl rfl rfl ⟨rfl,rfl⟩
abbrev Tok:=Int×Str×Int
abbrev tokT (t:Tok):T:=.ag [.i t.1,.s t.2.1,.i t.2.2]
def zct:Nat->Str->Nat->List Tok->List Tok×Int×Int
 | 0,_,_,_=>([],0,0)
 | n+1,s,i,out=>
   if s.length-(skipped (s.drop i)).length=s.length then(out,0,0)
   else if((zah (s.drop (s.length-(skipped (s.drop i)).length))).1.2.2 != 0)=true then([],((s.length-(skipped (s.drop i)).length:Nat):Int),(zah (s.drop (s.length-(skipped (s.drop i)).length))).1.2.2)
   else zct n s (s.length-(skipped (s.drop i)).length+(zah (s.drop (s.length-(skipped (s.drop i)).length))).2)
    (out++[((zah (s.drop (s.length-(skipped (s.drop i)).length))).1.1,(zah (s.drop (s.length-(skipped (s.drop i)).length))).1.2.1,((s.length-(skipped (s.drop i)).length:Nat):Int))])
def scan(s:Str):List Tok×Int×Int:=if 65536<s.length then([],0,3) else zct (s.length+1) s 0 []
abbrev zpU (a:List Tok×Int×Int):SV:=.tup [.t (.sl 3 (a.1.map tokT)),.i a.2.1,.i a.2.2]
theorem zf7{l:Str}(hl:l≠ [])(h:((zah l).1.2.2 != 0)=false):0<(zah l).2/\(zah l).2≤l.length:=by
 match l,hl with
 | c::r,_=>
   have g1:=zb3 inner (c::r)
   have g2:=zb3 digit (c::r)
   have g3:=zb3 zav r
   have g4:=zlf (c::r) zcX [] (qaT _)
   have g5:best (c::r) zcX=zcX.foldl (zec (c::r)) []:=rfl
   rw[<-g5]at g4
   clear g5
   revert h
   unfold zah
   simp only
   generalize best (c::r) zcX=b at g4⊢
   split
   ·rename_i h1
    intro _
    refine⟨?_,g1⟩
    have:inner c.toNat=true:=by simp[inner,h1]
    simp[zaq,this]
   ·split
    ·rename_i h1
     intro _
     refine⟨?_,g2⟩
     simp[zaq,h1]
    ·split
     ·intro h
      have hq:zdT 39 (behind zav r)=true:=by
       cases hq:zdT 39 (behind zav r) with
       | true=>rfl
       | false=>simp[zcF,hq]at h
      have hb:(behind zav r)≠ []:=fun e=>by rw[e]at hq;cases hq
      have hl:=qbA.2 hb
      simp only[behind,qaM]at hl
      simp only[zcE,hq,if_true,qac]
      omega
     ·intro h
      refine⟨?_,g4⟩
      simp only[zeX]at h
      split at h
      ·simp at h
      ·rename_i hb
       exact qbA.2 (fun e=>hb (by rw[e];rfl))
set_option maxHeartbeats 2000000 in
theorem zgI (s:Str):Pure Tryz.prog 9 [.s s] (zpU (scan s)):=by
 refine so Tryz.func9 ?_
 repeat' (first
  | (apply TO.move;exact rfl;exact rfl)
  | (apply TO.assign;exact rfl;exact rfl)
  | (apply TO.want;exact rfl)
  | refine zql ?_
  | refine zqc ?_
  | (apply TO.eqs;(iterate 3 exact rfl))
  | (apply TO.nes;(iterate 3 exact rfl))
  | (apply TO.cmp;(iterate 4 exact rfl))
  | (intro hc;exact absurd hc (by decide))
  | (intro hc;exfalso;simp only[decide_eq_true_eq,decide_eq_false_iff_not,beq_iff_eq,beq_eq_false_iff_ne,bne_iff_ne,bne_eq_false_iff_eq,ne_eq,qap,not_true_eq_false]at hc;done)
  | (intro hc;exfalso;(first|simp only[decide_eq_true_eq,decide_eq_false_iff_not,beq_iff_eq,beq_eq_false_iff_ne,bne_iff_ne,bne_eq_false_iff_eq,ne_eq,qap,not_true_eq_false]at hc|skip);first|omega|(simp only[qai,qac]at *;omega))
  | intro hc
  | (apply TO.pick;(iterate 3 exact rfl))
  | (apply TO.pass;exact rfl;exact rfl)
  | (apply TO.zcr;exact rfl)
  | (apply TO.load zaa;(iterate 5 exact rfl))
  | (apply TO.zaN zaa;(iterate 6 exact rfl))
  | (apply TO.fieldAddr zaa;(iterate 5 exact rfl);decide;exact rfl)
  | (apply TO.zam zaa;(iterate 5 exact rfl);decide;exact rfl)
  | (apply TO.nilCheck;(iterate 3 exact rfl))
  | (apply TO.zaE zaa;(iterate 5 exact rfl);assumption)
  | (apply TO.zax zaa;(iterate 5 exact rfl);decide;exact rfl)
  | (apply TO.za0 zaa;(iterate 4 exact rfl))
  | (apply TO.zbt zaa;(iterate 7 exact rfl))
  | refine zqg ?_
  | (apply TO.extract;(iterate 3 exact rfl))
  | refine TO.nil ?_
  | refine TR.seq ?_
  | refine TR.region ?_
  | (apply TR.zco;exact rfl)
  | (apply TR.zcn;exact rfl)
  | refine Then.normal ?_
  | refine TR.block ?_
  | refine TR.skip ?_
  | (apply TR.za1 hmix;kernel_rfl;exact rfl)
  | refine TR.exit ?_
  | refine TR.ret ?_
  | refine Then.exit ?_
  | refine Then.ret ?_
  | refine zaf.exit ?_
  | refine zaf.ret ?_
  | refine zac.normal ?_
  | refine zac.ret ?_
  | (apply zac.same;exact rfl)
  | (apply zac.other;exact rfl)
  | (apply TO.zaH;(iterate 3 exact rfl);omega;omega)
  | (apply TO.mul64;(iterate 3 exact rfl);omega;omega)
  | (apply TO.convert_u8;exact rfl;kernel_rfl;kernel_rfl;exact rfl)
  | (apply TO.bin;(iterate 4 exact rfl))
  | (apply TO.zbu zaa;(iterate 6 exact rfl);omega;omega)
  | (apply TO.zaL zaa;(iterate 5 exact rfl);omega)
  | (apply TO.zaO zaa;(iterate 5 exact rfl);omega)
  | (apply TO.not;exact rfl;exact rfl)
  | (apply TO.zau;exact rfl;exact rfl)
  | (apply TO.zaQ zaa;(iterate 4 exact rfl);exact leB)
  | (apply TO.zap zaa;(iterate 5 exact rfl);exact leB)
  | (apply TO.zbs zaa;(iterate 4 exact rfl))
  | (apply TO.zbr zaa;(iterate 7 exact rfl))
  | (apply TO.build zaa;(iterate 6 exact rfl))
  | refine zqn ?_
  | refine zqm ?_
  | refine zqe ?_
  | refine zqj ?_
  | refine zqb ?_
  | (apply TO.eqb;(iterate 3 exact rfl);kernel_rfl)
  | (apply TO.neb;(iterate 3 exact rfl);kernel_rfl)
  | (apply TO.zaC (j:=0) zaa;(iterate 10 exact rfl))
  | (apply TO.makeFunc;exact rfl;exact rfl)
  | (apply TO.zak zaa;(iterate 5 exact rfl);decide;exact rfl)
  | (apply TO.eq_nil_ptr zaa;(iterate 5 exact rfl))
  | (apply TO.eq_nil_nil zaa;(iterate 4 exact rfl))
  | (apply TO.ne_nil_ptr zaa;(iterate 5 exact rfl))
  | (apply TO.ne_nil_nil zaa;(iterate 4 exact rfl))
  | refine zqi ?_
  | refine zqk ?_
  | (apply TO.ssl_hi zaa;(iterate 8 exact rfl);omega))
 ·refine RetK.pure rfl ?_ rfl
  have:scan s=([],0,3):=if_pos (by simp at hc;omega)
  rw[this]
  exact Le.tup ⟨Le.nil 3,Le.refl _,Le.refl _,trivial⟩
 ·refine TR.tail 3 6 rfl ?_
  have hlen:s.length≤65536:=by simp at hc;omega
  have hsc:scan s=zct (s.length+1) s 0 []:=if_neg (by omega)
  refine TR.za3 (ι:=Nat×Nat×List Tok) (fun x=>x.2.1≤s.length/\s.length-x.2.1<x.1/\x.2.2.length≤x.2.1/\zct x.1 s x.2.1 x.2.2=scan s) (fun x=>x.1)
   (fun x=>[(0,.s s),(5,.ref 0 0),(6,.sl 3 (x.2.2.map tokT) 1)]) (fun x=>[.cells [.s s,.i x.2.1],.tail (x.2.2.map tokT).length]) (s.length+1,0,[]) ⟨qaT _,by simp,qae _,hsc.symm⟩ ⟨rfl,rfl,rfl,trivial⟩ rfl ?_
  clear hc hsc
  rintro⟨n,i,out⟩ ⟨hi,hn,ho,he⟩
  simp only at hi hn ho he⊢
  obtain⟨n,rfl⟩:∃m,n=m+1:=⟨n-1,by omega⟩
  rw[zct]at he
  have hS:=zkX s (by omega) i hi
  have hj1:=zfY (s.drop i)
  rw[qaM]at hj1
  obtain⟨j,hj⟩:∃j,j=s.length-(skipped (s.drop i)).length:=⟨_,rfl⟩
  rw[<-hj]at he hS
  have hj2:i≤j:=by omega
  have hj3:j≤s.length:=by omega
  clear hj hj1
  have hml:(out.map tokT).length=out.length:=qad _
  by_cases hlt:j<s.length
  ·have hT:=zjf s (by omega) j hlt
   have hL:=zf7 (l:=s.drop j) (by simp;omega)
   rw[if_neg (by omega)]at he
   rw[qaM]at hL
   generalize zah (s.drop j)=tk at hT hL he
   obtain⟨⟨ka,xa,ea⟩,na⟩:=tk
   simp only at hT hL he
   repeat' (first
    | (apply TO.move;exact rfl;exact rfl)
    | (apply TO.assign;exact rfl;exact rfl)
    | (apply TO.want;exact rfl)
    | refine zql ?_
    | refine zqc ?_
    | (apply TO.eqs;(iterate 3 exact rfl))
    | (apply TO.nes;(iterate 3 exact rfl))
    | (apply TO.cmp;(iterate 4 exact rfl))
    | (intro hc;exact absurd hc (by decide))
    | (intro hc;exfalso;simp only[decide_eq_true_eq,decide_eq_false_iff_not,beq_iff_eq,beq_eq_false_iff_ne,bne_iff_ne,bne_eq_false_iff_eq,ne_eq,qap,not_true_eq_false]at hc;done)
    | (intro hc;exfalso;(first|simp only[decide_eq_true_eq,decide_eq_false_iff_not,beq_iff_eq,beq_eq_false_iff_ne,bne_iff_ne,bne_eq_false_iff_eq,ne_eq,qap,not_true_eq_false]at hc|skip);first|omega|(simp only[qai,qac]at *;omega))
    | intro hc
    | (apply TO.pick;(iterate 3 exact rfl))
    | (apply TO.pass;exact rfl;exact rfl)
    | (apply TO.zcr;exact rfl)
    | (apply TO.load zaa;(iterate 5 exact rfl))
    | (apply TO.zaN zaa;(iterate 6 exact rfl))
    | (apply TO.fieldAddr zaa;(iterate 5 exact rfl);decide;exact rfl)
    | (apply TO.zam zaa;(iterate 5 exact rfl);decide;exact rfl)
    | (apply TO.nilCheck;(iterate 3 exact rfl))
    | (apply TO.zaE zaa;(iterate 5 exact rfl);assumption)
    | (apply TO.zax zaa;(iterate 5 exact rfl);decide;exact rfl)
    | (apply TO.za0 zaa;(iterate 4 exact rfl))
    | (apply TO.zbt zaa;(iterate 7 exact rfl))
    | refine zqg ?_
    | (apply TO.extract;(iterate 3 exact rfl))
    | (apply TO.zdu [0] (v':=.tup []) (H':=[.cells [.s s,.i (j:Int)],.tail (out.map tokT).length]) (hS);(iterate 3 exact rfl);(first|exact⟨Le.refl _,trivial⟩|exact⟨Le.refl _,Le.refl _,trivial⟩|exact⟨Le.refl _,Le.refl _,Le.refl _,trivial⟩);exact rfl;exact Hands.one rfl rfl;exact rfl;exact rfl)
    | (apply TO.zdu [0] (v':=tokR (ka,xa,ea)) (H':=[.cells [.s s,.i ((j+na:Nat):Int)],.tail (out.map tokT).length]) (hT);(iterate 3 exact rfl);(first|exact⟨Le.refl _,trivial⟩|exact⟨Le.refl _,Le.refl _,trivial⟩|exact⟨Le.refl _,Le.refl _,Le.refl _,trivial⟩);exact rfl;exact Hands.one rfl rfl;exact rfl;exact rfl)
    | refine TO.nil ?_
    | refine TR.seq ?_
    | refine TR.region ?_
    | (apply TR.zco;exact rfl)
    | (apply TR.zcn;exact rfl)
    | refine Then.normal ?_
    | refine TR.block ?_
    | refine TR.skip ?_
    | (apply TR.za1 hmix;kernel_rfl;exact rfl)
    | refine TR.exit ?_
    | refine TR.ret ?_
    | refine Then.exit ?_
    | refine Then.ret ?_
    | refine zaf.exit ?_
    | refine zaf.ret ?_
    | refine zac.normal ?_
    | refine zac.ret ?_
    | (apply zac.same;exact rfl)
    | (apply zac.other;exact rfl)
    | (apply TO.zaH;(iterate 3 exact rfl);omega;omega)
    | (apply TO.mul64;(iterate 3 exact rfl);omega;omega)
    | (apply TO.convert_u8;exact rfl;kernel_rfl;kernel_rfl;exact rfl)
    | (apply TO.bin;(iterate 4 exact rfl))
    | (apply TO.zbu zaa;(iterate 6 exact rfl);omega;omega)
    | (apply TO.zaL zaa;(iterate 5 exact rfl);omega)
    | (apply TO.zaO zaa;(iterate 5 exact rfl);omega)
    | (apply TO.not;exact rfl;exact rfl)
    | (apply TO.zau;exact rfl;exact rfl)
    | (apply TO.zaQ zaa;(iterate 4 exact rfl);exact leB)
    | (apply TO.zap zaa;(iterate 5 exact rfl);exact leB)
    | (apply TO.zbs zaa;(iterate 4 exact rfl))
    | (apply TO.zbr zaa;(iterate 7 exact rfl))
    | (apply TO.build zaa;(iterate 6 exact rfl))
    | refine zqn ?_
    | refine zqm ?_
    | refine zqe ?_
    | refine zqj ?_
    | refine zqb ?_
    | (apply TO.eqb;(iterate 3 exact rfl);kernel_rfl)
    | (apply TO.neb;(iterate 3 exact rfl);kernel_rfl)
    | (apply TO.zaC (j:=0) zaa;(iterate 10 exact rfl))
    | (apply TO.makeFunc;exact rfl;exact rfl)
    | (apply TO.zak zaa;(iterate 5 exact rfl);decide;exact rfl)
    | (apply TO.eq_nil_ptr zaa;(iterate 5 exact rfl))
    | (apply TO.eq_nil_nil zaa;(iterate 4 exact rfl))
    | (apply TO.ne_nil_ptr zaa;(iterate 5 exact rfl))
    | (apply TO.ne_nil_nil zaa;(iterate 4 exact rfl))
    | refine zqi ?_
    | refine zqk ?_
    | (apply TO.ssl_hi zaa;(iterate 8 exact rfl);omega))
   ·refine RetK.pure rfl ?_ rfl
    rw[if_pos hc]at he
    rw[<-he]
    exact Le.tup ⟨Le.nil 3,Le.refl _,Le.refl _,trivial⟩
   ·obtain⟨hL1,hL2⟩:=hL hc
    rw[if_neg (by rw[show(ea != 0)=false from hc];simp)]at he
    refine zaf.cut 2 (n,j+na,out++[(ka,xa,(j:Int))]) ⟨by simp only;omega,by simp only;omega,by simp only[qal,qac,qai];omega,he⟩ (qb7 n) ⟨rfl,rfl,?_,trivial⟩ rfl rfl ?_ rfl rfl
    ·simp only[qav];rfl
    ·simp only[qav,qal];rfl
  ·repeat' (first
    | (apply TO.move;exact rfl;exact rfl)
    | (apply TO.assign;exact rfl;exact rfl)
    | (apply TO.want;exact rfl)
    | refine zql ?_
    | refine zqc ?_
    | (apply TO.eqs;(iterate 3 exact rfl))
    | (apply TO.nes;(iterate 3 exact rfl))
    | (apply TO.cmp;(iterate 4 exact rfl))
    | (intro hc;exact absurd hc (by decide))
    | (intro hc;exfalso;simp only[decide_eq_true_eq,decide_eq_false_iff_not,beq_iff_eq,beq_eq_false_iff_ne,bne_iff_ne,bne_eq_false_iff_eq,ne_eq,qap,not_true_eq_false]at hc;done)
    | (intro hc;exfalso;(first|simp only[decide_eq_true_eq,decide_eq_false_iff_not,beq_iff_eq,beq_eq_false_iff_ne,bne_iff_ne,bne_eq_false_iff_eq,ne_eq,qap,not_true_eq_false]at hc|skip);first|omega|(simp only[qai,qac]at *;omega))
    | intro hc
    | (apply TO.pick;(iterate 3 exact rfl))
    | (apply TO.pass;exact rfl;exact rfl)
    | (apply TO.zcr;exact rfl)
    | (apply TO.load zaa;(iterate 5 exact rfl))
    | (apply TO.zaN zaa;(iterate 6 exact rfl))
    | (apply TO.fieldAddr zaa;(iterate 5 exact rfl);decide;exact rfl)
    | (apply TO.zam zaa;(iterate 5 exact rfl);decide;exact rfl)
    | (apply TO.nilCheck;(iterate 3 exact rfl))
    | (apply TO.zaE zaa;(iterate 5 exact rfl);assumption)
    | (apply TO.zax zaa;(iterate 5 exact rfl);decide;exact rfl)
    | (apply TO.za0 zaa;(iterate 4 exact rfl))
    | (apply TO.zbt zaa;(iterate 7 exact rfl))
    | refine zqg ?_
    | (apply TO.extract;(iterate 3 exact rfl))
    | (apply TO.zdu [0] (v':=.tup []) (H':=[.cells [.s s,.i (j:Int)],.tail (out.map tokT).length]) (hS);(iterate 3 exact rfl);(first|exact⟨Le.refl _,trivial⟩|exact⟨Le.refl _,Le.refl _,trivial⟩|exact⟨Le.refl _,Le.refl _,Le.refl _,trivial⟩);exact rfl;exact Hands.one rfl rfl;exact rfl;exact rfl)
    | refine TO.nil ?_
    | refine TR.seq ?_
    | refine TR.region ?_
    | (apply TR.zco;exact rfl)
    | (apply TR.zcn;exact rfl)
    | refine Then.normal ?_
    | refine TR.block ?_
    | refine TR.skip ?_
    | (apply TR.za1 hmix;kernel_rfl;exact rfl)
    | refine TR.exit ?_
    | refine TR.ret ?_
    | refine Then.exit ?_
    | refine Then.ret ?_
    | refine zaf.exit ?_
    | refine zaf.ret ?_
    | refine zac.normal ?_
    | refine zac.ret ?_
    | (apply zac.same;exact rfl)
    | (apply zac.other;exact rfl)
    | (apply TO.zaH;(iterate 3 exact rfl);omega;omega)
    | (apply TO.mul64;(iterate 3 exact rfl);omega;omega)
    | (apply TO.convert_u8;exact rfl;kernel_rfl;kernel_rfl;exact rfl)
    | (apply TO.bin;(iterate 4 exact rfl))
    | (apply TO.zbu zaa;(iterate 6 exact rfl);omega;omega)
    | (apply TO.zaL zaa;(iterate 5 exact rfl);omega)
    | (apply TO.zaO zaa;(iterate 5 exact rfl);omega)
    | (apply TO.not;exact rfl;exact rfl)
    | (apply TO.zau;exact rfl;exact rfl)
    | (apply TO.zaQ zaa;(iterate 4 exact rfl);exact leB)
    | (apply TO.zap zaa;(iterate 5 exact rfl);exact leB)
    | (apply TO.zbs zaa;(iterate 4 exact rfl))
    | (apply TO.zbr zaa;(iterate 7 exact rfl))
    | (apply TO.build zaa;(iterate 6 exact rfl))
    | refine zqn ?_
    | refine zqm ?_
    | refine zqe ?_
    | refine zqj ?_
    | refine zqb ?_
    | (apply TO.eqb;(iterate 3 exact rfl);kernel_rfl)
    | (apply TO.neb;(iterate 3 exact rfl);kernel_rfl)
    | (apply TO.zaC (j:=0) zaa;(iterate 10 exact rfl))
    | (apply TO.makeFunc;exact rfl;exact rfl)
    | (apply TO.zak zaa;(iterate 5 exact rfl);decide;exact rfl)
    | (apply TO.eq_nil_ptr zaa;(iterate 5 exact rfl))
    | (apply TO.eq_nil_nil zaa;(iterate 4 exact rfl))
    | (apply TO.ne_nil_ptr zaa;(iterate 5 exact rfl))
    | (apply TO.ne_nil_nil zaa;(iterate 4 exact rfl))
    | refine zqi ?_
    | refine zqk ?_
    | (apply TO.ssl_hi zaa;(iterate 8 exact rfl);omega))
   have hje:j=s.length:=by omega
   rw[if_pos hje]at he
   refine RetK.pure rfl ?_ rfl
   rw[<-he]
   exact Le.tup ⟨Le.own 3 _ 1,Le.refl _,Le.refl _,trivial⟩
end Go.Proofs.YtpfnfpaahefdaaaGreat
