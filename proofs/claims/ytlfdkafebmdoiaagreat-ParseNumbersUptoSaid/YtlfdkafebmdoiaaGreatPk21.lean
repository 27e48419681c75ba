import Derived.Test.YtlfdkafebmdoiaaGreatPk20
set_option linter.unusedSimpArgs false
set_option linter.unusedVariables false
namespace Go.Proofs.YtlfdkafebmdoiaaGreat
open Go Go.TL
attribute [local irreducible] TR TO Then InBlock RetK Sound LoopK Kf GG ThenL
def symsL:List Str:=[[40],[41],[58],[59],[44],[61],[124],[45,62],[60,62],[60,61],[62,61],[60],[62],[43],[45],[42],[47]]
def tokenAt(l:Str):(Int×Str×Int)×Nat:=
 match l with
 | []=>((0,[],5),0)
 | c::r=>
   if letter c.toNat then(nameTok (spanOf inner l),(spanOf inner l).length)
   else if digit c.toNat then(numTok (spanOf digit l),(spanOf digit l).length)
   else if(c.toNat:Int) == 39 then(wordTok (spanOf wordByte r) (behind wordByte r),wordLen (spanOf wordByte r) (behind wordByte r))
   else(symTok (best l symsL),(best l symsL).length)
set_option maxHeartbeats 1000000 in
theorem token_sound (s:Str) (hs:s.length≤1000000) (i:Nat) (hi:i<s.length):
  Sound Tryz.prog 30 [.ref 0 0] (scanner s i) (fun r H'=>r= .ret (tokR (tokenAt (s.drop i)).1)/\H'=scanner s (i+(tokenAt (s.drop i)).2)):=by
 refine so Tryz.func30 ?_
 have hx:=List.getElem?_eq_getElem hi
 have hd:s.drop i=s[i]::s.drop (i+1):=List.drop_eq_getElem_cons hi
 have h1:=name_sound s hs i (Nat.le_of_lt hi)
 have h2:=number_sound s hs i (Nat.le_of_lt hi)
 have h3:=word_sound s hs i hi
 have h4:=symbol_sound symsL (by decide) s hs i (Nat.le_of_lt hi)
 have e1:letter s[i].toNat=true->tokenAt (s.drop i)=(nameTok (spanOf inner (s.drop i)),(spanOf inner (s.drop i)).length):=fun g=>by rw[hd];simp only[tokenAt,g,if_true]
 have e2:letter s[i].toNat=false->digit s[i].toNat=true->tokenAt (s.drop i)=(numTok (spanOf digit (s.drop i)),(spanOf digit (s.drop i)).length):=fun g g2=>by rw[hd];simp only[tokenAt,g,g2,if_true];rfl
 have e3:letter s[i].toNat=false->digit s[i].toNat=false->((s[i].toNat:Int) == 39)=true->tokenAt (s.drop i)=(wordTok (spanOf wordByte (s.drop (i+1))) (behind wordByte (s.drop (i+1))),wordLen (spanOf wordByte (s.drop (i+1))) (behind wordByte (s.drop (i+1)))):=fun g g2 g3=>by rw[hd];simp only[tokenAt,g,g2,g3,if_true];rfl
 have e4:letter s[i].toNat=false->digit s[i].toNat=false->((s[i].toNat:Int) == 39)=false->tokenAt (s.drop i)=(symTok (best (s.drop i) symsL),(best (s.drop i) symsL).length):=fun g g2 g3=>by rw[hd];simp only[tokenAt,g,g2,g3,if_true];rfl
 generalize tokenAt (s.drop i)=tk at e1 e2 e3 e4⊢
 generalize nameTok (spanOf inner (s.drop i))=t1 at h1 e1
 generalize (spanOf inner (s.drop i)).length=n1 at h1 e1
 generalize numTok (spanOf digit (s.drop i))=t2 at h2 e2
 generalize (spanOf digit (s.drop i)).length=n2 at h2 e2
 generalize wordTok (spanOf wordByte (s.drop (i+1))) (behind wordByte (s.drop (i+1)))=t3 at h3 e3
 generalize wordLen (spanOf wordByte (s.drop (i+1))) (behind wordByte (s.drop (i+1)))=n3 at h3 e3
 generalize symTok (best (s.drop i) symsL)=t4 at h4 e4
 generalize (best (s.drop i) symsL).length=n4 at h4 e4
 clear hd
 generalize s[i]=c at hx e1 e2 e3 e4
 repeat' (first
  | (apply TO.move;exact rfl;exact rfl)
  | (apply TO.assign;exact rfl;exact rfl)
  | (apply TO.want;exact rfl)
  | (apply TO.add;exact rfl;exact rfl;exact rfl;omega;omega)
  | (apply TO.cat;exact rfl;exact rfl;exact rfl;(first|omega|(simp only[List.length_append,List.length_cons,List.length_nil];omega)))
  | (apply TO.eqs;exact rfl;exact rfl;exact rfl)
  | (apply TO.nes;exact rfl;exact rfl;exact rfl)
  | (apply TO.cmp;exact rfl;exact rfl;exact rfl;exact rfl)
  | (intro hc;exact absurd hc (by decide))
  | (intro hc;exfalso;simp only[decide_eq_true_eq,decide_eq_false_iff_not,beq_iff_eq,beq_eq_false_iff_ne,bne_iff_ne,bne_eq_false_iff_eq,ne_eq,Decidable.not_not,not_true_eq_false]at hc;done)
  | (intro hc;exfalso;(first|simp only[decide_eq_true_eq,decide_eq_false_iff_not,beq_iff_eq,beq_eq_false_iff_ne,bne_iff_ne,bne_eq_false_iff_eq,ne_eq,Decidable.not_not,not_true_eq_false]at hc|skip);first|omega|(simp only[List.length_nil,List.length_cons]at *;omega))
  | intro hc
  | (apply TO.pick;exact rfl;exact rfl;exact rfl)
  | (apply TO.pass;exact rfl;exact rfl)
  | (apply TO.pass0;exact rfl)
  | (apply TO.load tabOk;exact rfl;exact rfl;exact rfl;exact rfl;exact rfl)
  | (apply TO.load_ref tabOk;exact rfl;exact rfl;exact rfl;exact rfl;exact rfl;exact rfl)
  | (apply TO.fieldAddr tabOk;exact rfl;exact rfl;exact rfl;exact rfl;exact rfl;decide;exact rfl)
  | (apply TO.fieldAddr_ref tabOk;exact rfl;exact rfl;exact rfl;exact rfl;exact rfl;decide;exact rfl)
  | (apply TO.nilCheck;exact rfl;exact rfl;exact rfl)
  | (apply TO.index_nat tabOk;exact rfl;exact rfl;exact rfl;exact rfl;exact rfl;assumption)
  | (apply TO.index_str tabOk;exact rfl;exact rfl;exact rfl;exact rfl;exact rfl;decide;exact rfl)
  | (apply TO.len_str tabOk;exact rfl;exact rfl;exact rfl;exact rfl)
  | (apply TO.len_sl tabOk;exact rfl;exact rfl;exact rfl;exact rfl;exact rfl;exact rfl;exact rfl)
  | (apply TO.elem_nat tabOk;exact rfl;exact rfl;exact rfl;exact rfl;exact rfl;exact rfl;exact rfl;exact rfl;assumption;exact rfl)
  | (apply TO.extract;exact rfl;exact rfl;exact rfl)
  | (apply TO.callBb (letter_sound _);exact rfl;exact rfl;exact rfl;exact⟨.t _,trivial⟩)
  | (apply TO.callBb (digit_sound _);exact rfl;exact rfl;exact rfl;exact⟨.t _,trivial⟩)
  | (apply TO.call1 [0] (v':=tokR t1) (H':=[.cells [.s s,.i ((i+n1:Nat):Int)],.cells [.i 0,.s [],.i 0]]) (h1);exact rfl;exact rfl;exact rfl;(first|exact⟨Le.refl _,trivial⟩|exact⟨Le.refl _,Le.refl _,trivial⟩|exact⟨Le.refl _,Le.refl _,Le.refl _,trivial⟩);exact rfl;exact Hands.one rfl rfl;exact rfl;exact rfl)
  | (apply TO.call1 [0] (v':=tokR t2) (H':=[.cells [.s s,.i ((i+n2:Nat):Int)],.cells [.i 0,.s [],.i 0]]) (h2);exact rfl;exact rfl;exact rfl;(first|exact⟨Le.refl _,trivial⟩|exact⟨Le.refl _,Le.refl _,trivial⟩|exact⟨Le.refl _,Le.refl _,Le.refl _,trivial⟩);exact rfl;exact Hands.one rfl rfl;exact rfl;exact rfl)
  | (apply TO.call1 [0] (v':=tokR t3) (H':=[.cells [.s s,.i ((i+n3:Nat):Int)],.cells [.i 0,.s [],.i 0]]) (h3);exact rfl;exact rfl;exact rfl;(first|exact⟨Le.refl _,trivial⟩|exact⟨Le.refl _,Le.refl _,trivial⟩|exact⟨Le.refl _,Le.refl _,Le.refl _,trivial⟩);exact rfl;exact Hands.one rfl rfl;exact rfl;exact rfl)
  | (apply TO.call1 [0] (v':=tokR t4) (H':=[.cells [.s s,.i ((i+n4:Nat):Int)],.cells [.i 0,.s [],.i 0]]) (h4);exact rfl;exact rfl;exact rfl;(first|exact⟨Le.refl _,trivial⟩|exact⟨Le.refl _,Le.refl _,trivial⟩|exact⟨Le.refl _,Le.refl _,Le.refl _,trivial⟩);exact rfl;exact Hands.one rfl rfl;exact rfl;exact rfl)
  | refine TO.nil ?_
  | refine TR.seq ?_
  | refine TR.region ?_
  | (apply TR.condT;exact rfl)
  | (apply TR.condF;exact rfl)
  | refine Then.normal ?_
  | refine TR.block ?_
  | refine TR.skip ?_
  | (apply TR.regionQ hmix;kernel_rfl;exact rfl)
  | refine TR.exit ?_
  | refine TR.ret ?_
  | refine Then.exit ?_
  | refine Then.ret ?_
  | refine LoopK.exit ?_
  | refine LoopK.ret ?_
  | refine InBlock.normal ?_
  | refine InBlock.ret ?_
  | (apply InBlock.same;exact rfl)
  | (apply InBlock.other;exact rfl)
  | (apply TO.sub64;exact rfl;exact rfl;exact rfl;omega;omega)
  | (apply TO.mul64;exact rfl;exact rfl;exact rfl;omega;omega)
  | (apply TO.convert_u8;exact rfl;kernel_rfl;kernel_rfl;exact rfl)
  | (apply TO.bin;exact rfl;exact rfl;exact rfl;exact rfl)
  | (apply TO.slice2 tabOk;exact rfl;exact rfl;exact rfl;exact rfl;exact rfl;exact rfl;omega;omega)
  | (apply TO.slice_lo tabOk;exact rfl;exact rfl;exact rfl;exact rfl;exact rfl;omega)
  | (apply TO.slice_hi tabOk;exact rfl;exact rfl;exact rfl;exact rfl;exact rfl;omega)
  | (apply TO.not;exact rfl;exact rfl)
  | (apply TO.nilCheck_fn;exact rfl;exact rfl)
  | (apply TO.load_agg tabOk;exact rfl;exact rfl;exact rfl;exact rfl;exact Nat.le_of_ble_eq_true rfl)
  | (apply TO.load_ref_agg tabOk;exact rfl;exact rfl;exact rfl;exact rfl;exact rfl;exact Nat.le_of_ble_eq_true rfl)
  | (apply TO.len_ms tabOk;exact rfl;exact rfl;exact rfl;exact rfl)
  | (apply TO.buildT tabOk;exact rfl;exact rfl;exact rfl;exact rfl;exact rfl;exact rfl;exact rfl)
  | (apply TO.build tabOk;exact rfl;exact rfl;exact rfl;exact rfl;exact rfl;exact rfl)
  | (apply TO.box;exact rfl;exact rfl;exact rfl;exact rfl)
  | (apply TO.alloc tabOk;exact rfl;exact rfl;exact rfl)
  | (apply TO.store tabOk;exact rfl;exact rfl;exact rfl;exact rfl;exact rfl;exact rfl;exact Nat.le_of_ble_eq_true rfl;exact rfl;exact Nat.le_of_ble_eq_true rfl;exact rfl)
  | (apply TO.buildSliceB tabOk;exact rfl;exact rfl;exact rfl;exact rfl;exact rfl;exact rfl;exact rfl;exact rfl;exact rfl;exact rfl)
  | (apply TO.appendB tabOk;exact rfl;exact rfl;exact rfl;exact rfl;exact rfl;exact rfl;exact rfl;exact rfl;exact rfl;exact rfl;exact rfl;exact rfl;exact rfl;(first|omega|(simp only[List.length_append,List.length_cons,List.length_nil];omega));exact rfl)
  | (apply TO.eqb;exact rfl;exact rfl;exact rfl;kernel_rfl)
  | (apply TO.neb;exact rfl;exact rfl;exact rfl;kernel_rfl)
  | (apply TO.elem_nat (j:=0) tabOk;exact rfl;exact rfl;exact rfl;exact rfl;exact rfl;exact rfl;exact rfl;exact rfl;exact rfl;exact rfl)
  | (apply TO.makeFunc;exact rfl;exact rfl)
  | (apply TO.fieldAddr_tref tabOk;exact rfl;exact rfl;exact rfl;exact rfl;exact rfl;decide;exact rfl)
  | (apply TO.eq_nil_ptr tabOk;exact rfl;exact rfl;exact rfl;exact rfl;exact rfl)
  | (apply TO.eq_nil_nil tabOk;exact rfl;exact rfl;exact rfl;exact rfl)
  | (apply TO.ne_nil_ptr tabOk;exact rfl;exact rfl;exact rfl;exact rfl;exact rfl)
  | (apply TO.ne_nil_nil tabOk;exact rfl;exact rfl;exact rfl;exact rfl)
  | (apply TO.ssl2 tabOk;exact rfl;exact rfl;exact rfl;exact rfl;exact rfl;exact rfl;exact rfl;exact rfl;exact rfl;omega;omega)
  | (apply TO.ssl_lo tabOk;exact rfl;exact rfl;exact rfl;exact rfl;exact rfl;exact rfl;exact rfl;exact rfl;omega)
  | (apply TO.ssl_hi tabOk;exact rfl;exact rfl;exact rfl;exact rfl;exact rfl;exact rfl;exact rfl;exact rfl;omega))
 ·rw[e1 hc];exact RetK.keep 1 rfl (Le.refl _) rfl rfl rfl rfl rfl ⟨rfl,rfl⟩
 ·rw[e2 (by assumption) hc];exact RetK.keep 1 rfl (Le.refl _) rfl rfl rfl rfl rfl ⟨rfl,rfl⟩
 ·rw[e3 (by assumption) (by assumption) hc];exact RetK.keep 1 rfl (Le.refl _) rfl rfl rfl rfl rfl ⟨rfl,rfl⟩
 ·rw[e4 (by assumption) (by assumption) hc];exact RetK.keep 1 rfl (Le.refl _) rfl rfl rfl rfl rfl ⟨rfl,rfl⟩
abbrev Tok:=Int×Str×Int
abbrev tokT (t:Tok):T:=.ag [.i t.1,.s t.2.1,.i t.2.2]
def scanF:Nat->Str->Nat->List Tok->List Tok×Int×Int
 | 0,_,_,_=>([],0,0)
 | n+1,s,i,out=>
   if s.length-(skipped (s.drop i)).length=s.length then(out,0,0)
   else if((tokenAt (s.drop (s.length-(skipped (s.drop i)).length))).1.2.2 != 0)=true then([],((s.length-(skipped (s.drop i)).length:Nat):Int),(tokenAt (s.drop (s.length-(skipped (s.drop i)).length))).1.2.2)
   else scanF n s (s.length-(skipped (s.drop i)).length+(tokenAt (s.drop (s.length-(skipped (s.drop i)).length))).2)
    (out++[((tokenAt (s.drop (s.length-(skipped (s.drop i)).length))).1.1,(tokenAt (s.drop (s.length-(skipped (s.drop i)).length))).1.2.1,((s.length-(skipped (s.drop i)).length:Nat):Int))])
def scan(s:Str):List Tok×Int×Int:=if 65536<s.length then([],0,3) else scanF (s.length+1) s 0 []
abbrev scanR (a:List Tok×Int×Int):SV:=.tup [.t (.sl 3 (a.1.map tokT)),.i a.2.1,.i a.2.2]
theorem tokenAt_len{l:Str}(hl:l≠ [])(h:((tokenAt l).1.2.2 != 0)=false):0<(tokenAt l).2/\(tokenAt l).2≤l.length:=by
 match l,hl with
 | c::r,_=>
   have g1:=spanOf_len inner (c::r)
   have g2:=spanOf_len digit (c::r)
   have g3:=spanOf_len wordByte r
   have g4:=best_le (c::r) symsL [] (Nat.zero_le _)
   have g5:best (c::r) symsL=symsL.foldl (best1 (c::r)) []:=rfl
   rw[<-g5]at g4
   clear g5
   revert h
   unfold tokenAt
   simp only
   generalize best (c::r) symsL=b at g4⊢
   split
   ·rename_i h1
    intro _
    refine⟨?_,g1⟩
    have:inner c.toNat=true:=by simp[inner,h1]
    simp[spanOf,this]
   ·split
    ·rename_i h1
     intro _
     refine⟨?_,g2⟩
     simp[spanOf,h1]
    ·split
     ·intro h
      have hq:headIs 39 (behind wordByte r)=true:=by
       cases hq:headIs 39 (behind wordByte r) with
       | true=>rfl
       | false=>simp[wordTok,hq]at h
      have hb:(behind wordByte r)≠ []:=fun e=>by rw[e]at hq;cases hq
      have hl:=List.length_pos_iff.2 hb
      simp only[behind,List.length_drop]at hl
      simp only[wordLen,hq,if_true,List.length_cons]
      omega
     ·intro h
      refine⟨?_,g4⟩
      simp only[symTok]at h
      split at h
      ·simp at h
      ·rename_i hb
       exact List.length_pos_iff.2 (fun e=>hb (by rw[e];rfl))
set_option maxHeartbeats 2000000 in
theorem scan_sound (s:Str):Pure Tryz.prog 14 [.s s] (scanR (scan s)):=by
 refine so Tryz.func14 ?_
 repeat' (first
  | (apply TO.move;exact rfl;exact rfl)
  | (apply TO.assign;exact rfl;exact rfl)
  | (apply TO.want;exact rfl)
  | (apply TO.add;exact rfl;exact rfl;exact rfl;omega;omega)
  | (apply TO.cat;exact rfl;exact rfl;exact rfl;(first|omega|(simp only[List.length_append,List.length_cons,List.length_nil];omega)))
  | (apply TO.eqs;exact rfl;exact rfl;exact rfl)
  | (apply TO.nes;exact rfl;exact rfl;exact rfl)
  | (apply TO.cmp;exact rfl;exact rfl;exact rfl;exact rfl)
  | (intro hc;exact absurd hc (by decide))
  | (intro hc;exfalso;simp only[decide_eq_true_eq,decide_eq_false_iff_not,beq_iff_eq,beq_eq_false_iff_ne,bne_iff_ne,bne_eq_false_iff_eq,ne_eq,Decidable.not_not,not_true_eq_false]at hc;done)
  | (intro hc;exfalso;(first|simp only[decide_eq_true_eq,decide_eq_false_iff_not,beq_iff_eq,beq_eq_false_iff_ne,bne_iff_ne,bne_eq_false_iff_eq,ne_eq,Decidable.not_not,not_true_eq_false]at hc|skip);first|omega|(simp only[List.length_nil,List.length_cons]at *;omega))
  | intro hc
  | (apply TO.pick;exact rfl;exact rfl;exact rfl)
  | (apply TO.pass;exact rfl;exact rfl)
  | (apply TO.pass0;exact rfl)
  | (apply TO.load tabOk;exact rfl;exact rfl;exact rfl;exact rfl;exact rfl)
  | (apply TO.load_ref tabOk;exact rfl;exact rfl;exact rfl;exact rfl;exact rfl;exact rfl)
  | (apply TO.fieldAddr tabOk;exact rfl;exact rfl;exact rfl;exact rfl;exact rfl;decide;exact rfl)
  | (apply TO.fieldAddr_ref tabOk;exact rfl;exact rfl;exact rfl;exact rfl;exact rfl;decide;exact rfl)
  | (apply TO.nilCheck;exact rfl;exact rfl;exact rfl)
  | (apply TO.index_nat tabOk;exact rfl;exact rfl;exact rfl;exact rfl;exact rfl;assumption)
  | (apply TO.index_str tabOk;exact rfl;exact rfl;exact rfl;exact rfl;exact rfl;decide;exact rfl)
  | (apply TO.len_str tabOk;exact rfl;exact rfl;exact rfl;exact rfl)
  | (apply TO.len_sl tabOk;exact rfl;exact rfl;exact rfl;exact rfl;exact rfl;exact rfl;exact rfl)
  | (apply TO.elem_nat tabOk;exact rfl;exact rfl;exact rfl;exact rfl;exact rfl;exact rfl;exact rfl;exact rfl;assumption;exact rfl)
  | (apply TO.extract;exact rfl;exact rfl;exact rfl)
  | refine TO.nil ?_
  | refine TR.seq ?_
  | refine TR.region ?_
  | (apply TR.condT;exact rfl)
  | (apply TR.condF;exact rfl)
  | refine Then.normal ?_
  | refine TR.block ?_
  | refine TR.skip ?_
  | (apply TR.regionQ hmix;kernel_rfl;exact rfl)
  | refine TR.exit ?_
  | refine TR.ret ?_
  | refine Then.exit ?_
  | refine Then.ret ?_
  | refine LoopK.exit ?_
  | refine LoopK.ret ?_
  | refine InBlock.normal ?_
  | refine InBlock.ret ?_
  | (apply InBlock.same;exact rfl)
  | (apply InBlock.other;exact rfl)
  | (apply TO.sub64;exact rfl;exact rfl;exact rfl;omega;omega)
  | (apply TO.mul64;exact rfl;exact rfl;exact rfl;omega;omega)
  | (apply TO.convert_u8;exact rfl;kernel_rfl;kernel_rfl;exact rfl)
  | (apply TO.bin;exact rfl;exact rfl;exact rfl;exact rfl)
  | (apply TO.slice2 tabOk;exact rfl;exact rfl;exact rfl;exact rfl;exact rfl;exact rfl;omega;omega)
  | (apply TO.slice_lo tabOk;exact rfl;exact rfl;exact rfl;exact rfl;exact rfl;omega)
  | (apply TO.slice_hi tabOk;exact rfl;exact rfl;exact rfl;exact rfl;exact rfl;omega)
  | (apply TO.not;exact rfl;exact rfl)
  | (apply TO.nilCheck_fn;exact rfl;exact rfl)
  | (apply TO.load_agg tabOk;exact rfl;exact rfl;exact rfl;exact rfl;exact Nat.le_of_ble_eq_true rfl)
  | (apply TO.load_ref_agg tabOk;exact rfl;exact rfl;exact rfl;exact rfl;exact rfl;exact Nat.le_of_ble_eq_true rfl)
  | (apply TO.len_ms tabOk;exact rfl;exact rfl;exact rfl;exact rfl)
  | (apply TO.buildT tabOk;exact rfl;exact rfl;exact rfl;exact rfl;exact rfl;exact rfl;exact rfl)
  | (apply TO.build tabOk;exact rfl;exact rfl;exact rfl;exact rfl;exact rfl;exact rfl)
  | (apply TO.box;exact rfl;exact rfl;exact rfl;exact rfl)
  | (apply TO.alloc tabOk;exact rfl;exact rfl;exact rfl)
  | (apply TO.store tabOk;exact rfl;exact rfl;exact rfl;exact rfl;exact rfl;exact rfl;exact Nat.le_of_ble_eq_true rfl;exact rfl;exact Nat.le_of_ble_eq_true rfl;exact rfl)
  | (apply TO.buildSliceB tabOk;exact rfl;exact rfl;exact rfl;exact rfl;exact rfl;exact rfl;exact rfl;exact rfl;exact rfl;exact rfl)
  | (apply TO.appendB tabOk;exact rfl;exact rfl;exact rfl;exact rfl;exact rfl;exact rfl;exact rfl;exact rfl;exact rfl;exact rfl;exact rfl;exact rfl;exact rfl;(first|omega|(simp only[List.length_append,List.length_cons,List.length_nil];omega));exact rfl)
  | (apply TO.eqb;exact rfl;exact rfl;exact rfl;kernel_rfl)
  | (apply TO.neb;exact rfl;exact rfl;exact rfl;kernel_rfl)
  | (apply TO.elem_nat (j:=0) tabOk;exact rfl;exact rfl;exact rfl;exact rfl;exact rfl;exact rfl;exact rfl;exact rfl;exact rfl;exact rfl)
  | (apply TO.makeFunc;exact rfl;exact rfl)
  | (apply TO.fieldAddr_tref tabOk;exact rfl;exact rfl;exact rfl;exact rfl;exact rfl;decide;exact rfl)
  | (apply TO.eq_nil_ptr tabOk;exact rfl;exact rfl;exact rfl;exact rfl;exact rfl)
  | (apply TO.eq_nil_nil tabOk;exact rfl;exact rfl;exact rfl;exact rfl)
  | (apply TO.ne_nil_ptr tabOk;exact rfl;exact rfl;exact rfl;exact rfl;exact rfl)
  | (apply TO.ne_nil_nil tabOk;exact rfl;exact rfl;exact rfl;exact rfl)
  | (apply TO.ssl2 tabOk;exact rfl;exact rfl;exact rfl;exact rfl;exact rfl;exact rfl;exact rfl;exact rfl;exact rfl;omega;omega)
  | (apply TO.ssl_lo tabOk;exact rfl;exact rfl;exact rfl;exact rfl;exact rfl;exact rfl;exact rfl;exact rfl;omega)
  | (apply TO.ssl_hi tabOk;exact rfl;exact rfl;exact rfl;exact rfl;exact rfl;exact rfl;exact rfl;exact rfl;omega))
 ·refine RetK.pure rfl ?_ rfl
  have:scan s=([],0,3):=if_pos (by simp at hc;omega)
  rw[this]
  exact Le.tup ⟨Le.nil 3,Le.refl _,Le.refl _,trivial⟩
 ·refine TR.tail 3 6 rfl ?_
  have hlen:s.length≤65536:=by simp at hc;omega
  have hsc:scan s=scanF (s.length+1) s 0 []:=if_neg (by omega)
  refine TR.loop_ind (ι:=Nat×Nat×List Tok) (fun x=>x.2.1≤s.length/\s.length-x.2.1<x.1/\x.2.2.length≤x.2.1/\scanF x.1 s x.2.1 x.2.2=scan s) (fun x=>x.1)
   (fun x=>[(0,.s s),(5,.ref 0 0),(6,.sl 3 (x.2.2.map tokT) 1)]) (fun x=>[.cells [.s s,.i x.2.1],.tail (x.2.2.map tokT).length]) (s.length+1,0,[]) ⟨Nat.zero_le _,by simp,Nat.le_refl _,hsc.symm⟩ ⟨rfl,rfl,rfl,trivial⟩ rfl ?_
  clear hc hsc
  rintro⟨n,i,out⟩ ⟨hi,hn,ho,he⟩
  simp only at hi hn ho he⊢
  obtain⟨n,rfl⟩:∃m,n=m+1:=⟨n-1,by omega⟩
  rw[scanF]at he
  have hS:=skip_sound s (by omega) i hi
  have hj1:=skipped_len (s.drop i)
  rw[List.length_drop]at hj1
  obtain⟨j,hj⟩:∃j,j=s.length-(skipped (s.drop i)).length:=⟨_,rfl⟩
  rw[<-hj]at he hS
  have hj2:i≤j:=by omega
  have hj3:j≤s.length:=by omega
  clear hj hj1
  have hml:(out.map tokT).length=out.length:=List.length_map _
  by_cases hlt:j<s.length
  ·have hT:=token_sound s (by omega) j hlt
   have hL:=tokenAt_len (l:=s.drop j) (by simp;omega)
   rw[if_neg (by omega)]at he
   rw[List.length_drop]at hL
   generalize tokenAt (s.drop j)=tk at hT hL he
   obtain⟨⟨ka,xa,ea⟩,na⟩:=tk
   simp only at hT hL he
   repeat' (first
    | (apply TO.move;exact rfl;exact rfl)
    | (apply TO.assign;exact rfl;exact rfl)
    | (apply TO.want;exact rfl)
    | (apply TO.add;exact rfl;exact rfl;exact rfl;omega;omega)
    | (apply TO.cat;exact rfl;exact rfl;exact rfl;(first|omega|(simp only[List.length_append,List.length_cons,List.length_nil];omega)))
    | (apply TO.eqs;exact rfl;exact rfl;exact rfl)
    | (apply TO.nes;exact rfl;exact rfl;exact rfl)
    | (apply TO.cmp;exact rfl;exact rfl;exact rfl;exact rfl)
    | (intro hc;exact absurd hc (by decide))
    | (intro hc;exfalso;simp only[decide_eq_true_eq,decide_eq_false_iff_not,beq_iff_eq,beq_eq_false_iff_ne,bne_iff_ne,bne_eq_false_iff_eq,ne_eq,Decidable.not_not,not_true_eq_false]at hc;done)
    | (intro hc;exfalso;(first|simp only[decide_eq_true_eq,decide_eq_false_iff_not,beq_iff_eq,beq_eq_false_iff_ne,bne_iff_ne,bne_eq_false_iff_eq,ne_eq,Decidable.not_not,not_true_eq_false]at hc|skip);first|omega|(simp only[List.length_nil,List.length_cons]at *;omega))
    | intro hc
    | (apply TO.pick;exact rfl;exact rfl;exact rfl)
    | (apply TO.pass;exact rfl;exact rfl)
    | (apply TO.pass0;exact rfl)
    | (apply TO.load tabOk;exact rfl;exact rfl;exact rfl;exact rfl;exact rfl)
    | (apply TO.load_ref tabOk;exact rfl;exact rfl;exact rfl;exact rfl;exact rfl;exact rfl)
    | (apply TO.fieldAddr tabOk;exact rfl;exact rfl;exact rfl;exact rfl;exact rfl;decide;exact rfl)
    | (apply TO.fieldAddr_ref tabOk;exact rfl;exact rfl;exact rfl;exact rfl;exact rfl;decide;exact rfl)
    | (apply TO.nilCheck;exact rfl;exact rfl;exact rfl)
    | (apply TO.index_nat tabOk;exact rfl;exact rfl;exact rfl;exact rfl;exact rfl;assumption)
    | (apply TO.index_str tabOk;exact rfl;exact rfl;exact rfl;exact rfl;exact rfl;decide;exact rfl)
    | (apply TO.len_str tabOk;exact rfl;exact rfl;exact rfl;exact rfl)
    | (apply TO.len_sl tabOk;exact rfl;exact rfl;exact rfl;exact rfl;exact rfl;exact rfl;exact rfl)
    | (apply TO.elem_nat tabOk;exact rfl;exact rfl;exact rfl;exact rfl;exact rfl;exact rfl;exact rfl;exact rfl;assumption;exact rfl)
    | (apply TO.extract;exact rfl;exact rfl;exact rfl)
    | (apply TO.call1 [0] (v':=.tup []) (H':=[.cells [.s s,.i (j:Int)],.tail (out.map tokT).length]) (hS);exact rfl;exact rfl;exact rfl;(first|exact⟨Le.refl _,trivial⟩|exact⟨Le.refl _,Le.refl _,trivial⟩|exact⟨Le.refl _,Le.refl _,Le.refl _,trivial⟩);exact rfl;exact Hands.one rfl rfl;exact rfl;exact rfl)
    | (apply TO.call1 [0] (v':=tokR (ka,xa,ea)) (H':=[.cells [.s s,.i ((j+na:Nat):Int)],.tail (out.map tokT).length]) (hT);exact rfl;exact rfl;exact rfl;(first|exact⟨Le.refl _,trivial⟩|exact⟨Le.refl _,Le.refl _,trivial⟩|exact⟨Le.refl _,Le.refl _,Le.refl _,trivial⟩);exact rfl;exact Hands.one rfl rfl;exact rfl;exact rfl)
    | refine TO.nil ?_
    | refine TR.seq ?_
    | refine TR.region ?_
    | (apply TR.condT;exact rfl)
    | (apply TR.condF;exact rfl)
    | refine Then.normal ?_
    | refine TR.block ?_
    | refine TR.skip ?_
    | (apply TR.regionQ hmix;kernel_rfl;exact rfl)
    | refine TR.exit ?_
    | refine TR.ret ?_
    | refine Then.exit ?_
    | refine Then.ret ?_
    | refine LoopK.exit ?_
    | refine LoopK.ret ?_
    | refine InBlock.normal ?_
    | refine InBlock.ret ?_
    | (apply InBlock.same;exact rfl)
    | (apply InBlock.other;exact rfl)
    | (apply TO.sub64;exact rfl;exact rfl;exact rfl;omega;omega)
    | (apply TO.mul64;exact rfl;exact rfl;exact rfl;omega;omega)
    | (apply TO.convert_u8;exact rfl;kernel_rfl;kernel_rfl;exact rfl)
    | (apply TO.bin;exact rfl;exact rfl;exact rfl;exact rfl)
    | (apply TO.slice2 tabOk;exact rfl;exact rfl;exact rfl;exact rfl;exact rfl;exact rfl;omega;omega)
    | (apply TO.slice_lo tabOk;exact rfl;exact rfl;exact rfl;exact rfl;exact rfl;omega)
    | (apply TO.slice_hi tabOk;exact rfl;exact rfl;exact rfl;exact rfl;exact rfl;omega)
    | (apply TO.not;exact rfl;exact rfl)
    | (apply TO.nilCheck_fn;exact rfl;exact rfl)
    | (apply TO.load_agg tabOk;exact rfl;exact rfl;exact rfl;exact rfl;exact Nat.le_of_ble_eq_true rfl)
    | (apply TO.load_ref_agg tabOk;exact rfl;exact rfl;exact rfl;exact rfl;exact rfl;exact Nat.le_of_ble_eq_true rfl)
    | (apply TO.len_ms tabOk;exact rfl;exact rfl;exact rfl;exact rfl)
    | (apply TO.buildT tabOk;exact rfl;exact rfl;exact rfl;exact rfl;exact rfl;exact rfl;exact rfl)
    | (apply TO.build tabOk;exact rfl;exact rfl;exact rfl;exact rfl;exact rfl;exact rfl)
    | (apply TO.box;exact rfl;exact rfl;exact rfl;exact rfl)
    | (apply TO.alloc tabOk;exact rfl;exact rfl;exact rfl)
    | (apply TO.store tabOk;exact rfl;exact rfl;exact rfl;exact rfl;exact rfl;exact rfl;exact Nat.le_of_ble_eq_true rfl;exact rfl;exact Nat.le_of_ble_eq_true rfl;exact rfl)
    | (apply TO.buildSliceB tabOk;exact rfl;exact rfl;exact rfl;exact rfl;exact rfl;exact rfl;exact rfl;exact rfl;exact rfl;exact rfl)
    | (apply TO.appendB tabOk;exact rfl;exact rfl;exact rfl;exact rfl;exact rfl;exact rfl;exact rfl;exact rfl;exact rfl;exact rfl;exact rfl;exact rfl;exact rfl;(first|omega|(simp only[List.length_append,List.length_cons,List.length_nil];omega));exact rfl)
    | (apply TO.eqb;exact rfl;exact rfl;exact rfl;kernel_rfl)
    | (apply TO.neb;exact rfl;exact rfl;exact rfl;kernel_rfl)
    | (apply TO.elem_nat (j:=0) tabOk;exact rfl;exact rfl;exact rfl;exact rfl;exact rfl;exact rfl;exact rfl;exact rfl;exact rfl;exact rfl)
    | (apply TO.makeFunc;exact rfl;exact rfl)
    | (apply TO.fieldAddr_tref tabOk;exact rfl;exact rfl;exact rfl;exact rfl;exact rfl;decide;exact rfl)
    | (apply TO.eq_nil_ptr tabOk;exact rfl;exact rfl;exact rfl;exact rfl;exact rfl)
    | (apply TO.eq_nil_nil tabOk;exact rfl;exact rfl;exact rfl;exact rfl)
    | (apply TO.ne_nil_ptr tabOk;exact rfl;exact rfl;exact rfl;exact rfl;exact rfl)
    | (apply TO.ne_nil_nil tabOk;exact rfl;exact rfl;exact rfl;exact rfl)
    | (apply TO.ssl2 tabOk;exact rfl;exact rfl;exact rfl;exact rfl;exact rfl;exact rfl;exact rfl;exact rfl;exact rfl;omega;omega)
    | (apply TO.ssl_lo tabOk;exact rfl;exact rfl;exact rfl;exact rfl;exact rfl;exact rfl;exact rfl;exact rfl;omega)
    | (apply TO.ssl_hi tabOk;exact rfl;exact rfl;exact rfl;exact rfl;exact rfl;exact rfl;exact rfl;exact rfl;omega))
   ·refine RetK.pure rfl ?_ rfl
    rw[if_pos hc]at he
    rw[<-he]
    exact Le.tup ⟨Le.nil 3,Le.refl _,Le.refl _,trivial⟩
   ·obtain⟨hL1,hL2⟩:=hL hc
    rw[if_neg (by rw[show(ea != 0)=false from hc];simp)]at he
    refine LoopK.cut 2 (n,j+na,out++[(ka,xa,(j:Int))]) ⟨by simp only;omega,by simp only;omega,by simp only[List.length_append,List.length_cons,List.length_nil];omega,he⟩ (Nat.lt_succ_self n) ⟨rfl,rfl,?_,trivial⟩ rfl rfl ?_ rfl rfl
    ·simp only[List.map_append];rfl
    ·simp only[List.map_append,List.length_append];rfl
  ·repeat' (first
    | (apply TO.move;exact rfl;exact rfl)
    | (apply TO.assign;exact rfl;exact rfl)
    | (apply TO.want;exact rfl)
    | (apply TO.add;exact rfl;exact rfl;exact rfl;omega;omega)
    | (apply TO.cat;exact rfl;exact rfl;exact rfl;(first|omega|(simp only[List.length_append,List.length_cons,List.length_nil];omega)))
    | (apply TO.eqs;exact rfl;exact rfl;exact rfl)
    | (apply TO.nes;exact rfl;exact rfl;exact rfl)
    | (apply TO.cmp;exact rfl;exact rfl;exact rfl;exact rfl)
    | (intro hc;exact absurd hc (by decide))
    | (intro hc;exfalso;simp only[decide_eq_true_eq,decide_eq_false_iff_not,beq_iff_eq,beq_eq_false_iff_ne,bne_iff_ne,bne_eq_false_iff_eq,ne_eq,Decidable.not_not,not_true_eq_false]at hc;done)
    | (intro hc;exfalso;(first|simp only[decide_eq_true_eq,decide_eq_false_iff_not,beq_iff_eq,beq_eq_false_iff_ne,bne_iff_ne,bne_eq_false_iff_eq,ne_eq,Decidable.not_not,not_true_eq_false]at hc|skip);first|omega|(simp only[List.length_nil,List.length_cons]at *;omega))
    | intro hc
    | (apply TO.pick;exact rfl;exact rfl;exact rfl)
    | (apply TO.pass;exact rfl;exact rfl)
    | (apply TO.pass0;exact rfl)
    | (apply TO.load tabOk;exact rfl;exact rfl;exact rfl;exact rfl;exact rfl)
    | (apply TO.load_ref tabOk;exact rfl;exact rfl;exact rfl;exact rfl;exact rfl;exact rfl)
    | (apply TO.fieldAddr tabOk;exact rfl;exact rfl;exact rfl;exact rfl;exact rfl;decide;exact rfl)
    | (apply TO.fieldAddr_ref tabOk;exact rfl;exact rfl;exact rfl;exact rfl;exact rfl;decide;exact rfl)
    | (apply TO.nilCheck;exact rfl;exact rfl;exact rfl)
    | (apply TO.index_nat tabOk;exact rfl;exact rfl;exact rfl;exact rfl;exact rfl;assumption)
    | (apply TO.index_str tabOk;exact rfl;exact rfl;exact rfl;exact rfl;exact rfl;decide;exact rfl)
    | (apply TO.len_str tabOk;exact rfl;exact rfl;exact rfl;exact rfl)
    | (apply TO.len_sl tabOk;exact rfl;exact rfl;exact rfl;exact rfl;exact rfl;exact rfl;exact rfl)
    | (apply TO.elem_nat tabOk;exact rfl;exact rfl;exact rfl;exact rfl;exact rfl;exact rfl;exact rfl;exact rfl;assumption;exact rfl)
    | (apply TO.extract;exact rfl;exact rfl;exact rfl)
    | (apply TO.call1 [0] (v':=.tup []) (H':=[.cells [.s s,.i (j:Int)],.tail (out.map tokT).length]) (hS);exact rfl;exact rfl;exact rfl;(first|exact⟨Le.refl _,trivial⟩|exact⟨Le.refl _,Le.refl _,trivial⟩|exact⟨Le.refl _,Le.refl _,Le.refl _,trivial⟩);exact rfl;exact Hands.one rfl rfl;exact rfl;exact rfl)
    | refine TO.nil ?_
    | refine TR.seq ?_
    | refine TR.region ?_
    | (apply TR.condT;exact rfl)
    | (apply TR.condF;exact rfl)
    | refine Then.normal ?_
    | refine TR.block ?_
    | refine TR.skip ?_
    | (apply TR.regionQ hmix;kernel_rfl;exact rfl)
    | refine TR.exit ?_
    | refine TR.ret ?_
    | refine Then.exit ?_
    | refine Then.ret ?_
    | refine LoopK.exit ?_
    | refine LoopK.ret ?_
    | refine InBlock.normal ?_
    | refine InBlock.ret ?_
    | (apply InBlock.same;exact rfl)
    | (apply InBlock.other;exact rfl)
    | (apply TO.sub64;exact rfl;exact rfl;exact rfl;omega;omega)
    | (apply TO.mul64;exact rfl;exact rfl;exact rfl;omega;omega)
    | (apply TO.convert_u8;exact rfl;kernel_rfl;kernel_rfl;exact rfl)
    | (apply TO.bin;exact rfl;exact rfl;exact rfl;exact rfl)
    | (apply TO.slice2 tabOk;exact rfl;exact rfl;exact rfl;exact rfl;exact rfl;exact rfl;omega;omega)
    | (apply TO.slice_lo tabOk;exact rfl;exact rfl;exact rfl;exact rfl;exact rfl;omega)
    | (apply TO.slice_hi tabOk;exact rfl;exact rfl;exact rfl;exact rfl;exact rfl;omega)
    | (apply TO.not;exact rfl;exact rfl)
    | (apply TO.nilCheck_fn;exact rfl;exact rfl)
    | (apply TO.load_agg tabOk;exact rfl;exact rfl;exact rfl;exact rfl;exact Nat.le_of_ble_eq_true rfl)
    | (apply TO.load_ref_agg tabOk;exact rfl;exact rfl;exact rfl;exact rfl;exact rfl;exact Nat.le_of_ble_eq_true rfl)
    | (apply TO.len_ms tabOk;exact rfl;exact rfl;exact rfl;exact rfl)
    | (apply TO.buildT tabOk;exact rfl;exact rfl;exact rfl;exact rfl;exact rfl;exact rfl;exact rfl)
    | (apply TO.build tabOk;exact rfl;exact rfl;exact rfl;exact rfl;exact rfl;exact rfl)
    | (apply TO.box;exact rfl;exact rfl;exact rfl;exact rfl)
    | (apply TO.alloc tabOk;exact rfl;exact rfl;exact rfl)
    | (apply TO.store tabOk;exact rfl;exact rfl;exact rfl;exact rfl;exact rfl;exact rfl;exact Nat.le_of_ble_eq_true rfl;exact rfl;exact Nat.le_of_ble_eq_true rfl;exact rfl)
    | (apply TO.buildSliceB tabOk;exact rfl;exact rfl;exact rfl;exact rfl;exact rfl;exact rfl;exact rfl;exact rfl;exact rfl;exact rfl)
    | (apply TO.appendB tabOk;exact rfl;exact rfl;exact rfl;exact rfl;exact rfl;exact rfl;exact rfl;exact rfl;exact rfl;exact rfl;exact rfl;exact rfl;exact rfl;(first|omega|(simp only[List.length_append,List.length_cons,List.length_nil];omega));exact rfl)
    | (apply TO.eqb;exact rfl;exact rfl;exact rfl;kernel_rfl)
    | (apply TO.neb;exact rfl;exact rfl;exact rfl;kernel_rfl)
    | (apply TO.elem_nat (j:=0) tabOk;exact rfl;exact rfl;exact rfl;exact rfl;exact rfl;exact rfl;exact rfl;exact rfl;exact rfl;exact rfl)
    | (apply TO.makeFunc;exact rfl;exact rfl)
    | (apply TO.fieldAddr_tref tabOk;exact rfl;exact rfl;exact rfl;exact rfl;exact rfl;decide;exact rfl)
    | (apply TO.eq_nil_ptr tabOk;exact rfl;exact rfl;exact rfl;exact rfl;exact rfl)
    | (apply TO.eq_nil_nil tabOk;exact rfl;exact rfl;exact rfl;exact rfl)
    | (apply TO.ne_nil_ptr tabOk;exact rfl;exact rfl;exact rfl;exact rfl;exact rfl)
    | (apply TO.ne_nil_nil tabOk;exact rfl;exact rfl;exact rfl;exact rfl)
    | (apply TO.ssl2 tabOk;exact rfl;exact rfl;exact rfl;exact rfl;exact rfl;exact rfl;exact rfl;exact rfl;exact rfl;omega;omega)
    | (apply TO.ssl_lo tabOk;exact rfl;exact rfl;exact rfl;exact rfl;exact rfl;exact rfl;exact rfl;exact rfl;omega)
    | (apply TO.ssl_hi tabOk;exact rfl;exact rfl;exact rfl;exact rfl;exact rfl;exact rfl;exact rfl;exact rfl;omega))
   have hje:j=s.length:=by omega
   rw[if_pos hje]at he
   refine RetK.pure rfl ?_ rfl
   rw[<-he]
   exact Le.tup ⟨Le.own 3 _ 1,Le.refl _,Le.refl _,trivial⟩
end Go.Proofs.YtlfdkafebmdoiaaGreat
