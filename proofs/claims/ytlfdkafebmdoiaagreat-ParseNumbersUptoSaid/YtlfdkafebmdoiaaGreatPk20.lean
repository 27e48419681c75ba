import Derived.Test.YtlfdkafebmdoiaaGreatPk19
set_option linter.unusedSimpArgs false
set_option linter.unusedVariables false
namespace Go.Proofs.YtlfdkafebmdoiaaGreat
open Go Go.TL
attribute [local irreducible] TR TO Then InBlock RetK Sound LoopK Kf GG ThenL
def headIs(n:Int):Str->Bool
 | c::_=>(c.toNat:Int) == n
 | []=>false
theorem headIs_drop{n:Int}{s:Str}{k:Nat}(h:k<s.length):headIs n (s.drop k)=((s[k].toNat:Int) == n):=by
 rw[List.drop_eq_getElem_cons h];rfl
def wordTok(w q:Str):Int×Str×Int:=if headIs 39 q then(5,w,0) else(0,[],5)
def wordLen(w q:Str):Nat:=if headIs 39 q then w.length+2 else w.length+1
theorem word_yes{w q:Str}{i:Nat}(h:headIs 39 q=true):wordTok w q=(5,w,0)/\i+wordLen w q=i+1+w.length+1:=by
 simp only[wordTok,wordLen,h,if_true];exact⟨trivial,by omega⟩
theorem word_no{w q:Str}{i:Nat}(h:headIs 39 q=false):wordTok w q=(0,[],5)/\i+wordLen w q=i+1+w.length:=by
 simp only[wordTok,wordLen,h];exact⟨rfl,by simp;omega⟩
set_option maxHeartbeats 1000000 in
theorem word_sound (s:Str) (hs:s.length≤1000000) (i:Nat) (hi:i<s.length):
  Sound Tryz.prog 64 [.ref 0 0] (scanner s i) (fun r H'=>r= .ret (tokR (wordTok (spanOf wordByte (s.drop (i+1))) (behind wordByte (s.drop (i+1)))))/\H'=scanner s (i+wordLen (spanOf wordByte (s.drop (i+1))) (behind wordByte (s.drop (i+1))))):=by
 refine so Tryz.func64 ?_
 have hS1:=span_sound 88 wordByte word1_sound s hs (i+1) hi
 have hl:=span_le wordByte s (i+1) hi
 rw[<-behind_drop wordByte s (i+1)]
 generalize spanOf wordByte (s.drop (i+1))=a at hS1 hl⊢
 by_cases he:i+1+a.length<s.length
 ·have hx:=List.getElem?_eq_getElem he
  have hh:=headIs_drop (n:=39) he
  generalize s[i+1+a.length]=c at hx hh
  repeat' (first
   | (apply TO.move;exact rfl;exact rfl)
   | (apply TO.assign;exact rfl;exact rfl)
   | (apply TO.want;exact rfl)
   | (apply TO.add;exact rfl;exact rfl;exact rfl;omega;omega)
   | (apply TO.cat;exact rfl;exact rfl;exact rfl;(first|omega|(simp only[List.length_append,List.length_cons,List.length_nil];omega)))
   | (apply TO.eqs;exact rfl;exact rfl;exact rfl)
   | (apply TO.nes;exact rfl;exact rfl;exact rfl)
   | (apply TO.cmp;exact rfl;exact rfl;exact rfl;exact rfl)
   | (intro hc;exact absurd hc (by decide))
   | (intro hc;exfalso;simp only[decide_eq_true_eq,decide_eq_false_iff_not,beq_iff_eq,beq_eq_false_iff_ne,bne_iff_ne,bne_eq_false_iff_eq,ne_eq,Decidable.not_not,not_true_eq_false]at hc;done)
   | (intro hc;exfalso;(first|simp only[decide_eq_true_eq,decide_eq_false_iff_not,beq_iff_eq,beq_eq_false_iff_ne,bne_iff_ne,bne_eq_false_iff_eq,ne_eq,Decidable.not_not,not_true_eq_false]at hc|skip);first|omega|(simp only[List.length_nil,List.length_cons]at *;omega))
   | intro hc
   | (apply TO.pick;exact rfl;exact rfl;exact rfl)
   | (apply TO.pass;exact rfl;exact rfl)
   | (apply TO.pass0;exact rfl)
   | (apply TO.load tabOk;exact rfl;exact rfl;exact rfl;exact rfl;exact rfl)
   | (apply TO.load_ref tabOk;exact rfl;exact rfl;exact rfl;exact rfl;exact rfl;exact rfl)
   | (apply TO.fieldAddr tabOk;exact rfl;exact rfl;exact rfl;exact rfl;exact rfl;decide;exact rfl)
   | (apply TO.fieldAddr_ref tabOk;exact rfl;exact rfl;exact rfl;exact rfl;exact rfl;decide;exact rfl)
   | (apply TO.nilCheck;exact rfl;exact rfl;exact rfl)
   | (apply TO.index_nat tabOk;exact rfl;exact rfl;exact rfl;exact rfl;exact rfl;assumption)
   | (apply TO.index_str tabOk;exact rfl;exact rfl;exact rfl;exact rfl;exact rfl;decide;exact rfl)
   | (apply TO.len_str tabOk;exact rfl;exact rfl;exact rfl;exact rfl)
   | (apply TO.len_sl tabOk;exact rfl;exact rfl;exact rfl;exact rfl;exact rfl;exact rfl;exact rfl)
   | (apply TO.elem_nat tabOk;exact rfl;exact rfl;exact rfl;exact rfl;exact rfl;exact rfl;exact rfl;exact rfl;assumption;exact rfl)
   | (apply TO.extract;exact rfl;exact rfl;exact rfl)
   | (apply TO.call1 [0] (v':=.s a) (H':=[.cells [.s s,.i ((i+1+a.length:Nat):Int)],.cells [.i 0,.s [],.i 0]]) (hS1);exact rfl;exact rfl;exact rfl;(first|exact⟨Le.refl _,trivial⟩|exact⟨Le.refl _,Le.refl _,trivial⟩|exact⟨Le.refl _,Le.refl _,Le.refl _,trivial⟩);exact rfl;exact Hands.one rfl rfl;exact rfl;exact rfl)
   | refine TO.nil ?_
   | refine TR.seq ?_
   | refine TR.region ?_
   | (apply TR.condT;exact rfl)
   | (apply TR.condF;exact rfl)
   | refine Then.normal ?_
   | refine TR.block ?_
   | refine TR.skip ?_
   | (apply TR.regionQ hmix;kernel_rfl;exact rfl)
   | refine TR.exit ?_
   | refine TR.ret ?_
   | refine Then.exit ?_
   | refine Then.ret ?_
   | refine LoopK.exit ?_
   | refine LoopK.ret ?_
   | refine InBlock.normal ?_
   | refine InBlock.ret ?_
   | (apply InBlock.same;exact rfl)
   | (apply InBlock.other;exact rfl)
   | (apply TO.sub64;exact rfl;exact rfl;exact rfl;omega;omega)
   | (apply TO.mul64;exact rfl;exact rfl;exact rfl;omega;omega)
   | (apply TO.convert_u8;exact rfl;kernel_rfl;kernel_rfl;exact rfl)
   | (apply TO.bin;exact rfl;exact rfl;exact rfl;exact rfl)
   | (apply TO.slice2 tabOk;exact rfl;exact rfl;exact rfl;exact rfl;exact rfl;exact rfl;omega;omega)
   | (apply TO.slice_lo tabOk;exact rfl;exact rfl;exact rfl;exact rfl;exact rfl;omega)
   | (apply TO.slice_hi tabOk;exact rfl;exact rfl;exact rfl;exact rfl;exact rfl;omega)
   | (apply TO.not;exact rfl;exact rfl)
   | (apply TO.nilCheck_fn;exact rfl;exact rfl)
   | (apply TO.load_agg tabOk;exact rfl;exact rfl;exact rfl;exact rfl;exact Nat.le_of_ble_eq_true rfl)
   | (apply TO.load_ref_agg tabOk;exact rfl;exact rfl;exact rfl;exact rfl;exact rfl;exact Nat.le_of_ble_eq_true rfl)
   | (apply TO.len_ms tabOk;exact rfl;exact rfl;exact rfl;exact rfl)
   | (apply TO.buildT tabOk;exact rfl;exact rfl;exact rfl;exact rfl;exact rfl;exact rfl;exact rfl)
   | (apply TO.build tabOk;exact rfl;exact rfl;exact rfl;exact rfl;exact rfl;exact rfl)
   | (apply TO.box;exact rfl;exact rfl;exact rfl;exact rfl)
   | (apply TO.alloc tabOk;exact rfl;exact rfl;exact rfl)
   | (apply TO.store tabOk;exact rfl;exact rfl;exact rfl;exact rfl;exact rfl;exact rfl;exact Nat.le_of_ble_eq_true rfl;exact rfl;exact Nat.le_of_ble_eq_true rfl;exact rfl)
   | (apply TO.buildSliceB tabOk;exact rfl;exact rfl;exact rfl;exact rfl;exact rfl;exact rfl;exact rfl;exact rfl;exact rfl;exact rfl)
   | (apply TO.appendB tabOk;exact rfl;exact rfl;exact rfl;exact rfl;exact rfl;exact rfl;exact rfl;exact rfl;exact rfl;exact rfl;exact rfl;exact rfl;exact rfl;(first|omega|(simp only[List.length_append,List.length_cons,List.length_nil];omega));exact rfl)
   | (apply TO.eqb;exact rfl;exact rfl;exact rfl;kernel_rfl)
   | (apply TO.neb;exact rfl;exact rfl;exact rfl;kernel_rfl)
   | (apply TO.elem_nat (j:=0) tabOk;exact rfl;exact rfl;exact rfl;exact rfl;exact rfl;exact rfl;exact rfl;exact rfl;exact rfl;exact rfl)
   | (apply TO.makeFunc;exact rfl;exact rfl)
   | (apply TO.fieldAddr_tref tabOk;exact rfl;exact rfl;exact rfl;exact rfl;exact rfl;decide;exact rfl)
   | (apply TO.eq_nil_ptr tabOk;exact rfl;exact rfl;exact rfl;exact rfl;exact rfl)
   | (apply TO.eq_nil_nil tabOk;exact rfl;exact rfl;exact rfl;exact rfl)
   | (apply TO.ne_nil_ptr tabOk;exact rfl;exact rfl;exact rfl;exact rfl;exact rfl)
   | (apply TO.ne_nil_nil tabOk;exact rfl;exact rfl;exact rfl;exact rfl)
   | (apply TO.ssl2 tabOk;exact rfl;exact rfl;exact rfl;exact rfl;exact rfl;exact rfl;exact rfl;exact rfl;exact rfl;omega;omega)
   | (apply TO.ssl_lo tabOk;exact rfl;exact rfl;exact rfl;exact rfl;exact rfl;exact rfl;exact rfl;exact rfl;omega)
   | (apply TO.ssl_hi tabOk;exact rfl;exact rfl;exact rfl;exact rfl;exact rfl;exact rfl;exact rfl;exact rfl;omega))
  ·obtain⟨e1,e2⟩:=word_no (w:=a) (i:=i) (hh.trans (by simpa using hc))
   rw[e1,e2]
   exact RetK.keep 1 rfl (Le.refl _) rfl rfl rfl rfl rfl ⟨rfl,rfl⟩
  ·obtain⟨e1,e2⟩:=word_yes (w:=a) (i:=i) (hh.trans (by simpa using hc))
   rw[e1,e2]
   exact RetK.keep 1 rfl (Le.refl _) rfl rfl rfl rfl rfl ⟨rfl,rfl⟩
 ·have hh:headIs 39 (s.drop (i+1+a.length))=false:=by rw[List.drop_eq_nil_of_le (by omega)];rfl
  repeat' (first
   | (apply TO.move;exact rfl;exact rfl)
   | (apply TO.assign;exact rfl;exact rfl)
   | (apply TO.want;exact rfl)
   | (apply TO.add;exact rfl;exact rfl;exact rfl;omega;omega)
   | (apply TO.cat;exact rfl;exact rfl;exact rfl;(first|omega|(simp only[List.length_append,List.length_cons,List.length_nil];omega)))
   | (apply TO.eqs;exact rfl;exact rfl;exact rfl)
   | (apply TO.nes;exact rfl;exact rfl;exact rfl)
   | (apply TO.cmp;exact rfl;exact rfl;exact rfl;exact rfl)
   | (intro hc;exact absurd hc (by decide))
   | (intro hc;exfalso;simp only[decide_eq_true_eq,decide_eq_false_iff_not,beq_iff_eq,beq_eq_false_iff_ne,bne_iff_ne,bne_eq_false_iff_eq,ne_eq,Decidable.not_not,not_true_eq_false]at hc;done)
   | (intro hc;exfalso;(first|simp only[decide_eq_true_eq,decide_eq_false_iff_not,beq_iff_eq,beq_eq_false_iff_ne,bne_iff_ne,bne_eq_false_iff_eq,ne_eq,Decidable.not_not,not_true_eq_false]at hc|skip);first|omega|(simp only[List.length_nil,List.length_cons]at *;omega))
   | intro hc
   | (apply TO.pick;exact rfl;exact rfl;exact rfl)
   | (apply TO.pass;exact rfl;exact rfl)
   | (apply TO.pass0;exact rfl)
   | (apply TO.load tabOk;exact rfl;exact rfl;exact rfl;exact rfl;exact rfl)
   | (apply TO.load_ref tabOk;exact rfl;exact rfl;exact rfl;exact rfl;exact rfl;exact rfl)
   | (apply TO.fieldAddr tabOk;exact rfl;exact rfl;exact rfl;exact rfl;exact rfl;decide;exact rfl)
   | (apply TO.fieldAddr_ref tabOk;exact rfl;exact rfl;exact rfl;exact rfl;exact rfl;decide;exact rfl)
   | (apply TO.nilCheck;exact rfl;exact rfl;exact rfl)
   | (apply TO.index_nat tabOk;exact rfl;exact rfl;exact rfl;exact rfl;exact rfl;assumption)
   | (apply TO.index_str tabOk;exact rfl;exact rfl;exact rfl;exact rfl;exact rfl;decide;exact rfl)
   | (apply TO.len_str tabOk;exact rfl;exact rfl;exact rfl;exact rfl)
   | (apply TO.len_sl tabOk;exact rfl;exact rfl;exact rfl;exact rfl;exact rfl;exact rfl;exact rfl)
   | (apply TO.elem_nat tabOk;exact rfl;exact rfl;exact rfl;exact rfl;exact rfl;exact rfl;exact rfl;exact rfl;assumption;exact rfl)
   | (apply TO.extract;exact rfl;exact rfl;exact rfl)
   | (apply TO.call1 [0] (v':=.s a) (H':=[.cells [.s s,.i ((i+1+a.length:Nat):Int)],.cells [.i 0,.s [],.i 0]]) (hS1);exact rfl;exact rfl;exact rfl;(first|exact⟨Le.refl _,trivial⟩|exact⟨Le.refl _,Le.refl _,trivial⟩|exact⟨Le.refl _,Le.refl _,Le.refl _,trivial⟩);exact rfl;exact Hands.one rfl rfl;exact rfl;exact rfl)
   | refine TO.nil ?_
   | refine TR.seq ?_
   | refine TR.region ?_
   | (apply TR.condT;exact rfl)
   | (apply TR.condF;exact rfl)
   | refine Then.normal ?_
   | refine TR.block ?_
   | refine TR.skip ?_
   | (apply TR.regionQ hmix;kernel_rfl;exact rfl)
   | refine TR.exit ?_
   | refine TR.ret ?_
   | refine Then.exit ?_
   | refine Then.ret ?_
   | refine LoopK.exit ?_
   | refine LoopK.ret ?_
   | refine InBlock.normal ?_
   | refine InBlock.ret ?_
   | (apply InBlock.same;exact rfl)
   | (apply InBlock.other;exact rfl)
   | (apply TO.sub64;exact rfl;exact rfl;exact rfl;omega;omega)
   | (apply TO.mul64;exact rfl;exact rfl;exact rfl;omega;omega)
   | (apply TO.convert_u8;exact rfl;kernel_rfl;kernel_rfl;exact rfl)
   | (apply TO.bin;exact rfl;exact rfl;exact rfl;exact rfl)
   | (apply TO.slice2 tabOk;exact rfl;exact rfl;exact rfl;exact rfl;exact rfl;exact rfl;omega;omega)
   | (apply TO.slice_lo tabOk;exact rfl;exact rfl;exact rfl;exact rfl;exact rfl;omega)
   | (apply TO.slice_hi tabOk;exact rfl;exact rfl;exact rfl;exact rfl;exact rfl;omega)
   | (apply TO.not;exact rfl;exact rfl)
   | (apply TO.nilCheck_fn;exact rfl;exact rfl)
   | (apply TO.load_agg tabOk;exact rfl;exact rfl;exact rfl;exact rfl;exact Nat.le_of_ble_eq_true rfl)
   | (apply TO.load_ref_agg tabOk;exact rfl;exact rfl;exact rfl;exact rfl;exact rfl;exact Nat.le_of_ble_eq_true rfl)
   | (apply TO.len_ms tabOk;exact rfl;exact rfl;exact rfl;exact rfl)
   | (apply TO.buildT tabOk;exact rfl;exact rfl;exact rfl;exact rfl;exact rfl;exact rfl;exact rfl)
   | (apply TO.build tabOk;exact rfl;exact rfl;exact rfl;exact rfl;exact rfl;exact rfl)
   | (apply TO.box;exact rfl;exact rfl;exact rfl;exact rfl)
   | (apply TO.alloc tabOk;exact rfl;exact rfl;exact rfl)
   | (apply TO.store tabOk;exact rfl;exact rfl;exact rfl;exact rfl;exact rfl;exact rfl;exact Nat.le_of_ble_eq_true rfl;exact rfl;exact Nat.le_of_ble_eq_true rfl;exact rfl)
   | (apply TO.buildSliceB tabOk;exact rfl;exact rfl;exact rfl;exact rfl;exact rfl;exact rfl;exact rfl;exact rfl;exact rfl;exact rfl)
   | (apply TO.appendB tabOk;exact rfl;exact rfl;exact rfl;exact rfl;exact rfl;exact rfl;exact rfl;exact rfl;exact rfl;exact rfl;exact rfl;exact rfl;exact rfl;(first|omega|(simp only[List.length_append,List.length_cons,List.length_nil];omega));exact rfl)
   | (apply TO.eqb;exact rfl;exact rfl;exact rfl;kernel_rfl)
   | (apply TO.neb;exact rfl;exact rfl;exact rfl;kernel_rfl)
   | (apply TO.elem_nat (j:=0) tabOk;exact rfl;exact rfl;exact rfl;exact rfl;exact rfl;exact rfl;exact rfl;exact rfl;exact rfl;exact rfl)
   | (apply TO.makeFunc;exact rfl;exact rfl)
   | (apply TO.fieldAddr_tref tabOk;exact rfl;exact rfl;exact rfl;exact rfl;exact rfl;decide;exact rfl)
   | (apply TO.eq_nil_ptr tabOk;exact rfl;exact rfl;exact rfl;exact rfl;exact rfl)
   | (apply TO.eq_nil_nil tabOk;exact rfl;exact rfl;exact rfl;exact rfl)
   | (apply TO.ne_nil_ptr tabOk;exact rfl;exact rfl;exact rfl;exact rfl;exact rfl)
   | (apply TO.ne_nil_nil tabOk;exact rfl;exact rfl;exact rfl;exact rfl)
   | (apply TO.ssl2 tabOk;exact rfl;exact rfl;exact rfl;exact rfl;exact rfl;exact rfl;exact rfl;exact rfl;exact rfl;omega;omega)
   | (apply TO.ssl_lo tabOk;exact rfl;exact rfl;exact rfl;exact rfl;exact rfl;exact rfl;exact rfl;exact rfl;omega)
   | (apply TO.ssl_hi tabOk;exact rfl;exact rfl;exact rfl;exact rfl;exact rfl;exact rfl;exact rfl;exact rfl;omega))
  obtain⟨e1,e2⟩:=word_no (w:=a) (i:=i) hh
  rw[e1,e2]
  exact RetK.keep 1 rfl (Le.refl _) rfl rfl rfl rfl rfl ⟨rfl,rfl⟩
def best1(l b x:Str):Str:=if decide ((b.length:Int)<x.length) && hasPre l x then x else b
def best(l:Str)(all:List Str):Str:=all.foldl (best1 l) []
theorem best_le(l:Str)(all:List Str):∀b:Str,b.length≤l.length->(all.foldl (best1 l) b).length≤l.length:=by
 induction all with
 | nil=>exact fun b h=>h
 | cons x all ih=>
   refine fun b h=>ih _ ?_
   unfold best1;split
   ·rename_i g
    simp only[Bool.and_eq_true,hasPre,decide_eq_true_eq]at g
    exact g.2.1
   ·exact h
def symTok(b:Str):Int×Str×Int:=if b == [] then(0,[],5) else(4,b,0)
set_option maxHeartbeats 1000000 in
theorem symbol_sound (all:List Str) (hall:all.length≤1000000) (s:Str) (hs:s.length≤1000000) (i:Nat) (hi:i≤s.length):
  Sound Tryz.prog 65 [.ref 0 0,.t (.sl 1 (all.map T.s))] (scanner s i) (fun r H'=>r= .ret (tokR (symTok (best (s.drop i) all)))/\H'=scanner s (i+(best (s.drop i) all).length)):=by
 refine so Tryz.func65 ?_
 repeat' (first
  | (apply TO.move;exact rfl;exact rfl)
  | (apply TO.assign;exact rfl;exact rfl)
  | (apply TO.want;exact rfl)
  | (apply TO.add;exact rfl;exact rfl;exact rfl;omega;omega)
  | (apply TO.cat;exact rfl;exact rfl;exact rfl;(first|omega|(simp only[List.length_append,List.length_cons,List.length_nil];omega)))
  | (apply TO.eqs;exact rfl;exact rfl;exact rfl)
  | (apply TO.nes;exact rfl;exact rfl;exact rfl)
  | (apply TO.cmp;exact rfl;exact rfl;exact rfl;exact rfl)
  | (intro hc;exact absurd hc (by decide))
  | (intro hc;exfalso;simp only[decide_eq_true_eq,decide_eq_false_iff_not,beq_iff_eq,beq_eq_false_iff_ne,bne_iff_ne,bne_eq_false_iff_eq,ne_eq,Decidable.not_not,not_true_eq_false]at hc;done)
  | (intro hc;exfalso;(first|simp only[decide_eq_true_eq,decide_eq_false_iff_not,beq_iff_eq,beq_eq_false_iff_ne,bne_iff_ne,bne_eq_false_iff_eq,ne_eq,Decidable.not_not,not_true_eq_false]at hc|skip);first|omega|(simp only[List.length_nil,List.length_cons]at *;omega))
  | intro hc
  | (apply TO.pick;exact rfl;exact rfl;exact rfl)
  | (apply TO.pass;exact rfl;exact rfl)
  | (apply TO.pass0;exact rfl)
  | (apply TO.load tabOk;exact rfl;exact rfl;exact rfl;exact rfl;exact rfl)
  | (apply TO.load_ref tabOk;exact rfl;exact rfl;exact rfl;exact rfl;exact rfl;exact rfl)
  | (apply TO.fieldAddr tabOk;exact rfl;exact rfl;exact rfl;exact rfl;exact rfl;decide;exact rfl)
  | (apply TO.fieldAddr_ref tabOk;exact rfl;exact rfl;exact rfl;exact rfl;exact rfl;decide;exact rfl)
  | (apply TO.nilCheck;exact rfl;exact rfl;exact rfl)
  | (apply TO.index_nat tabOk;exact rfl;exact rfl;exact rfl;exact rfl;exact rfl;assumption)
  | (apply TO.index_str tabOk;exact rfl;exact rfl;exact rfl;exact rfl;exact rfl;decide;exact rfl)
  | (apply TO.len_str tabOk;exact rfl;exact rfl;exact rfl;exact rfl)
  | (apply TO.len_sl tabOk;exact rfl;exact rfl;exact rfl;exact rfl;exact rfl;exact rfl;exact rfl)
  | (apply TO.elem_nat tabOk;exact rfl;exact rfl;exact rfl;exact rfl;exact rfl;exact rfl;exact rfl;exact rfl;assumption;exact rfl)
  | (apply TO.extract;exact rfl;exact rfl;exact rfl)
  | refine TO.nil ?_
  | refine TR.seq ?_
  | refine TR.region ?_
  | (apply TR.condT;exact rfl)
  | (apply TR.condF;exact rfl)
  | refine Then.normal ?_
  | refine TR.block ?_
  | refine TR.skip ?_
  | (apply TR.regionQ hmix;kernel_rfl;exact rfl)
  | refine TR.exit ?_
  | refine TR.ret ?_
  | refine Then.exit ?_
  | refine Then.ret ?_
  | refine LoopK.exit ?_
  | refine LoopK.ret ?_
  | refine InBlock.normal ?_
  | refine InBlock.ret ?_
  | (apply InBlock.same;exact rfl)
  | (apply InBlock.other;exact rfl)
  | (apply TO.sub64;exact rfl;exact rfl;exact rfl;omega;omega)
  | (apply TO.mul64;exact rfl;exact rfl;exact rfl;omega;omega)
  | (apply TO.convert_u8;exact rfl;kernel_rfl;kernel_rfl;exact rfl)
  | (apply TO.bin;exact rfl;exact rfl;exact rfl;exact rfl)
  | (apply TO.slice2 tabOk;exact rfl;exact rfl;exact rfl;exact rfl;exact rfl;exact rfl;omega;omega)
  | (apply TO.slice_lo tabOk;exact rfl;exact rfl;exact rfl;exact rfl;exact rfl;omega)
  | (apply TO.slice_hi tabOk;exact rfl;exact rfl;exact rfl;exact rfl;exact rfl;omega)
  | (apply TO.not;exact rfl;exact rfl)
  | (apply TO.nilCheck_fn;exact rfl;exact rfl)
  | (apply TO.load_agg tabOk;exact rfl;exact rfl;exact rfl;exact rfl;exact Nat.le_of_ble_eq_true rfl)
  | (apply TO.load_ref_agg tabOk;exact rfl;exact rfl;exact rfl;exact rfl;exact rfl;exact Nat.le_of_ble_eq_true rfl)
  | (apply TO.len_ms tabOk;exact rfl;exact rfl;exact rfl;exact rfl)
  | (apply TO.buildT tabOk;exact rfl;exact rfl;exact rfl;exact rfl;exact rfl;exact rfl;exact rfl)
  | (apply TO.build tabOk;exact rfl;exact rfl;exact rfl;exact rfl;exact rfl;exact rfl)
  | (apply TO.box;exact rfl;exact rfl;exact rfl;exact rfl)
  | (apply TO.alloc tabOk;exact rfl;exact rfl;exact rfl)
  | (apply TO.store tabOk;exact rfl;exact rfl;exact rfl;exact rfl;exact rfl;exact rfl;exact Nat.le_of_ble_eq_true rfl;exact rfl;exact Nat.le_of_ble_eq_true rfl;exact rfl)
  | (apply TO.buildSliceB tabOk;exact rfl;exact rfl;exact rfl;exact rfl;exact rfl;exact rfl;exact rfl;exact rfl;exact rfl;exact rfl)
  | (apply TO.appendB tabOk;exact rfl;exact rfl;exact rfl;exact rfl;exact rfl;exact rfl;exact rfl;exact rfl;exact rfl;exact rfl;exact rfl;exact rfl;exact rfl;(first|omega|(simp only[List.length_append,List.length_cons,List.length_nil];omega));exact rfl)
  | (apply TO.eqb;exact rfl;exact rfl;exact rfl;kernel_rfl)
  | (apply TO.neb;exact rfl;exact rfl;exact rfl;kernel_rfl)
  | (apply TO.elem_nat (j:=0) tabOk;exact rfl;exact rfl;exact rfl;exact rfl;exact rfl;exact rfl;exact rfl;exact rfl;exact rfl;exact rfl)
  | (apply TO.makeFunc;exact rfl;exact rfl)
  | (apply TO.fieldAddr_tref tabOk;exact rfl;exact rfl;exact rfl;exact rfl;exact rfl;decide;exact rfl)
  | (apply TO.eq_nil_ptr tabOk;exact rfl;exact rfl;exact rfl;exact rfl;exact rfl)
  | (apply TO.eq_nil_nil tabOk;exact rfl;exact rfl;exact rfl;exact rfl)
  | (apply TO.ne_nil_ptr tabOk;exact rfl;exact rfl;exact rfl;exact rfl;exact rfl)
  | (apply TO.ne_nil_nil tabOk;exact rfl;exact rfl;exact rfl;exact rfl)
  | (apply TO.ssl2 tabOk;exact rfl;exact rfl;exact rfl;exact rfl;exact rfl;exact rfl;exact rfl;exact rfl;exact rfl;omega;omega)
  | (apply TO.ssl_lo tabOk;exact rfl;exact rfl;exact rfl;exact rfl;exact rfl;exact rfl;exact rfl;exact rfl;omega)
  | (apply TO.ssl_hi tabOk;exact rfl;exact rfl;exact rfl;exact rfl;exact rfl;exact rfl;exact rfl;exact rfl;omega))
 refine TR.loop_ind (ι:=Nat) (fun k=>k≤all.length) (fun k=>all.length-k) (fun k=>[(0,.ref 0 0),(11,.i k),(10,.i (all.map T.s).length),(9,.t (.sl 1 (all.map T.s))),(6,.s (best (s.drop i) (all.take k))),(5,.i 0),(4,.ref 1 0)]) (fun _=>[.cells [.s s,.i i],.cells [.i 0,.s [],.i 0]]) 0 (Nat.zero_le _) ⟨rfl,rfl,rfl,rfl,rfl,rfl,rfl,trivial⟩ rfl ?_
 intro k hk
 have hml:(all.map T.s).length=all.length:=List.length_map _
 by_cases hlt:k<all.length
 ·have hx:(all.map T.s)[k]?=some (T.s all[k]):=by rw[List.getElem?_map,List.getElem?_eq_getElem hlt];rfl
  have hb:best (s.drop i) (all.take (k+1))=best1 (s.drop i) (best (s.drop i) (all.take k)) all[k]:=by
   rw[best,List.take_succ_eq_append_getElem hlt,List.foldl_append];rfl
  generalize all[k]=x at hx hb
  repeat' (first
   | (apply TO.move;exact rfl;exact rfl)
   | (apply TO.assign;exact rfl;exact rfl)
   | (apply TO.want;exact rfl)
   | (apply TO.add;exact rfl;exact rfl;exact rfl;omega;omega)
   | (apply TO.cat;exact rfl;exact rfl;exact rfl;(first|omega|(simp only[List.length_append,List.length_cons,List.length_nil];omega)))
   | (apply TO.eqs;exact rfl;exact rfl;exact rfl)
   | (apply TO.nes;exact rfl;exact rfl;exact rfl)
   | (apply TO.cmp;exact rfl;exact rfl;exact rfl;exact rfl)
   | (intro hc;exact absurd hc (by decide))
   | (intro hc;exfalso;simp only[decide_eq_true_eq,decide_eq_false_iff_not,beq_iff_eq,beq_eq_false_iff_ne,bne_iff_ne,bne_eq_false_iff_eq,ne_eq,Decidable.not_not,not_true_eq_false]at hc;done)
   | (intro hc;exfalso;(first|simp only[decide_eq_true_eq,decide_eq_false_iff_not,beq_iff_eq,beq_eq_false_iff_ne,bne_iff_ne,bne_eq_false_iff_eq,ne_eq,Decidable.not_not,not_true_eq_false]at hc|skip);first|omega|(simp only[List.length_nil,List.length_cons]at *;omega))
   | intro hc
   | (apply TO.pick;exact rfl;exact rfl;exact rfl)
   | (apply TO.pass;exact rfl;exact rfl)
   | (apply TO.pass0;exact rfl)
   | (apply TO.load tabOk;exact rfl;exact rfl;exact rfl;exact rfl;exact rfl)
   | (apply TO.load_ref tabOk;exact rfl;exact rfl;exact rfl;exact rfl;exact rfl;exact rfl)
   | (apply TO.fieldAddr tabOk;exact rfl;exact rfl;exact rfl;exact rfl;exact rfl;decide;exact rfl)
   | (apply TO.fieldAddr_ref tabOk;exact rfl;exact rfl;exact rfl;exact rfl;exact rfl;decide;exact rfl)
   | (apply TO.nilCheck;exact rfl;exact rfl;exact rfl)
   | (apply TO.index_nat tabOk;exact rfl;exact rfl;exact rfl;exact rfl;exact rfl;assumption)
   | (apply TO.index_str tabOk;exact rfl;exact rfl;exact rfl;exact rfl;exact rfl;decide;exact rfl)
   | (apply TO.len_str tabOk;exact rfl;exact rfl;exact rfl;exact rfl)
   | (apply TO.len_sl tabOk;exact rfl;exact rfl;exact rfl;exact rfl;exact rfl;exact rfl;exact rfl)
   | (apply TO.elem_nat tabOk;exact rfl;exact rfl;exact rfl;exact rfl;exact rfl;exact rfl;exact rfl;exact rfl;assumption;exact rfl)
   | (apply TO.extract;exact rfl;exact rfl;exact rfl)
   | (apply TO.callBb (hasPre_sound _ _);exact rfl;exact rfl;exact rfl;exact⟨.t _,.t _,trivial⟩)
   | refine TO.nil ?_
   | refine TR.seq ?_
   | refine TR.region ?_
   | (apply TR.condT;exact rfl)
   | (apply TR.condF;exact rfl)
   | refine Then.normal ?_
   | refine TR.block ?_
   | refine TR.skip ?_
   | (apply TR.regionQ hmix;kernel_rfl;exact rfl)
   | refine TR.exit ?_
   | refine TR.ret ?_
   | refine Then.exit ?_
   | refine Then.ret ?_
   | refine LoopK.exit ?_
   | refine LoopK.ret ?_
   | refine InBlock.normal ?_
   | refine InBlock.ret ?_
   | (apply InBlock.same;exact rfl)
   | (apply InBlock.other;exact rfl)
   | (apply TO.sub64;exact rfl;exact rfl;exact rfl;omega;omega)
   | (apply TO.mul64;exact rfl;exact rfl;exact rfl;omega;omega)
   | (apply TO.convert_u8;exact rfl;kernel_rfl;kernel_rfl;exact rfl)
   | (apply TO.bin;exact rfl;exact rfl;exact rfl;exact rfl)
   | (apply TO.slice2 tabOk;exact rfl;exact rfl;exact rfl;exact rfl;exact rfl;exact rfl;omega;omega)
   | (apply TO.slice_lo tabOk;exact rfl;exact rfl;exact rfl;exact rfl;exact rfl;omega)
   | (apply TO.slice_hi tabOk;exact rfl;exact rfl;exact rfl;exact rfl;exact rfl;omega)
   | (apply TO.not;exact rfl;exact rfl)
   | (apply TO.nilCheck_fn;exact rfl;exact rfl)
   | (apply TO.load_agg tabOk;exact rfl;exact rfl;exact rfl;exact rfl;exact Nat.le_of_ble_eq_true rfl)
   | (apply TO.load_ref_agg tabOk;exact rfl;exact rfl;exact rfl;exact rfl;exact rfl;exact Nat.le_of_ble_eq_true rfl)
   | (apply TO.len_ms tabOk;exact rfl;exact rfl;exact rfl;exact rfl)
   | (apply TO.buildT tabOk;exact rfl;exact rfl;exact rfl;exact rfl;exact rfl;exact rfl;exact rfl)
   | (apply TO.build tabOk;exact rfl;exact rfl;exact rfl;exact rfl;exact rfl;exact rfl)
   | (apply TO.box;exact rfl;exact rfl;exact rfl;exact rfl)
   | (apply TO.alloc tabOk;exact rfl;exact rfl;exact rfl)
   | (apply TO.store tabOk;exact rfl;exact rfl;exact rfl;exact rfl;exact rfl;exact rfl;exact Nat.le_of_ble_eq_true rfl;exact rfl;exact Nat.le_of_ble_eq_true rfl;exact rfl)
   | (apply TO.buildSliceB tabOk;exact rfl;exact rfl;exact rfl;exact rfl;exact rfl;exact rfl;exact rfl;exact rfl;exact rfl;exact rfl)
   | (apply TO.appendB tabOk;exact rfl;exact rfl;exact rfl;exact rfl;exact rfl;exact rfl;exact rfl;exact rfl;exact rfl;exact rfl;exact rfl;exact rfl;exact rfl;(first|omega|(simp only[List.length_append,List.length_cons,List.length_nil];omega));exact rfl)
   | (apply TO.eqb;exact rfl;exact rfl;exact rfl;kernel_rfl)
   | (apply TO.neb;exact rfl;exact rfl;exact rfl;kernel_rfl)
   | (apply TO.elem_nat (j:=0) tabOk;exact rfl;exact rfl;exact rfl;exact rfl;exact rfl;exact rfl;exact rfl;exact rfl;exact rfl;exact rfl)
   | (apply TO.makeFunc;exact rfl;exact rfl)
   | (apply TO.fieldAddr_tref tabOk;exact rfl;exact rfl;exact rfl;exact rfl;exact rfl;decide;exact rfl)
   | (apply TO.eq_nil_ptr tabOk;exact rfl;exact rfl;exact rfl;exact rfl;exact rfl)
   | (apply TO.eq_nil_nil tabOk;exact rfl;exact rfl;exact rfl;exact rfl)
   | (apply TO.ne_nil_ptr tabOk;exact rfl;exact rfl;exact rfl;exact rfl;exact rfl)
   | (apply TO.ne_nil_nil tabOk;exact rfl;exact rfl;exact rfl;exact rfl)
   | (apply TO.ssl2 tabOk;exact rfl;exact rfl;exact rfl;exact rfl;exact rfl;exact rfl;exact rfl;exact rfl;exact rfl;omega;omega)
   | (apply TO.ssl_lo tabOk;exact rfl;exact rfl;exact rfl;exact rfl;exact rfl;exact rfl;exact rfl;exact rfl;omega)
   | (apply TO.ssl_hi tabOk;exact rfl;exact rfl;exact rfl;exact rfl;exact rfl;exact rfl;exact rfl;exact rfl;omega))
  ·refine LoopK.next (k+1) hlt (by omega) ⟨rfl,rfl,rfl,rfl,?_,rfl,rfl,trivial⟩ rfl
   rw[hb,best1,if_pos (by simp_all)];rfl
  ·refine LoopK.next (k+1) hlt (by omega) ⟨rfl,rfl,rfl,rfl,?_,rfl,rfl,trivial⟩ rfl
   rw[hb,best1,if_neg (by simp_all)];rfl
  ·refine LoopK.next (k+1) hlt (by omega) ⟨rfl,rfl,rfl,rfl,?_,rfl,rfl,trivial⟩ rfl
   rw[hb,best1,if_neg (by rw[hc];simp)];rfl
 ·have hkl:k=all.length:=by omega
  subst hkl
  rw[List.take_length]
  have hbl:=best_le (s.drop i) all [] (Nat.zero_le _)
  rw[<-best,List.length_drop]at hbl
  generalize best (s.drop i) all=b at hbl
  repeat' (first
   | (apply TO.move;exact rfl;exact rfl)
   | (apply TO.assign;exact rfl;exact rfl)
   | (apply TO.want;exact rfl)
   | (apply TO.add;exact rfl;exact rfl;exact rfl;omega;omega)
   | (apply TO.cat;exact rfl;exact rfl;exact rfl;(first|omega|(simp only[List.length_append,List.length_cons,List.length_nil];omega)))
   | (apply TO.eqs;exact rfl;exact rfl;exact rfl)
   | (apply TO.nes;exact rfl;exact rfl;exact rfl)
   | (apply TO.cmp;exact rfl;exact rfl;exact rfl;exact rfl)
   | (intro hc;exact absurd hc (by decide))
   | (intro hc;exfalso;simp only[decide_eq_true_eq,decide_eq_false_iff_not,beq_iff_eq,beq_eq_false_iff_ne,bne_iff_ne,bne_eq_false_iff_eq,ne_eq,Decidable.not_not,not_true_eq_false]at hc;done)
   | (intro hc;exfalso;(first|simp only[decide_eq_true_eq,decide_eq_false_iff_not,beq_iff_eq,beq_eq_false_iff_ne,bne_iff_ne,bne_eq_false_iff_eq,ne_eq,Decidable.not_not,not_true_eq_false]at hc|skip);first|omega|(simp only[List.length_nil,List.length_cons]at *;omega))
   | intro hc
   | (apply TO.pick;exact rfl;exact rfl;exact rfl)
   | (apply TO.pass;exact rfl;exact rfl)
   | (apply TO.pass0;exact rfl)
   | (apply TO.load tabOk;exact rfl;exact rfl;exact rfl;exact rfl;exact rfl)
   | (apply TO.load_ref tabOk;exact rfl;exact rfl;exact rfl;exact rfl;exact rfl;exact rfl)
   | (apply TO.fieldAddr tabOk;exact rfl;exact rfl;exact rfl;exact rfl;exact rfl;decide;exact rfl)
   | (apply TO.fieldAddr_ref tabOk;exact rfl;exact rfl;exact rfl;exact rfl;exact rfl;decide;exact rfl)
   | (apply TO.nilCheck;exact rfl;exact rfl;exact rfl)
   | (apply TO.index_nat tabOk;exact rfl;exact rfl;exact rfl;exact rfl;exact rfl;assumption)
   | (apply TO.index_str tabOk;exact rfl;exact rfl;exact rfl;exact rfl;exact rfl;decide;exact rfl)
   | (apply TO.len_str tabOk;exact rfl;exact rfl;exact rfl;exact rfl)
   | (apply TO.len_sl tabOk;exact rfl;exact rfl;exact rfl;exact rfl;exact rfl;exact rfl;exact rfl)
   | (apply TO.elem_nat tabOk;exact rfl;exact rfl;exact rfl;exact rfl;exact rfl;exact rfl;exact rfl;exact rfl;assumption;exact rfl)
   | (apply TO.extract;exact rfl;exact rfl;exact rfl)
   | (apply TO.callBb (hasPre_sound _ _);exact rfl;exact rfl;exact rfl;exact⟨.t _,.t _,trivial⟩)
   | refine TO.nil ?_
   | refine TR.seq ?_
   | refine TR.region ?_
   | (apply TR.condT;exact rfl)
   | (apply TR.condF;exact rfl)
   | refine Then.normal ?_
   | refine TR.block ?_
   | refine TR.skip ?_
   | (apply TR.regionQ hmix;kernel_rfl;exact rfl)
   | refine TR.exit ?_
   | refine TR.ret ?_
   | refine Then.exit ?_
   | refine Then.ret ?_
   | refine LoopK.exit ?_
   | refine LoopK.ret ?_
   | refine InBlock.normal ?_
   | refine InBlock.ret ?_
   | (apply InBlock.same;exact rfl)
   | (apply InBlock.other;exact rfl)
   | (apply TO.sub64;exact rfl;exact rfl;exact rfl;omega;omega)
   | (apply TO.mul64;exact rfl;exact rfl;exact rfl;omega;omega)
   | (apply TO.convert_u8;exact rfl;kernel_rfl;kernel_rfl;exact rfl)
   | (apply TO.bin;exact rfl;exact rfl;exact rfl;exact rfl)
   | (apply TO.slice2 tabOk;exact rfl;exact rfl;exact rfl;exact rfl;exact rfl;exact rfl;omega;omega)
   | (apply TO.slice_lo tabOk;exact rfl;exact rfl;exact rfl;exact rfl;exact rfl;omega)
   | (apply TO.slice_hi tabOk;exact rfl;exact rfl;exact rfl;exact rfl;exact rfl;omega)
   | (apply TO.not;exact rfl;exact rfl)
   | (apply TO.nilCheck_fn;exact rfl;exact rfl)
   | (apply TO.load_agg tabOk;exact rfl;exact rfl;exact rfl;exact rfl;exact Nat.le_of_ble_eq_true rfl)
   | (apply TO.load_ref_agg tabOk;exact rfl;exact rfl;exact rfl;exact rfl;exact rfl;exact Nat.le_of_ble_eq_true rfl)
   | (apply TO.len_ms tabOk;exact rfl;exact rfl;exact rfl;exact rfl)
   | (apply TO.buildT tabOk;exact rfl;exact rfl;exact rfl;exact rfl;exact rfl;exact rfl;exact rfl)
   | (apply TO.build tabOk;exact rfl;exact rfl;exact rfl;exact rfl;exact rfl;exact rfl)
   | (apply TO.box;exact rfl;exact rfl;exact rfl;exact rfl)
   | (apply TO.alloc tabOk;exact rfl;exact rfl;exact rfl)
   | (apply TO.store tabOk;exact rfl;exact rfl;exact rfl;exact rfl;exact rfl;exact rfl;exact Nat.le_of_ble_eq_true rfl;exact rfl;exact Nat.le_of_ble_eq_true rfl;exact rfl)
   | (apply TO.buildSliceB tabOk;exact rfl;exact rfl;exact rfl;exact rfl;exact rfl;exact rfl;exact rfl;exact rfl;exact rfl;exact rfl)
   | (apply TO.appendB tabOk;exact rfl;exact rfl;exact rfl;exact rfl;exact rfl;exact rfl;exact rfl;exact rfl;exact rfl;exact rfl;exact rfl;exact rfl;exact rfl;(first|omega|(simp only[List.length_append,List.length_cons,List.length_nil];omega));exact rfl)
   | (apply TO.eqb;exact rfl;exact rfl;exact rfl;kernel_rfl)
   | (apply TO.neb;exact rfl;exact rfl;exact rfl;kernel_rfl)
   | (apply TO.elem_nat (j:=0) tabOk;exact rfl;exact rfl;exact rfl;exact rfl;exact rfl;exact rfl;exact rfl;exact rfl;exact rfl;exact rfl)
   | (apply TO.makeFunc;exact rfl;exact rfl)
   | (apply TO.fieldAddr_tref tabOk;exact rfl;exact rfl;exact rfl;exact rfl;exact rfl;decide;exact rfl)
   | (apply TO.eq_nil_ptr tabOk;exact rfl;exact rfl;exact rfl;exact rfl;exact rfl)
   | (apply TO.eq_nil_nil tabOk;exact rfl;exact rfl;exact rfl;exact rfl)
   | (apply TO.ne_nil_ptr tabOk;exact rfl;exact rfl;exact rfl;exact rfl;exact rfl)
   | (apply TO.ne_nil_nil tabOk;exact rfl;exact rfl;exact rfl;exact rfl)
   | (apply TO.ssl2 tabOk;exact rfl;exact rfl;exact rfl;exact rfl;exact rfl;exact rfl;exact rfl;exact rfl;exact rfl;omega;omega)
   | (apply TO.ssl_lo tabOk;exact rfl;exact rfl;exact rfl;exact rfl;exact rfl;exact rfl;exact rfl;exact rfl;omega)
   | (apply TO.ssl_hi tabOk;exact rfl;exact rfl;exact rfl;exact rfl;exact rfl;exact rfl;exact rfl;exact rfl;omega))
  ·have:b=[]:=by simpa using hc
   subst this
   exact RetK.keep 1 rfl (Le.refl _) rfl rfl rfl rfl rfl ⟨rfl,rfl⟩
  ·have e1:symTok b=(4,b,0):=if_neg (by simp[hc])
   rw[e1]
   exact RetK.keep 1 rfl (Le.refl _) rfl rfl rfl rfl rfl ⟨rfl,rfl⟩
end Go.Proofs.YtlfdkafebmdoiaaGreat
