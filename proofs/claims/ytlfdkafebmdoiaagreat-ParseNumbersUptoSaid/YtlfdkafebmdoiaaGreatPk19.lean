import Derived.Test.YtlfdkafebmdoiaaGreatPk18
set_option linter.unusedSimpArgs false
set_option linter.unusedVariables false
namespace Go.Proofs.YtlfdkafebmdoiaaGreat
open Go Go.TL
attribute [local irreducible] TR TO Then InBlock RetK Sound LoopK Kf GG ThenL
theorem skipped_eq(l:Str):skipped l=if hasPre (behind blank l) [45,45]=true then skipped (behind (fun c=>c != 10) (behind blank l)) else behind blank l:=by
 rw[skipped];split <;> rfl
theorem skipped_len(l:Str):(skipped l).length≤l.length:=by
 induction hn:l.length using Nat.strongRecOn generalizing l with
 | _ n ih=>
   subst hn
   rw[skipped_eq]
   have h1:=behind_len blank l
   split
   ·rename_i h
    obtain⟨r,hr⟩:=hasPre_drop h
    have:=@behind_ne r
    rw[hr]at h1⊢
    have h2:=ih _ (by omega) (behind (fun c=>c != 10) (45::45::r)) rfl
    omega
   ·exact h1
theorem behind_drop(p:Int->Bool)(s:Str)(k:Nat):s.drop (k+(spanOf p (s.drop k)).length)=behind p (s.drop k):=by
 rw[behind,List.drop_drop]
theorem span_le(p:Int->Bool)(s:Str)(k:Nat)(hk:k≤s.length):k+(spanOf p (s.drop k)).length≤s.length:=by
 have:=spanOf_len p (s.drop k)
 rw[List.length_drop]at this;omega
set_option maxHeartbeats 1000000 in
theorem skip_sound (s:Str) (hs:s.length≤1000000) (i:Nat) (hi:i≤s.length):
  Sound Tryz.prog 29 [.ref 0 0] (scanner s i) (fun r H'=>r= .ret (.tup [])/\H'=scanner s (s.length-(skipped (s.drop i)).length)):=by
 refine so Tryz.func29 ?_
 repeat' (first
  | (apply TO.move;exact rfl;exact rfl)
  | (apply TO.assign;exact rfl;exact rfl)
  | (apply TO.want;exact rfl)
  | (apply TO.add;exact rfl;exact rfl;exact rfl;omega;omega)
  | (apply TO.cat;exact rfl;exact rfl;exact rfl;(first|omega|(simp only[List.length_append,List.length_cons,List.length_nil];omega)))
  | (apply TO.eqs;exact rfl;exact rfl;exact rfl)
  | (apply TO.nes;exact rfl;exact rfl;exact rfl)
  | (apply TO.cmp;exact rfl;exact rfl;exact rfl;exact rfl)
  | (intro hc;exact absurd hc (by decide))
  | (intro hc;exfalso;simp only[decide_eq_true_eq,decide_eq_false_iff_not,beq_iff_eq,beq_eq_false_iff_ne,bne_iff_ne,bne_eq_false_iff_eq,ne_eq,Decidable.not_not,not_true_eq_false]at hc;done)
  | (intro hc;exfalso;(first|simp only[decide_eq_true_eq,decide_eq_false_iff_not,beq_iff_eq,beq_eq_false_iff_ne,bne_iff_ne,bne_eq_false_iff_eq,ne_eq,Decidable.not_not,not_true_eq_false]at hc|skip);first|omega|(simp only[List.length_nil,List.length_cons]at *;omega))
  | intro hc
  | (apply TO.pick;exact rfl;exact rfl;exact rfl)
  | (apply TO.pass;exact rfl;exact rfl)
  | (apply TO.pass0;exact rfl)
  | (apply TO.load tabOk;exact rfl;exact rfl;exact rfl;exact rfl;exact rfl)
  | (apply TO.load_ref tabOk;exact rfl;exact rfl;exact rfl;exact rfl;exact rfl;exact rfl)
  | (apply TO.fieldAddr tabOk;exact rfl;exact rfl;exact rfl;exact rfl;exact rfl;decide;exact rfl)
  | (apply TO.fieldAddr_ref tabOk;exact rfl;exact rfl;exact rfl;exact rfl;exact rfl;decide;exact rfl)
  | (apply TO.nilCheck;exact rfl;exact rfl;exact rfl)
  | (apply TO.index_nat tabOk;exact rfl;exact rfl;exact rfl;exact rfl;exact rfl;assumption)
  | (apply TO.index_str tabOk;exact rfl;exact rfl;exact rfl;exact rfl;exact rfl;decide;exact rfl)
  | (apply TO.len_str tabOk;exact rfl;exact rfl;exact rfl;exact rfl)
  | (apply TO.len_sl tabOk;exact rfl;exact rfl;exact rfl;exact rfl;exact rfl;exact rfl;exact rfl)
  | (apply TO.elem_nat tabOk;exact rfl;exact rfl;exact rfl;exact rfl;exact rfl;exact rfl;exact rfl;exact rfl;assumption;exact rfl)
  | (apply TO.extract;exact rfl;exact rfl;exact rfl)
  | refine TO.nil ?_
  | refine TR.seq ?_
  | refine TR.region ?_
  | (apply TR.condT;exact rfl)
  | (apply TR.condF;exact rfl)
  | refine Then.normal ?_
  | refine TR.block ?_
  | refine TR.skip ?_
  | (apply TR.regionQ hmix;kernel_rfl;exact rfl)
  | refine TR.exit ?_
  | refine TR.ret ?_
  | refine Then.exit ?_
  | refine Then.ret ?_
  | refine LoopK.exit ?_
  | refine LoopK.ret ?_
  | refine InBlock.normal ?_
  | refine InBlock.ret ?_
  | (apply InBlock.same;exact rfl)
  | (apply InBlock.other;exact rfl)
  | (apply TO.sub64;exact rfl;exact rfl;exact rfl;omega;omega)
  | (apply TO.mul64;exact rfl;exact rfl;exact rfl;omega;omega)
  | (apply TO.convert_u8;exact rfl;kernel_rfl;kernel_rfl;exact rfl)
  | (apply TO.bin;exact rfl;exact rfl;exact rfl;exact rfl)
  | (apply TO.slice2 tabOk;exact rfl;exact rfl;exact rfl;exact rfl;exact rfl;exact rfl;omega;omega)
  | (apply TO.slice_lo tabOk;exact rfl;exact rfl;exact rfl;exact rfl;exact rfl;omega)
  | (apply TO.slice_hi tabOk;exact rfl;exact rfl;exact rfl;exact rfl;exact rfl;omega)
  | (apply TO.not;exact rfl;exact rfl)
  | (apply TO.nilCheck_fn;exact rfl;exact rfl)
  | (apply TO.load_agg tabOk;exact rfl;exact rfl;exact rfl;exact rfl;exact Nat.le_of_ble_eq_true rfl)
  | (apply TO.load_ref_agg tabOk;exact rfl;exact rfl;exact rfl;exact rfl;exact rfl;exact Nat.le_of_ble_eq_true rfl)
  | (apply TO.len_ms tabOk;exact rfl;exact rfl;exact rfl;exact rfl)
  | (apply TO.buildT tabOk;exact rfl;exact rfl;exact rfl;exact rfl;exact rfl;exact rfl;exact rfl)
  | (apply TO.build tabOk;exact rfl;exact rfl;exact rfl;exact rfl;exact rfl;exact rfl)
  | (apply TO.box;exact rfl;exact rfl;exact rfl;exact rfl)
  | (apply TO.alloc tabOk;exact rfl;exact rfl;exact rfl)
  | (apply TO.store tabOk;exact rfl;exact rfl;exact rfl;exact rfl;exact rfl;exact rfl;exact Nat.le_of_ble_eq_true rfl;exact rfl;exact Nat.le_of_ble_eq_true rfl;exact rfl)
  | (apply TO.buildSliceB tabOk;exact rfl;exact rfl;exact rfl;exact rfl;exact rfl;exact rfl;exact rfl;exact rfl;exact rfl;exact rfl)
  | (apply TO.appendB tabOk;exact rfl;exact rfl;exact rfl;exact rfl;exact rfl;exact rfl;exact rfl;exact rfl;exact rfl;exact rfl;exact rfl;exact rfl;exact rfl;(first|omega|(simp only[List.length_append,List.length_cons,List.length_nil];omega));exact rfl)
  | (apply TO.eqb;exact rfl;exact rfl;exact rfl;kernel_rfl)
  | (apply TO.neb;exact rfl;exact rfl;exact rfl;kernel_rfl)
  | (apply TO.elem_nat (j:=0) tabOk;exact rfl;exact rfl;exact rfl;exact rfl;exact rfl;exact rfl;exact rfl;exact rfl;exact rfl;exact rfl)
  | (apply TO.makeFunc;exact rfl;exact rfl)
  | (apply TO.fieldAddr_tref tabOk;exact rfl;exact rfl;exact rfl;exact rfl;exact rfl;decide;exact rfl)
  | (apply TO.eq_nil_ptr tabOk;exact rfl;exact rfl;exact rfl;exact rfl;exact rfl)
  | (apply TO.eq_nil_nil tabOk;exact rfl;exact rfl;exact rfl;exact rfl)
  | (apply TO.ne_nil_ptr tabOk;exact rfl;exact rfl;exact rfl;exact rfl;exact rfl)
  | (apply TO.ne_nil_nil tabOk;exact rfl;exact rfl;exact rfl;exact rfl)
  | (apply TO.ssl2 tabOk;exact rfl;exact rfl;exact rfl;exact rfl;exact rfl;exact rfl;exact rfl;exact rfl;exact rfl;omega;omega)
  | (apply TO.ssl_lo tabOk;exact rfl;exact rfl;exact rfl;exact rfl;exact rfl;exact rfl;exact rfl;exact rfl;omega)
  | (apply TO.ssl_hi tabOk;exact rfl;exact rfl;exact rfl;exact rfl;exact rfl;exact rfl;exact rfl;exact rfl;omega))
 refine TR.loop_ind (ι:=Nat) (fun k=>k≤s.length/\skipped (s.drop k)=skipped (s.drop i)) (fun k=>s.length-k) (fun k=>[(0,.ref 0 0)]) (fun k=>scanner s k) i ⟨hi,rfl⟩ ⟨rfl,trivial⟩ rfl ?_
 rintro k ⟨h1,h3⟩
 obtain⟨a,ha⟩:∃a,a=spanOf blank (s.drop k):=⟨_,rfl⟩
 have ha1:=span_le blank s k h1
 have ha2:=behind_drop blank s k
 rw[<-ha]at ha1 ha2
 obtain⟨b,hb⟩:∃b,b=spanOf (fun c=>c != 10) (s.drop (k+a.length)):=⟨_,rfl⟩
 have hb1:=span_le (fun c=>c != 10) s (k+a.length) ha1
 have hb2:=behind_drop (fun c=>c != 10) s (k+a.length)
 rw[<-hb]at hb1 hb2
 have hS1:=span_sound 57 blank blank_sound s hs k h1
 rw[<-ha]at hS1
 have hS2:=span_sound 59 (fun c=>c != 10) skip1_sound s hs (k+a.length) ha1
 rw[<-hb]at hS2
 have he:=skipped_eq (s.drop k)
 repeat' (first
  | (apply TO.move;exact rfl;exact rfl)
  | (apply TO.assign;exact rfl;exact rfl)
  | (apply TO.want;exact rfl)
  | (apply TO.add;exact rfl;exact rfl;exact rfl;omega;omega)
  | (apply TO.cat;exact rfl;exact rfl;exact rfl;(first|omega|(simp only[List.length_append,List.length_cons,List.length_nil];omega)))
  | (apply TO.eqs;exact rfl;exact rfl;exact rfl)
  | (apply TO.nes;exact rfl;exact rfl;exact rfl)
  | (apply TO.cmp;exact rfl;exact rfl;exact rfl;exact rfl)
  | (intro hc;exact absurd hc (by decide))
  | (intro hc;exfalso;simp only[decide_eq_true_eq,decide_eq_false_iff_not,beq_iff_eq,beq_eq_false_iff_ne,bne_iff_ne,bne_eq_false_iff_eq,ne_eq,Decidable.not_not,not_true_eq_false]at hc;done)
  | (intro hc;exfalso;(first|simp only[decide_eq_true_eq,decide_eq_false_iff_not,beq_iff_eq,beq_eq_false_iff_ne,bne_iff_ne,bne_eq_false_iff_eq,ne_eq,Decidable.not_not,not_true_eq_false]at hc|skip);first|omega|(simp only[List.length_nil,List.length_cons]at *;omega))
  | intro hc
  | (apply TO.pick;exact rfl;exact rfl;exact rfl)
  | (apply TO.pass;exact rfl;exact rfl)
  | (apply TO.pass0;exact rfl)
  | (apply TO.load tabOk;exact rfl;exact rfl;exact rfl;exact rfl;exact rfl)
  | (apply TO.load_ref tabOk;exact rfl;exact rfl;exact rfl;exact rfl;exact rfl;exact rfl)
  | (apply TO.fieldAddr tabOk;exact rfl;exact rfl;exact rfl;exact rfl;exact rfl;decide;exact rfl)
  | (apply TO.fieldAddr_ref tabOk;exact rfl;exact rfl;exact rfl;exact rfl;exact rfl;decide;exact rfl)
  | (apply TO.nilCheck;exact rfl;exact rfl;exact rfl)
  | (apply TO.index_nat tabOk;exact rfl;exact rfl;exact rfl;exact rfl;exact rfl;assumption)
  | (apply TO.index_str tabOk;exact rfl;exact rfl;exact rfl;exact rfl;exact rfl;decide;exact rfl)
  | (apply TO.len_str tabOk;exact rfl;exact rfl;exact rfl;exact rfl)
  | (apply TO.len_sl tabOk;exact rfl;exact rfl;exact rfl;exact rfl;exact rfl;exact rfl;exact rfl)
  | (apply TO.elem_nat tabOk;exact rfl;exact rfl;exact rfl;exact rfl;exact rfl;exact rfl;exact rfl;exact rfl;assumption;exact rfl)
  | (apply TO.extract;exact rfl;exact rfl;exact rfl)
  | (apply TO.call1 [0] (v':=.s a) (H':=scanner s (k+a.length)) (hS1);exact rfl;exact rfl;exact rfl;(first|exact⟨Le.refl _,trivial⟩|exact⟨Le.refl _,Le.refl _,trivial⟩|exact⟨Le.refl _,Le.refl _,Le.refl _,trivial⟩);exact rfl;exact Hands.one rfl rfl;exact rfl;exact rfl)
  | (apply TO.call1 [0] (v':=.s b) (H':=scanner s (k+a.length+b.length)) (hS2);exact rfl;exact rfl;exact rfl;(first|exact⟨Le.refl _,trivial⟩|exact⟨Le.refl _,Le.refl _,trivial⟩|exact⟨Le.refl _,Le.refl _,Le.refl _,trivial⟩);exact rfl;exact Hands.one rfl rfl;exact rfl;exact rfl)
  | (apply TO.callBb (hasPre_sound _ _);exact rfl;exact rfl;exact rfl;exact⟨.t _,.t _,trivial⟩)
  | refine TO.nil ?_
  | refine TR.seq ?_
  | refine TR.region ?_
  | (apply TR.condT;exact rfl)
  | (apply TR.condF;exact rfl)
  | refine Then.normal ?_
  | refine TR.block ?_
  | refine TR.skip ?_
  | (apply TR.regionQ hmix;kernel_rfl;exact rfl)
  | refine TR.exit ?_
  | refine TR.ret ?_
  | refine Then.exit ?_
  | refine Then.ret ?_
  | refine LoopK.exit ?_
  | refine LoopK.ret ?_
  | refine InBlock.normal ?_
  | refine InBlock.ret ?_
  | (apply InBlock.same;exact rfl)
  | (apply InBlock.other;exact rfl)
  | (apply TO.sub64;exact rfl;exact rfl;exact rfl;omega;omega)
  | (apply TO.mul64;exact rfl;exact rfl;exact rfl;omega;omega)
  | (apply TO.convert_u8;exact rfl;kernel_rfl;kernel_rfl;exact rfl)
  | (apply TO.bin;exact rfl;exact rfl;exact rfl;exact rfl)
  | (apply TO.slice2 tabOk;exact rfl;exact rfl;exact rfl;exact rfl;exact rfl;exact rfl;omega;omega)
  | (apply TO.slice_lo tabOk;exact rfl;exact rfl;exact rfl;exact rfl;exact rfl;omega)
  | (apply TO.slice_hi tabOk;exact rfl;exact rfl;exact rfl;exact rfl;exact rfl;omega)
  | (apply TO.not;exact rfl;exact rfl)
  | (apply TO.nilCheck_fn;exact rfl;exact rfl)
  | (apply TO.load_agg tabOk;exact rfl;exact rfl;exact rfl;exact rfl;exact Nat.le_of_ble_eq_true rfl)
  | (apply TO.load_ref_agg tabOk;exact rfl;exact rfl;exact rfl;exact rfl;exact rfl;exact Nat.le_of_ble_eq_true rfl)
  | (apply TO.len_ms tabOk;exact rfl;exact rfl;exact rfl;exact rfl)
  | (apply TO.buildT tabOk;exact rfl;exact rfl;exact rfl;exact rfl;exact rfl;exact rfl;exact rfl)
  | (apply TO.build tabOk;exact rfl;exact rfl;exact rfl;exact rfl;exact rfl;exact rfl)
  | (apply TO.box;exact rfl;exact rfl;exact rfl;exact rfl)
  | (apply TO.alloc tabOk;exact rfl;exact rfl;exact rfl)
  | (apply TO.store tabOk;exact rfl;exact rfl;exact rfl;exact rfl;exact rfl;exact rfl;exact Nat.le_of_ble_eq_true rfl;exact rfl;exact Nat.le_of_ble_eq_true rfl;exact rfl)
  | (apply TO.buildSliceB tabOk;exact rfl;exact rfl;exact rfl;exact rfl;exact rfl;exact rfl;exact rfl;exact rfl;exact rfl;exact rfl)
  | (apply TO.appendB tabOk;exact rfl;exact rfl;exact rfl;exact rfl;exact rfl;exact rfl;exact rfl;exact rfl;exact rfl;exact rfl;exact rfl;exact rfl;exact rfl;(first|omega|(simp only[List.length_append,List.length_cons,List.length_nil];omega));exact rfl)
  | (apply TO.eqb;exact rfl;exact rfl;exact rfl;kernel_rfl)
  | (apply TO.neb;exact rfl;exact rfl;exact rfl;kernel_rfl)
  | (apply TO.elem_nat (j:=0) tabOk;exact rfl;exact rfl;exact rfl;exact rfl;exact rfl;exact rfl;exact rfl;exact rfl;exact rfl;exact rfl)
  | (apply TO.makeFunc;exact rfl;exact rfl)
  | (apply TO.fieldAddr_tref tabOk;exact rfl;exact rfl;exact rfl;exact rfl;exact rfl;decide;exact rfl)
  | (apply TO.eq_nil_ptr tabOk;exact rfl;exact rfl;exact rfl;exact rfl;exact rfl)
  | (apply TO.eq_nil_nil tabOk;exact rfl;exact rfl;exact rfl;exact rfl)
  | (apply TO.ne_nil_ptr tabOk;exact rfl;exact rfl;exact rfl;exact rfl;exact rfl)
  | (apply TO.ne_nil_nil tabOk;exact rfl;exact rfl;exact rfl;exact rfl)
  | (apply TO.ssl2 tabOk;exact rfl;exact rfl;exact rfl;exact rfl;exact rfl;exact rfl;exact rfl;exact rfl;exact rfl;omega;omega)
  | (apply TO.ssl_lo tabOk;exact rfl;exact rfl;exact rfl;exact rfl;exact rfl;exact rfl;exact rfl;exact rfl;omega)
  | (apply TO.ssl_hi tabOk;exact rfl;exact rfl;exact rfl;exact rfl;exact rfl;exact rfl;exact rfl;exact rfl;omega))
 ·have hlt:0<b.length:=by
   rw[hb,ha2]
   rw[ha2]at hc
   obtain⟨r,hr⟩:=hasPre_drop hc
   rw[hr];simp[spanOf]
  refine LoopK.next (k+a.length+b.length) ⟨hb1,?_⟩ (by omega) ⟨rfl,trivial⟩ rfl
  rw[<-h3,he,hb2,<-ha2,if_pos hc]
 ·refine RetK.keep 1 rfl (Le.refl _) rfl rfl rfl rfl rfl ⟨rfl,?_⟩
  rw[<-ha2,if_neg (by simp[hc])]at he
  rw[<-h3,he,List.length_drop,show s.length-(s.length-(k+a.length))=k+a.length from by omega];rfl
abbrev tokV (k:Int)(x:Str)(p:Int):SV:=.ag [.i k,.s x,.i p]
abbrev tokR (a:Int×Str×Int):SV:=.tup [tokV a.1 a.2.1 0,.i a.2.2]
def nameTok(w:Str):Int×Str×Int:=if 40<(w.length:Int) then(0,[],3) else if keyword w then(3,w,0) else(1,w,0)
def numTok(w:Str):Int×Str×Int:=
 if decide (1<(w.length:Int)) && (match w with|c::_=>((c.toNat:Int) == 48)|[]=>false) then(0,[],5)
 else if decide (5<(w.length:Int)) || ((w.length:Int) == 5 && !(Op.bytesLess w [51,50,55,54,56] || w == [51,50,55,54,56])) then(0,[],14) else(2,w,0)
set_option maxHeartbeats 1000000 in
theorem name_sound (s:Str) (hs:s.length≤1000000) (i:Nat) (hi:i≤s.length):
  Sound Tryz.prog 61 [.ref 0 0] (scanner s i) (fun r H'=>r= .ret (tokR (nameTok (spanOf inner (s.drop i))))/\H'=scanner s (i+(spanOf inner (s.drop i)).length)):=by
 refine so Tryz.func61 ?_
 have hS1:=span_sound 86 inner inner_sound s hs i hi
 generalize spanOf inner (s.drop i)=a at hS1⊢
 repeat' (first
  | (apply TO.move;exact rfl;exact rfl)
  | (apply TO.assign;exact rfl;exact rfl)
  | (apply TO.want;exact rfl)
  | (apply TO.add;exact rfl;exact rfl;exact rfl;omega;omega)
  | (apply TO.cat;exact rfl;exact rfl;exact rfl;(first|omega|(simp only[List.length_append,List.length_cons,List.length_nil];omega)))
  | (apply TO.eqs;exact rfl;exact rfl;exact rfl)
  | (apply TO.nes;exact rfl;exact rfl;exact rfl)
  | (apply TO.cmp;exact rfl;exact rfl;exact rfl;exact rfl)
  | (intro hc;exact absurd hc (by decide))
  | (intro hc;exfalso;simp only[decide_eq_true_eq,decide_eq_false_iff_not,beq_iff_eq,beq_eq_false_iff_ne,bne_iff_ne,bne_eq_false_iff_eq,ne_eq,Decidable.not_not,not_true_eq_false]at hc;done)
  | (intro hc;exfalso;(first|simp only[decide_eq_true_eq,decide_eq_false_iff_not,beq_iff_eq,beq_eq_false_iff_ne,bne_iff_ne,bne_eq_false_iff_eq,ne_eq,Decidable.not_not,not_true_eq_false]at hc|skip);first|omega|(simp only[List.length_nil,List.length_cons]at *;omega))
  | intro hc
  | (apply TO.pick;exact rfl;exact rfl;exact rfl)
  | (apply TO.pass;exact rfl;exact rfl)
  | (apply TO.pass0;exact rfl)
  | (apply TO.load tabOk;exact rfl;exact rfl;exact rfl;exact rfl;exact rfl)
  | (apply TO.load_ref tabOk;exact rfl;exact rfl;exact rfl;exact rfl;exact rfl;exact rfl)
  | (apply TO.fieldAddr tabOk;exact rfl;exact rfl;exact rfl;exact rfl;exact rfl;decide;exact rfl)
  | (apply TO.fieldAddr_ref tabOk;exact rfl;exact rfl;exact rfl;exact rfl;exact rfl;decide;exact rfl)
  | (apply TO.nilCheck;exact rfl;exact rfl;exact rfl)
  | (apply TO.index_nat tabOk;exact rfl;exact rfl;exact rfl;exact rfl;exact rfl;assumption)
  | (apply TO.index_str tabOk;exact rfl;exact rfl;exact rfl;exact rfl;exact rfl;decide;exact rfl)
  | (apply TO.len_str tabOk;exact rfl;exact rfl;exact rfl;exact rfl)
  | (apply TO.len_sl tabOk;exact rfl;exact rfl;exact rfl;exact rfl;exact rfl;exact rfl;exact rfl)
  | (apply TO.elem_nat tabOk;exact rfl;exact rfl;exact rfl;exact rfl;exact rfl;exact rfl;exact rfl;exact rfl;assumption;exact rfl)
  | (apply TO.extract;exact rfl;exact rfl;exact rfl)
  | (apply TO.call1 [0] (v':=.s a) (H':=[.cells [.s s,.i ((i+a.length:Nat):Int)],.cells [.i 0,.s [],.i 0]]) (hS1);exact rfl;exact rfl;exact rfl;(first|exact⟨Le.refl _,trivial⟩|exact⟨Le.refl _,Le.refl _,trivial⟩|exact⟨Le.refl _,Le.refl _,Le.refl _,trivial⟩);exact rfl;exact Hands.one rfl rfl;exact rfl;exact rfl)
  | (apply TO.callBb (keyword_sound _);exact rfl;exact rfl;exact rfl;exact⟨.t _,trivial⟩)
  | refine TO.nil ?_
  | refine TR.seq ?_
  | refine TR.region ?_
  | (apply TR.condT;exact rfl)
  | (apply TR.condF;exact rfl)
  | refine Then.normal ?_
  | refine TR.block ?_
  | refine TR.skip ?_
  | (apply TR.regionQ hmix;kernel_rfl;exact rfl)
  | refine TR.exit ?_
  | refine TR.ret ?_
  | refine Then.exit ?_
  | refine Then.ret ?_
  | refine LoopK.exit ?_
  | refine LoopK.ret ?_
  | refine InBlock.normal ?_
  | refine InBlock.ret ?_
  | (apply InBlock.same;exact rfl)
  | (apply InBlock.other;exact rfl)
  | (apply TO.sub64;exact rfl;exact rfl;exact rfl;omega;omega)
  | (apply TO.mul64;exact rfl;exact rfl;exact rfl;omega;omega)
  | (apply TO.convert_u8;exact rfl;kernel_rfl;kernel_rfl;exact rfl)
  | (apply TO.bin;exact rfl;exact rfl;exact rfl;exact rfl)
  | (apply TO.slice2 tabOk;exact rfl;exact rfl;exact rfl;exact rfl;exact rfl;exact rfl;omega;omega)
  | (apply TO.slice_lo tabOk;exact rfl;exact rfl;exact rfl;exact rfl;exact rfl;omega)
  | (apply TO.slice_hi tabOk;exact rfl;exact rfl;exact rfl;exact rfl;exact rfl;omega)
  | (apply TO.not;exact rfl;exact rfl)
  | (apply TO.nilCheck_fn;exact rfl;exact rfl)
  | (apply TO.load_agg tabOk;exact rfl;exact rfl;exact rfl;exact rfl;exact Nat.le_of_ble_eq_true rfl)
  | (apply TO.load_ref_agg tabOk;exact rfl;exact rfl;exact rfl;exact rfl;exact rfl;exact Nat.le_of_ble_eq_true rfl)
  | (apply TO.len_ms tabOk;exact rfl;exact rfl;exact rfl;exact rfl)
  | (apply TO.buildT tabOk;exact rfl;exact rfl;exact rfl;exact rfl;exact rfl;exact rfl;exact rfl)
  | (apply TO.build tabOk;exact rfl;exact rfl;exact rfl;exact rfl;exact rfl;exact rfl)
  | (apply TO.box;exact rfl;exact rfl;exact rfl;exact rfl)
  | (apply TO.alloc tabOk;exact rfl;exact rfl;exact rfl)
  | (apply TO.store tabOk;exact rfl;exact rfl;exact rfl;exact rfl;exact rfl;exact rfl;exact Nat.le_of_ble_eq_true rfl;exact rfl;exact Nat.le_of_ble_eq_true rfl;exact rfl)
  | (apply TO.buildSliceB tabOk;exact rfl;exact rfl;exact rfl;exact rfl;exact rfl;exact rfl;exact rfl;exact rfl;exact rfl;exact rfl)
  | (apply TO.appendB tabOk;exact rfl;exact rfl;exact rfl;exact rfl;exact rfl;exact rfl;exact rfl;exact rfl;exact rfl;exact rfl;exact rfl;exact rfl;exact rfl;(first|omega|(simp only[List.length_append,List.length_cons,List.length_nil];omega));exact rfl)
  | (apply TO.eqb;exact rfl;exact rfl;exact rfl;kernel_rfl)
  | (apply TO.neb;exact rfl;exact rfl;exact rfl;kernel_rfl)
  | (apply TO.elem_nat (j:=0) tabOk;exact rfl;exact rfl;exact rfl;exact rfl;exact rfl;exact rfl;exact rfl;exact rfl;exact rfl;exact rfl)
  | (apply TO.makeFunc;exact rfl;exact rfl)
  | (apply TO.fieldAddr_tref tabOk;exact rfl;exact rfl;exact rfl;exact rfl;exact rfl;decide;exact rfl)
  | (apply TO.eq_nil_ptr tabOk;exact rfl;exact rfl;exact rfl;exact rfl;exact rfl)
  | (apply TO.eq_nil_nil tabOk;exact rfl;exact rfl;exact rfl;exact rfl)
  | (apply TO.ne_nil_ptr tabOk;exact rfl;exact rfl;exact rfl;exact rfl;exact rfl)
  | (apply TO.ne_nil_nil tabOk;exact rfl;exact rfl;exact rfl;exact rfl)
  | (apply TO.ssl2 tabOk;exact rfl;exact rfl;exact rfl;exact rfl;exact rfl;exact rfl;exact rfl;exact rfl;exact rfl;omega;omega)
  | (apply TO.ssl_lo tabOk;exact rfl;exact rfl;exact rfl;exact rfl;exact rfl;exact rfl;exact rfl;exact rfl;omega)
  | (apply TO.ssl_hi tabOk;exact rfl;exact rfl;exact rfl;exact rfl;exact rfl;exact rfl;exact rfl;exact rfl;omega))
 all_goals(refine RetK.keep 1 rfl (Le.of_eq (congrArg tokR (a₁:=(_,_,_)) (a₂:=nameTok a) ?_)) rfl rfl rfl rfl rfl ⟨rfl,?_⟩ <;> first|rfl|(simp_all [nameTok];done)|(simp only[nameTok];(repeat' split) <;> first|rfl|(exfalso;simp_all;done)|(exfalso;simp_all <;> omega)))
set_option maxHeartbeats 1000000 in
theorem number_sound (s:Str) (hs:s.length≤1000000) (i:Nat) (hi:i≤s.length):
  Sound Tryz.prog 63 [.ref 0 0] (scanner s i) (fun r H'=>r= .ret (tokR (numTok (spanOf digit (s.drop i))))/\H'=scanner s (i+(spanOf digit (s.drop i)).length)):=by
 refine so Tryz.func63 ?_
 have hS1:=span_sound 62 digit digit_sound s hs i hi
 have hl:=span_le digit s i hi
 generalize spanOf digit (s.drop i)=a at hS1 hl⊢
 cases a with
 | nil=>
   repeat' (first
    | (apply TO.move;exact rfl;exact rfl)
    | (apply TO.assign;exact rfl;exact rfl)
    | (apply TO.want;exact rfl)
    | (apply TO.add;exact rfl;exact rfl;exact rfl;omega;omega)
    | (apply TO.cat;exact rfl;exact rfl;exact rfl;(first|omega|(simp only[List.length_append,List.length_cons,List.length_nil];omega)))
    | (apply TO.eqs;exact rfl;exact rfl;exact rfl)
    | (apply TO.nes;exact rfl;exact rfl;exact rfl)
    | (apply TO.cmp;exact rfl;exact rfl;exact rfl;exact rfl)
    | (intro hc;exact absurd hc (by decide))
    | (intro hc;exfalso;simp only[decide_eq_true_eq,decide_eq_false_iff_not,beq_iff_eq,beq_eq_false_iff_ne,bne_iff_ne,bne_eq_false_iff_eq,ne_eq,Decidable.not_not,not_true_eq_false]at hc;done)
    | (intro hc;exfalso;(first|simp only[decide_eq_true_eq,decide_eq_false_iff_not,beq_iff_eq,beq_eq_false_iff_ne,bne_iff_ne,bne_eq_false_iff_eq,ne_eq,Decidable.not_not,not_true_eq_false]at hc|skip);first|omega|(simp only[List.length_nil,List.length_cons]at *;omega))
    | intro hc
    | (apply TO.pick;exact rfl;exact rfl;exact rfl)
    | (apply TO.pass;exact rfl;exact rfl)
    | (apply TO.pass0;exact rfl)
    | (apply TO.load tabOk;exact rfl;exact rfl;exact rfl;exact rfl;exact rfl)
    | (apply TO.load_ref tabOk;exact rfl;exact rfl;exact rfl;exact rfl;exact rfl;exact rfl)
    | (apply TO.fieldAddr tabOk;exact rfl;exact rfl;exact rfl;exact rfl;exact rfl;decide;exact rfl)
    | (apply TO.fieldAddr_ref tabOk;exact rfl;exact rfl;exact rfl;exact rfl;exact rfl;decide;exact rfl)
    | (apply TO.nilCheck;exact rfl;exact rfl;exact rfl)
    | (apply TO.index_nat tabOk;exact rfl;exact rfl;exact rfl;exact rfl;exact rfl;assumption)
    | (apply TO.index_str tabOk;exact rfl;exact rfl;exact rfl;exact rfl;exact rfl;decide;exact rfl)
    | (apply TO.len_str tabOk;exact rfl;exact rfl;exact rfl;exact rfl)
    | (apply TO.len_sl tabOk;exact rfl;exact rfl;exact rfl;exact rfl;exact rfl;exact rfl;exact rfl)
    | (apply TO.elem_nat tabOk;exact rfl;exact rfl;exact rfl;exact rfl;exact rfl;exact rfl;exact rfl;exact rfl;assumption;exact rfl)
    | (apply TO.extract;exact rfl;exact rfl;exact rfl)
    | (apply TO.call1 [0] (v':=.s []) (H':=[.cells [.s s,.i ((i+([]:Str).length:Nat):Int)],.cells [.i 0,.s [],.i 0]]) (hS1);exact rfl;exact rfl;exact rfl;(first|exact⟨Le.refl _,trivial⟩|exact⟨Le.refl _,Le.refl _,trivial⟩|exact⟨Le.refl _,Le.refl _,Le.refl _,trivial⟩);exact rfl;exact Hands.one rfl rfl;exact rfl;exact rfl)
    | (apply TO.callBb (keyword_sound _);exact rfl;exact rfl;exact rfl;exact⟨.t _,trivial⟩)
    | refine TO.nil ?_
    | refine TR.seq ?_
    | refine TR.region ?_
    | (apply TR.condT;exact rfl)
    | (apply TR.condF;exact rfl)
    | refine Then.normal ?_
    | refine TR.block ?_
    | refine TR.skip ?_
    | (apply TR.regionQ hmix;kernel_rfl;exact rfl)
    | refine TR.exit ?_
    | refine TR.ret ?_
    | refine Then.exit ?_
    | refine Then.ret ?_
    | refine LoopK.exit ?_
    | refine LoopK.ret ?_
    | refine InBlock.normal ?_
    | refine InBlock.ret ?_
    | (apply InBlock.same;exact rfl)
    | (apply InBlock.other;exact rfl)
    | (apply TO.sub64;exact rfl;exact rfl;exact rfl;omega;omega)
    | (apply TO.mul64;exact rfl;exact rfl;exact rfl;omega;omega)
    | (apply TO.convert_u8;exact rfl;kernel_rfl;kernel_rfl;exact rfl)
    | (apply TO.bin;exact rfl;exact rfl;exact rfl;exact rfl)
    | (apply TO.slice2 tabOk;exact rfl;exact rfl;exact rfl;exact rfl;exact rfl;exact rfl;omega;omega)
    | (apply TO.slice_lo tabOk;exact rfl;exact rfl;exact rfl;exact rfl;exact rfl;omega)
    | (apply TO.slice_hi tabOk;exact rfl;exact rfl;exact rfl;exact rfl;exact rfl;omega)
    | (apply TO.not;exact rfl;exact rfl)
    | (apply TO.nilCheck_fn;exact rfl;exact rfl)
    | (apply TO.load_agg tabOk;exact rfl;exact rfl;exact rfl;exact rfl;exact Nat.le_of_ble_eq_true rfl)
    | (apply TO.load_ref_agg tabOk;exact rfl;exact rfl;exact rfl;exact rfl;exact rfl;exact Nat.le_of_ble_eq_true rfl)
    | (apply TO.len_ms tabOk;exact rfl;exact rfl;exact rfl;exact rfl)
    | (apply TO.buildT tabOk;exact rfl;exact rfl;exact rfl;exact rfl;exact rfl;exact rfl;exact rfl)
    | (apply TO.build tabOk;exact rfl;exact rfl;exact rfl;exact rfl;exact rfl;exact rfl)
    | (apply TO.box;exact rfl;exact rfl;exact rfl;exact rfl)
    | (apply TO.alloc tabOk;exact rfl;exact rfl;exact rfl)
    | (apply TO.store tabOk;exact rfl;exact rfl;exact rfl;exact rfl;exact rfl;exact rfl;exact Nat.le_of_ble_eq_true rfl;exact rfl;exact Nat.le_of_ble_eq_true rfl;exact rfl)
    | (apply TO.buildSliceB tabOk;exact rfl;exact rfl;exact rfl;exact rfl;exact rfl;exact rfl;exact rfl;exact rfl;exact rfl;exact rfl)
    | (apply TO.appendB tabOk;exact rfl;exact rfl;exact rfl;exact rfl;exact rfl;exact rfl;exact rfl;exact rfl;exact rfl;exact rfl;exact rfl;exact rfl;exact rfl;(first|omega|(simp only[List.length_append,List.length_cons,List.length_nil];omega));exact rfl)
    | (apply TO.eqb;exact rfl;exact rfl;exact rfl;kernel_rfl)
    | (apply TO.neb;exact rfl;exact rfl;exact rfl;kernel_rfl)
    | (apply TO.elem_nat (j:=0) tabOk;exact rfl;exact rfl;exact rfl;exact rfl;exact rfl;exact rfl;exact rfl;exact rfl;exact rfl;exact rfl)
    | (apply TO.makeFunc;exact rfl;exact rfl)
    | (apply TO.fieldAddr_tref tabOk;exact rfl;exact rfl;exact rfl;exact rfl;exact rfl;decide;exact rfl)
    | (apply TO.eq_nil_ptr tabOk;exact rfl;exact rfl;exact rfl;exact rfl;exact rfl)
    | (apply TO.eq_nil_nil tabOk;exact rfl;exact rfl;exact rfl;exact rfl)
    | (apply TO.ne_nil_ptr tabOk;exact rfl;exact rfl;exact rfl;exact rfl;exact rfl)
    | (apply TO.ne_nil_nil tabOk;exact rfl;exact rfl;exact rfl;exact rfl)
    | (apply TO.ssl2 tabOk;exact rfl;exact rfl;exact rfl;exact rfl;exact rfl;exact rfl;exact rfl;exact rfl;exact rfl;omega;omega)
    | (apply TO.ssl_lo tabOk;exact rfl;exact rfl;exact rfl;exact rfl;exact rfl;exact rfl;exact rfl;exact rfl;omega)
    | (apply TO.ssl_hi tabOk;exact rfl;exact rfl;exact rfl;exact rfl;exact rfl;exact rfl;exact rfl;exact rfl;omega))
   all_goals(refine RetK.keep 1 rfl (Le.of_eq (congrArg tokR (a₁:=(_,_,_)) (a₂:=numTok _) ?_)) rfl rfl rfl rfl rfl ⟨rfl,?_⟩ <;> first|rfl|(simp_all [numTok];done)|(simp only[numTok];(repeat' split) <;> first|rfl|(exfalso;simp_all;done)|(exfalso;simp_all <;> omega)))
 | cons c r=>
   repeat' (first
    | (apply TO.move;exact rfl;exact rfl)
    | (apply TO.assign;exact rfl;exact rfl)
    | (apply TO.want;exact rfl)
    | (apply TO.add;exact rfl;exact rfl;exact rfl;omega;omega)
    | (apply TO.cat;exact rfl;exact rfl;exact rfl;(first|omega|(simp only[List.length_append,List.length_cons,List.length_nil];omega)))
    | (apply TO.eqs;exact rfl;exact rfl;exact rfl)
    | (apply TO.nes;exact rfl;exact rfl;exact rfl)
    | (apply TO.cmp;exact rfl;exact rfl;exact rfl;exact rfl)
    | (intro hc;exact absurd hc (by decide))
    | (intro hc;exfalso;simp only[decide_eq_true_eq,decide_eq_false_iff_not,beq_iff_eq,beq_eq_false_iff_ne,bne_iff_ne,bne_eq_false_iff_eq,ne_eq,Decidable.not_not,not_true_eq_false]at hc;done)
    | (intro hc;exfalso;(first|simp only[decide_eq_true_eq,decide_eq_false_iff_not,beq_iff_eq,beq_eq_false_iff_ne,bne_iff_ne,bne_eq_false_iff_eq,ne_eq,Decidable.not_not,not_true_eq_false]at hc|skip);first|omega|(simp only[List.length_nil,List.length_cons]at *;omega))
    | intro hc
    | (apply TO.pick;exact rfl;exact rfl;exact rfl)
    | (apply TO.pass;exact rfl;exact rfl)
    | (apply TO.pass0;exact rfl)
    | (apply TO.load tabOk;exact rfl;exact rfl;exact rfl;exact rfl;exact rfl)
    | (apply TO.load_ref tabOk;exact rfl;exact rfl;exact rfl;exact rfl;exact rfl;exact rfl)
    | (apply TO.fieldAddr tabOk;exact rfl;exact rfl;exact rfl;exact rfl;exact rfl;decide;exact rfl)
    | (apply TO.fieldAddr_ref tabOk;exact rfl;exact rfl;exact rfl;exact rfl;exact rfl;decide;exact rfl)
    | (apply TO.nilCheck;exact rfl;exact rfl;exact rfl)
    | (apply TO.index_nat tabOk;exact rfl;exact rfl;exact rfl;exact rfl;exact rfl;assumption)
    | (apply TO.index_str tabOk;exact rfl;exact rfl;exact rfl;exact rfl;exact rfl;decide;exact rfl)
    | (apply TO.len_str tabOk;exact rfl;exact rfl;exact rfl;exact rfl)
    | (apply TO.len_sl tabOk;exact rfl;exact rfl;exact rfl;exact rfl;exact rfl;exact rfl;exact rfl)
    | (apply TO.elem_nat tabOk;exact rfl;exact rfl;exact rfl;exact rfl;exact rfl;exact rfl;exact rfl;exact rfl;assumption;exact rfl)
    | (apply TO.extract;exact rfl;exact rfl;exact rfl)
    | (apply TO.call1 [0] (v':=.s (c::r)) (H':=[.cells [.s s,.i ((i+(c::r).length:Nat):Int)],.cells [.i 0,.s [],.i 0]]) (hS1);exact rfl;exact rfl;exact rfl;(first|exact⟨Le.refl _,trivial⟩|exact⟨Le.refl _,Le.refl _,trivial⟩|exact⟨Le.refl _,Le.refl _,Le.refl _,trivial⟩);exact rfl;exact Hands.one rfl rfl;exact rfl;exact rfl)
    | (apply TO.callBb (keyword_sound _);exact rfl;exact rfl;exact rfl;exact⟨.t _,trivial⟩)
    | refine TO.nil ?_
    | refine TR.seq ?_
    | refine TR.region ?_
    | (apply TR.condT;exact rfl)
    | (apply TR.condF;exact rfl)
    | refine Then.normal ?_
    | refine TR.block ?_
    | refine TR.skip ?_
    | (apply TR.regionQ hmix;kernel_rfl;exact rfl)
    | refine TR.exit ?_
    | refine TR.ret ?_
    | refine Then.exit ?_
    | refine Then.ret ?_
    | refine LoopK.exit ?_
    | refine LoopK.ret ?_
    | refine InBlock.normal ?_
    | refine InBlock.ret ?_
    | (apply InBlock.same;exact rfl)
    | (apply InBlock.other;exact rfl)
    | (apply TO.sub64;exact rfl;exact rfl;exact rfl;omega;omega)
    | (apply TO.mul64;exact rfl;exact rfl;exact rfl;omega;omega)
    | (apply TO.convert_u8;exact rfl;kernel_rfl;kernel_rfl;exact rfl)
    | (apply TO.bin;exact rfl;exact rfl;exact rfl;exact rfl)
    | (apply TO.slice2 tabOk;exact rfl;exact rfl;exact rfl;exact rfl;exact rfl;exact rfl;omega;omega)
    | (apply TO.slice_lo tabOk;exact rfl;exact rfl;exact rfl;exact rfl;exact rfl;omega)
    | (apply TO.slice_hi tabOk;exact rfl;exact rfl;exact rfl;exact rfl;exact rfl;omega)
    | (apply TO.not;exact rfl;exact rfl)
    | (apply TO.nilCheck_fn;exact rfl;exact rfl)
    | (apply TO.load_agg tabOk;exact rfl;exact rfl;exact rfl;exact rfl;exact Nat.le_of_ble_eq_true rfl)
    | (apply TO.load_ref_agg tabOk;exact rfl;exact rfl;exact rfl;exact rfl;exact rfl;exact Nat.le_of_ble_eq_true rfl)
    | (apply TO.len_ms tabOk;exact rfl;exact rfl;exact rfl;exact rfl)
    | (apply TO.buildT tabOk;exact rfl;exact rfl;exact rfl;exact rfl;exact rfl;exact rfl;exact rfl)
    | (apply TO.build tabOk;exact rfl;exact rfl;exact rfl;exact rfl;exact rfl;exact rfl)
    | (apply TO.box;exact rfl;exact rfl;exact rfl;exact rfl)
    | (apply TO.alloc tabOk;exact rfl;exact rfl;exact rfl)
    | (apply TO.store tabOk;exact rfl;exact rfl;exact rfl;exact rfl;exact rfl;exact rfl;exact Nat.le_of_ble_eq_true rfl;exact rfl;exact Nat.le_of_ble_eq_true rfl;exact rfl)
    | (apply TO.buildSliceB tabOk;exact rfl;exact rfl;exact rfl;exact rfl;exact rfl;exact rfl;exact rfl;exact rfl;exact rfl;exact rfl)
    | (apply TO.appendB tabOk;exact rfl;exact rfl;exact rfl;exact rfl;exact rfl;exact rfl;exact rfl;exact rfl;exact rfl;exact rfl;exact rfl;exact rfl;exact rfl;(first|omega|(simp only[List.length_append,List.length_cons,List.length_nil];omega));exact rfl)
    | (apply TO.eqb;exact rfl;exact rfl;exact rfl;kernel_rfl)
    | (apply TO.neb;exact rfl;exact rfl;exact rfl;kernel_rfl)
    | (apply TO.elem_nat (j:=0) tabOk;exact rfl;exact rfl;exact rfl;exact rfl;exact rfl;exact rfl;exact rfl;exact rfl;exact rfl;exact rfl)
    | (apply TO.makeFunc;exact rfl;exact rfl)
    | (apply TO.fieldAddr_tref tabOk;exact rfl;exact rfl;exact rfl;exact rfl;exact rfl;decide;exact rfl)
    | (apply TO.eq_nil_ptr tabOk;exact rfl;exact rfl;exact rfl;exact rfl;exact rfl)
    | (apply TO.eq_nil_nil tabOk;exact rfl;exact rfl;exact rfl;exact rfl)
    | (apply TO.ne_nil_ptr tabOk;exact rfl;exact rfl;exact rfl;exact rfl;exact rfl)
    | (apply TO.ne_nil_nil tabOk;exact rfl;exact rfl;exact rfl;exact rfl)
    | (apply TO.ssl2 tabOk;exact rfl;exact rfl;exact rfl;exact rfl;exact rfl;exact rfl;exact rfl;exact rfl;exact rfl;omega;omega)
    | (apply TO.ssl_lo tabOk;exact rfl;exact rfl;exact rfl;exact rfl;exact rfl;exact rfl;exact rfl;exact rfl;omega)
    | (apply TO.ssl_hi tabOk;exact rfl;exact rfl;exact rfl;exact rfl;exact rfl;exact rfl;exact rfl;exact rfl;omega))
   all_goals(refine RetK.keep 1 rfl (Le.of_eq (congrArg tokR (a₁:=(_,_,_)) (a₂:=numTok _) ?_)) rfl rfl rfl rfl rfl ⟨rfl,?_⟩ <;> first|rfl|(simp_all [numTok];done)|(simp only[numTok];(repeat' split) <;> first|rfl|(exfalso;simp_all;done)|(exfalso;simp_all <;> omega)))
end Go.Proofs.YtlfdkafebmdoiaaGreat
