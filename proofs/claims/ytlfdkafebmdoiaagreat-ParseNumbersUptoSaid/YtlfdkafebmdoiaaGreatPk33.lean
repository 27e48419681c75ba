import Derived.RegionTactic
import Derived.WalkKit
import Derived.Test.YtlfdkafebmdoiaaGreatPk7
import Derived.Test.YtlfdkafebmdoiaaGreatPk8
import Derived.Test.YtlfdkafebmdoiaaGreatPk11
import Derived.Test.YtlfdkafebmdoiaaGreatPk12
import Derived.Test.YtlfdkafebmdoiaaGreatPk21
set_option linter.unusedSimpArgs false
set_option linter.unusedVariables false
namespace Go.Proofs.YtlfdkafebmdoiaaGreat
open Go Go.TL
attribute [local irreducible] TR TO Then InBlock RetK Sound LoopK Kf GG ThenL
def same1(pl:Bool)(x y:Tok):Bool:=!((x.1 != y.1 || !(x.2.1 == y.2.1)) || (pl && x.2.2 != y.2.2))
def same(pl:Bool):List Tok->List Tok->Bool
 | [],[]=>true
 | x::a,y::b=>same1 pl x y && same pl a b
 | _,_=>false
def symsR:List Str:=[[45,62],[60,62],[60,61],[62,61],[40],[41],[58],[59],[44],[61],[124],[60],[62],[43],[45],[42],[47]]
def stopVal:Int->Str->Int
 | n,[]=>n
 | n,c::r=>if n≤32768 then stopVal (10*n+c.toNat-48) r else n
theorem span_all(p:Int->Bool):∀(l:Str),∀c∈spanOf p l,p c.toNat=true
 | [],c,h=>by cases h
 | x::l,c,h=>by
   unfold spanOf at h
   split at h
   ·rcases List.mem_cons.1 h with rfl|h
    ·assumption
    ·exact span_all p l c h
   ·cases h
theorem stopVal_big{n:Int}(h:32768<n):∀l,stopVal n l=n
 | []=>rfl
 | c::r=>by unfold stopVal;rw[if_neg (by omega)]
end Go.Proofs.YtlfdkafebmdoiaaGreat
namespace Go.Proofs.YtlfdkafebmdoiaaGreat
open Go Go.TL
theorem hasPre1(c x:UInt8)(r:Str):hasPre (c::r) [x]=(c == x):=by simp[hasPre]
theorem hasPre2(c d x y:UInt8)(r:Str):hasPre (c::d::r) [x,y]=(c == x && d == y):=by simp[hasPre]
theorem hasPre2'(c x y:UInt8):hasPre [c] [x,y]=false:=by simp[hasPre]
set_option maxRecDepth 100000 in
theorem best_find (c:UInt8) (r:Str):best (c::r) symsL=((symsR.find? (hasPre (c::r))).getD []):=by
 cases r with
 | nil=>
   simp only[best,symsL,symsR,List.foldl,best1,hasPre1,hasPre2',List.find?,List.length_nil,List.length_cons]
   by_cases h:c=40\/c=41\/c=58\/c=59\/c=44\/c=61\/c=124\/c=60\/c=62\/c=43\/c=45\/c=42\/c=47
   ·rcases h with h|h|h|h|h|h|h|h|h|h|h|h|h <;> subst h <;> (first|rfl|decide|simp)
   ·simp only[not_or]at h
    obtain⟨h1,h2,h3,h4,h5,h6,h7,h8,h9,h10,h11,h12,h13⟩:=h
    simp only[beq_eq_false_iff_ne.2 h1,beq_eq_false_iff_ne.2 h2,beq_eq_false_iff_ne.2 h3,beq_eq_false_iff_ne.2 h4,beq_eq_false_iff_ne.2 h5,beq_eq_false_iff_ne.2 h6,beq_eq_false_iff_ne.2 h7,beq_eq_false_iff_ne.2 h8,beq_eq_false_iff_ne.2 h9,beq_eq_false_iff_ne.2 h10,beq_eq_false_iff_ne.2 h11,beq_eq_false_iff_ne.2 h12,beq_eq_false_iff_ne.2 h13,Bool.false_and,Bool.and_false]
    simp
 | cons d r=>
   simp only[best,symsL,symsR,List.foldl,best1,hasPre1,hasPre2,List.find?,List.length_nil,List.length_cons]
   by_cases h:c=40\/c=41\/c=58\/c=59\/c=44\/c=61\/c=124\/c=60\/c=62\/c=43\/c=45\/c=42\/c=47
   ·by_cases g:d=62\/d=61
    ·rcases g with g|g <;> subst g <;> rcases h with h|h|h|h|h|h|h|h|h|h|h|h|h <;> subst h <;> (first|rfl|decide|simp)
    ·simp only[not_or]at g
     have e1:(d == 62)=false:=by simp[g.1]
     have e2:(d == 61)=false:=by simp[g.2]
     simp only[e1,e2,Bool.and_false]
     rcases h with h|h|h|h|h|h|h|h|h|h|h|h|h <;> subst h <;> (first|rfl|decide|simp)
   ·simp only[not_or]at h
    obtain⟨h1,h2,h3,h4,h5,h6,h7,h8,h9,h10,h11,h12,h13⟩:=h
    simp only[beq_eq_false_iff_ne.2 h1,beq_eq_false_iff_ne.2 h2,beq_eq_false_iff_ne.2 h3,beq_eq_false_iff_ne.2 h4,beq_eq_false_iff_ne.2 h5,beq_eq_false_iff_ne.2 h6,beq_eq_false_iff_ne.2 h7,beq_eq_false_iff_ne.2 h8,beq_eq_false_iff_ne.2 h9,beq_eq_false_iff_ne.2 h10,beq_eq_false_iff_ne.2 h11,beq_eq_false_iff_ne.2 h12,beq_eq_false_iff_ne.2 h13,Bool.false_and,Bool.and_false]
    simp
def isDigit(c:UInt8):Prop:=48≤(c.toNat:Int)/\(c.toNat:Int)≤57
theorem stopVal_six(f:UInt8)(r:Str)(n:Int)(h:10000≤n)(hw:∀c∈f::r,isDigit c):32768<stopVal n (f::r):=by
 unfold stopVal
 split
 ·have:=hw f List.mem_cons_self
  unfold isDigit at this
  rw[stopVal_big (by omega)];omega
 ·omega
set_option maxHeartbeats 1000000 in
theorem num_stop (w:Str) (hw:∀c∈w,isDigit c) (hz:(decide (1<(w.length:Int)) && (match w with|c::_=>((c.toNat:Int) == 48)|[]=>false))=false):
  (decide (5<(w.length:Int)) || ((w.length:Int) == 5 && !(Op.bytesLess w [51,50,55,54,56] || w == [51,50,55,54,56])))=decide (32768<stopVal 0 w):=by
 unfold isDigit at hw
 match w,hw,hz with
 | [],_,_=>simp[stopVal]
 | [a],hw,_=>
   have h1:=hw a (by simp)
   have hv:stopVal 0 [a]=1*(a.toNat-48:Int):=by
    simp only[stopVal]
    rw[if_pos (by omega)];omega
   rw[hv]
   simp;omega
 | [a,b],hw,_=>
   have h1:=hw a (by simp)
   have h2:=hw b (by simp)
   have hv:stopVal 0 [a,b]=10*(a.toNat-48:Int)+1*(b.toNat-48:Int):=by
    simp only[stopVal]
    rw[if_pos (by omega),if_pos (by omega)];omega
   rw[hv]
   simp;omega
 | [a,b,c],hw,_=>
   have h1:=hw a (by simp)
   have h2:=hw b (by simp)
   have h3:=hw c (by simp)
   have hv:stopVal 0 [a,b,c]=100*(a.toNat-48:Int)+10*(b.toNat-48:Int)+1*(c.toNat-48:Int):=by
    simp only[stopVal]
    rw[if_pos (by omega),if_pos (by omega),if_pos (by omega)];omega
   rw[hv]
   simp;omega
 | [a,b,c,d],hw,_=>
   have h1:=hw a (by simp)
   have h2:=hw b (by simp)
   have h3:=hw c (by simp)
   have h4:=hw d (by simp)
   have hv:stopVal 0 [a,b,c,d]=1000*(a.toNat-48:Int)+100*(b.toNat-48:Int)+10*(c.toNat-48:Int)+1*(d.toNat-48:Int):=by
    simp only[stopVal]
    rw[if_pos (by omega),if_pos (by omega),if_pos (by omega),if_pos (by omega)];omega
   rw[hv]
   simp;omega
 | [a,b,c,d,e],hw,_=>
   have h1:=hw a (by simp)
   have h2:=hw b (by simp)
   have h3:=hw c (by simp)
   have h4:=hw d (by simp)
   have h5:=hw e (by simp)
   have hv:stopVal 0 [a,b,c,d,e]=10000*(a.toNat-48:Int)+1000*(b.toNat-48:Int)+100*(c.toNat-48:Int)+10*(d.toNat-48:Int)+1*(e.toNat-48:Int):=by
    simp only[stopVal]
    rw[if_pos (by omega),if_pos (by omega),if_pos (by omega),if_pos (by omega),if_pos (by omega)];omega
   rw[hv]
   rw[Bool.eq_iff_iff]
   simp[Op.bytesLess,UInt8.lt_iff_toNat_lt,<-UInt8.toNat_inj]
   omega
 | a::b::c::d::e::f::r,hw,hz=>
   have h1:=hw a (by simp)
   have h2:=hw b (by simp)
   have h3:=hw c (by simp)
   have h4:=hw d (by simp)
   have h5:=hw e (by simp)
   have hz':¬(a.toNat:Int)=48:=by
    intro h
    simp[h]at hz
    omega
   have h6:32768<stopVal 0 (a::b::c::d::e::f::r):=by
    unfold stopVal
    rw[if_pos (by omega)]
    unfold stopVal
    rw[if_pos (by omega)]
    unfold stopVal
    rw[if_pos (by omega)]
    unfold stopVal
    rw[if_pos (by omega)]
    unfold stopVal
    rw[if_pos (by omega)]
    exact stopVal_six f r _ (by omega) fun x hx=>hw x (by simp at hx⊢;rcases hx with hx|hx <;> simp[hx])
   simp[h6]
   left;omega
theorem behind_yes{p:Int->Bool}{c:UInt8}{r:Str}(h:p c.toNat=true):behind p (c::r)=behind p r:=by simp[behind,spanOf,h]
theorem behind_no{p:Int->Bool}{c:UInt8}{r:Str}(h:p c.toNat=false):behind p (c::r)=c::r:=by simp[behind,spanOf,h]
theorem skipped_blank{c:UInt8}{r:Str}(h:blank c.toNat=true):skipped (c::r)=skipped r:=by
 rw[skipped_eq (c::r),skipped_eq r,behind_yes h]
theorem skipped_token{c:UInt8}{r:Str}(h:blank c.toNat=false)(h2:hasPre (c::r) [45,45]=false):skipped (c::r)=c::r:=by
 rw[skipped_eq (c::r),behind_no h,if_neg (by simp[h2])]
end Go.Proofs.YtlfdkafebmdoiaaGreat
namespace Go.Proofs.YtlfdkafebmdoiaaGreat
open Go Go.TL
attribute [local irreducible] TR TO Then InBlock RetK Sound LoopK Kf GG ThenL
def tokText(t:Tok):Str:=if(t.1 == 5)=true then[39]++t.2.1++[39] else t.2.1
end Go.Proofs.YtlfdkafebmdoiaaGreat
namespace Go.Proofs.YtlfdkafebmdoiaaGreat
open Go Go.TL
def nextAt(s:Str)(i:Nat):Nat:=s.length-(skipped (s.drop i)).length
theorem nextAt_ge{s:Str}{i:Nat}(hi:i≤s.length):i≤nextAt s i/\nextAt s i≤s.length:=by
 have h:=skipped_len (s.drop i)
 rw[List.length_drop]at h
 unfold nextAt;omega
theorem scanF_step(n:Nat)(s:Str)(i:Nat)(out:List Tok):scanF (n+1) s i out=
  (if nextAt s i=s.length then(out,0,0)
   else if((tokenAt (s.drop (nextAt s i))).1.2.2 != 0)=true then([],(nextAt s i:Int),(tokenAt (s.drop (nextAt s i))).1.2.2)
   else scanF n s (nextAt s i+(tokenAt (s.drop (nextAt s i))).2) (out++[((tokenAt (s.drop (nextAt s i))).1.1,(tokenAt (s.drop (nextAt s i))).1.2.1,(nextAt s i:Int))])):=rfl
theorem tok_reach{s:Str}{i:Nat}(hi:i≤s.length)(h1:nextAt s i≠s.length)(h2:((tokenAt (s.drop (nextAt s i))).1.2.2 != 0)=false):
  i<nextAt s i+(tokenAt (s.drop (nextAt s i))).2/\nextAt s i+(tokenAt (s.drop (nextAt s i))).2≤s.length:=by
 obtain⟨g1,g2⟩:=nextAt_ge hi
 have hl:=tokenAt_len (l:=s.drop (nextAt s i)) (by simp;omega) h2
 rw[List.length_drop]at hl
 omega
theorem scanF_acc(s:Str):∀(n i:Nat) (out:List Tok),s.length-i<n->i≤s.length->
  scanF n s i out=(if(scanF n s i []).2.2=0 then(out++(scanF n s i []).1,(scanF n s i []).2.1,0) else scanF n s i []):=by
 intro n
 induction n with
 | zero=>intro i out h;omega
 | succ n ih=>
   intro i out hn hi
   by_cases h1:nextAt s i=s.length
   ·rw[scanF_step,scanF_step,if_pos h1,if_pos h1];simp
   ·cases h2:((tokenAt (s.drop (nextAt s i))).1.2.2 != 0) with
    | true=>
      have h3:¬(tokenAt (s.drop (nextAt s i))).1.2.2=0:=by simpa using h2
      rw[scanF_step,scanF_step,if_neg h1,if_neg h1,if_pos h2,if_pos h2,if_neg h3]
    | false=>
      obtain⟨g1,g2⟩:=tok_reach hi h1 h2
      have e:∀out,scanF (n+1) s i out=scanF n s (nextAt s i+(tokenAt (s.drop (nextAt s i))).2) (out++[((tokenAt (s.drop (nextAt s i))).1.1,(tokenAt (s.drop (nextAt s i))).1.2.1,(nextAt s i:Int))]):=fun out=>by
       rw[scanF_step,if_neg h1,if_neg (by rw[h2];simp)]
      rw[e,e,ih _ (out++_) (by omega) g2,ih _ ([]++_) (by omega) g2]
      by_cases h3:(scanF n s (nextAt s i+(tokenAt (s.drop (nextAt s i))).2) []).2.2=0
      ·simp[h3]
      ·simp[h3]
def toks(s:Str)(i:Nat):List Tok×Int×Int:=scanF (s.length-i+1) s i []
theorem scanF_fuel(s:Str):∀(n m i:Nat) (out:List Tok),s.length-i<n->s.length-i<m->i≤s.length->scanF n s i out=scanF m s i out:=by
 intro n
 induction n with
 | zero=>intro m i out h;omega
 | succ n ih=>
   intro m i out hn hm hi
   obtain⟨m,rfl⟩:∃k,m=k+1:=⟨m-1,by omega⟩
   rw[scanF_step,scanF_step]
   by_cases h1:nextAt s i=s.length
   ·rw[if_pos h1,if_pos h1]
   ·rw[if_neg h1,if_neg h1]
    cases h2:((tokenAt (s.drop (nextAt s i))).1.2.2 != 0) with
    | true=>rfl
    | false=>
      obtain⟨g1,g2⟩:=tok_reach hi h1 h2
      exact ih m _ _ (by omega) (by omega) g2
theorem scan_toks{s:Str}(h:s.length≤65536):scan s=toks s 0:=if_neg (by omega)
theorem toks_end{s:Str}{i:Nat}(h:nextAt s i=s.length):toks s i=([],0,0):=by
 rw[toks,scanF_step,if_pos h]
theorem toks_err{s:Str}{i:Nat}(h:nextAt s i≠s.length)(h2:((tokenAt (s.drop (nextAt s i))).1.2.2 != 0)=true):toks s i=([],(nextAt s i:Int),(tokenAt (s.drop (nextAt s i))).1.2.2):=by
 rw[toks,scanF_step,if_neg h,if_pos h2]
theorem toks_cons{s:Str}{i:Nat}(hi:i≤s.length)(h:nextAt s i≠s.length)(h2:((tokenAt (s.drop (nextAt s i))).1.2.2 != 0)=false):
  toks s i=(if(toks s (nextAt s i+(tokenAt (s.drop (nextAt s i))).2)).2.2=0 then
   (((tokenAt (s.drop (nextAt s i))).1.1,(tokenAt (s.drop (nextAt s i))).1.2.1,(nextAt s i:Int))::(toks s (nextAt s i+(tokenAt (s.drop (nextAt s i))).2)).1,(toks s (nextAt s i+(tokenAt (s.drop (nextAt s i))).2)).2.1,0)
   else toks s (nextAt s i+(tokenAt (s.drop (nextAt s i))).2)):=by
 obtain⟨g1,g2⟩:=tok_reach hi h h2
 have e:toks s i=scanF (s.length-i) s (nextAt s i+(tokenAt (s.drop (nextAt s i))).2) ([]++[((tokenAt (s.drop (nextAt s i))).1.1,(tokenAt (s.drop (nextAt s i))).1.2.1,(nextAt s i:Int))]):=by
  rw[toks,scanF_step,if_neg h,if_neg (by rw[h2];simp)]
 have f:scanF (s.length-i) s (nextAt s i+(tokenAt (s.drop (nextAt s i))).2) []=toks s (nextAt s i+(tokenAt (s.drop (nextAt s i))).2):=scanF_fuel s _ _ _ _ (by omega) (by omega) g2
 rw[e,scanF_acc s _ _ _ (by omega) g2,f]
 rfl
theorem spanOf_full{p:Int->Bool}:∀ {l:Str},(∀c∈l,p c.toNat=true)->spanOf p l=l
 | [],_=>rfl
 | c::r,h=>by
   unfold spanOf
   rw[if_pos (h c List.mem_cons_self),spanOf_full fun x hx=>h x (List.mem_cons_of_mem _ hx)]
theorem letter_facts{c:UInt8}(h:letter c.toNat=true):blank c.toNat=false/\c≠45/\inner c.toNat=true:=by
 refine⟨?_,?_,?_⟩
 ·cases hb:blank c.toNat with
  | false=>rfl
  | true=>
    exfalso
    simp[letter,blank]at h hb
    omega
 ·rintro rfl
  revert h;decide
 ·simp[inner,h]
end Go.Proofs.YtlfdkafebmdoiaaGreat
namespace Go.Proofs.YtlfdkafebmdoiaaGreat
open Go Go.TL
attribute [local irreducible] TR TO Then InBlock RetK Sound LoopK Kf GG ThenL
theorem scanF_count(s:Str):∀(n i:Nat) (out:List Tok),i≤s.length->out.length≤i->(scanF n s i out).1.length≤s.length:=by
 intro n
 induction n with
 | zero=>intro i out _ _;simp[scanF]
 | succ n ih=>
   intro i out hi ho
   rw[scanF_step]
   by_cases h1:nextAt s i=s.length
   ·rw[if_pos h1];simp only;omega
   ·rw[if_neg h1]
    cases h2:((tokenAt (s.drop (nextAt s i))).1.2.2 != 0) with
    | true=>simp
    | false=>
      obtain⟨g1,g2⟩:=tok_reach hi h1 h2
      exact ih _ _ g2 (by simp;omega)
theorem scan_count(s:Str):(scan s).1.length≤65536:=by
 unfold scan
 split
 ·simp
 ·have:=scanF_count s (s.length+1) 0 [] (Nat.zero_le _) (Nat.le_refl _)
  omega
end Go.Proofs.YtlfdkafebmdoiaaGreat
namespace Go.Proofs.YtlfdkafebmdoiaaGreat
open Go Go.TL
def skippedF:Nat->Str->Str
 | 0,l=>l
 | n+1,l=>if hasPre (behind blank l) [45,45]=true then skippedF n (behind (fun c=>c != 10) (behind blank l)) else behind blank l
theorem skippedF_eq:∀(n:Nat) (l:Str),l.length<n->skippedF n l=skipped l:=by
 intro n
 induction n with
 | zero=>intro l h;omega
 | succ n ih=>
   intro l h
   rw[skippedF,skipped_eq]
   have h1:=behind_len blank l
   by_cases g:hasPre (behind blank l) [45,45]=true
   ·rw[if_pos g,if_pos g]
    obtain⟨r,hr⟩:=hasPre_drop g
    have h2:=@behind_ne r
    rw[hr]at h1⊢
    exact ih _ (by omega)
   ·rw[if_neg g,if_neg g]
def scanC:Nat->Str->Nat->List Tok->List Tok×Int×Int
 | 0,_,_,_=>([],0,0)
 | n+1,s,i,out=>
   if s.length-(skippedF (s.length+1) (s.drop i)).length=s.length then(out,0,0)
   else if((tokenAt (s.drop (s.length-(skippedF (s.length+1) (s.drop i)).length))).1.2.2 != 0)=true then([],((s.length-(skippedF (s.length+1) (s.drop i)).length:Nat):Int),(tokenAt (s.drop (s.length-(skippedF (s.length+1) (s.drop i)).length))).1.2.2)
   else scanC n s (s.length-(skippedF (s.length+1) (s.drop i)).length+(tokenAt (s.drop (s.length-(skippedF (s.length+1) (s.drop i)).length))).2)
    (out++[((tokenAt (s.drop (s.length-(skippedF (s.length+1) (s.drop i)).length))).1.1,(tokenAt (s.drop (s.length-(skippedF (s.length+1) (s.drop i)).length))).1.2.1,((s.length-(skippedF (s.length+1) (s.drop i)).length:Nat):Int))])
theorem scanC_eq(s:Str):∀(n i:Nat) (out:List Tok),scanF n s i out=scanC n s i out:=by
 intro n
 induction n with
 | zero=>intro i out;rfl
 | succ n ih=>
   intro i out
   have h:skippedF (s.length+1) (s.drop i)=skipped (s.drop i):=skippedF_eq _ _ (by simp;omega)
   rw[scanF,scanC,h]
   split
   ·rfl
   ·split
    ·rfl
    ·exact ih _ _
theorem span_append{p:Int->Bool}:∀ {w R:Str},(∀c∈w,p c.toNat=true)->(∀c r,R=c::r->p c.toNat=false)->spanOf p (w++R)=w
 | [],R,_,hR=>by
   cases R with
   | nil=>rfl
   | cons c r=>simp[spanOf,hR c r rfl]
 | c::w,R,hw,hR=>by
   rw[List.cons_append,spanOf,if_pos (hw c List.mem_cons_self),span_append (fun x hx=>hw x (List.mem_cons_of_mem _ hx)) hR]
def TokOk(k:Int)(x:Str):Prop:=
 (∃c w,x=c::w/\letter c.toNat=true/\(∀d∈x,inner d.toNat=true)/\nameTok x=(k,x,0))\/
 (∃c w,x=c::w/\(∀d∈x,digit d.toNat=true)/\numTok x=(k,x,0))\/
 (k=5/\∀d∈x,wordByte d.toNat=true)\/(k=4/\x∈symsL)
theorem best_mem(l:Str):∀(all:List Str) (b:Str),all.foldl (best1 l) b=b\/(all.foldl (best1 l) b∈all/\hasPre l (all.foldl (best1 l) b)=true)
 | [],b=>.inl rfl
 | x::all,b=>by
   rw[List.foldl_cons]
   rcases best_mem l all (best1 l b x)with h|h
   ·rw[h]
    unfold best1
    split
    ·rename_i hx
     simp only[Bool.and_eq_true]at hx
     exact .inr ⟨List.mem_cons_self,hx.2⟩
    ·exact .inl rfl
   ·exact .inr ⟨List.mem_cons_of_mem _ h.1,h.2⟩
theorem hasPre_take{l x:Str}(h:hasPre l x=true):l.take x.length=x:=by
 simp only[hasPre,Bool.and_eq_true,beq_iff_eq]at h
 exact h.2
theorem num_nz{w:Str}{k:Int}{x:Str}(h:numTok w=(k,x,0)):k=2/\x=w:=by
 have key:∀(a b:Bool),(if a=true then((0:Int),([]:Str),(5:Int)) else if b=true then(0,[],14) else(2,w,0))=(k,x,0)->k=2/\x=w:=by
  intro a b h
  cases a <;> cases b <;> simp at h
  exact⟨h.1.symm,h.2.symm⟩
 exact key _ _ h
theorem name_nz{w:Str}{k:Int}{x:Str}(h:nameTok w=(k,x,0)):(k=3\/k=1)/\x=w:=by
 unfold nameTok at h
 split at h
 ·simp at h
 ·split at h <;> simp at h
  ·exact⟨.inl h.1.symm,h.2.symm⟩
  ·exact⟨.inr h.1.symm,h.2.symm⟩
theorem token_ok{r:Str}{k:Int}{x:Str}{n:Nat}(hr:r≠ [])(h:tokenAt r=((k,x,0),n))(p:Int):TokOk k x/\r.take n=tokText (k,x,p)/\n=(tokText (k,x,p)).length:=by
 match r,hr with
 | c::r,_=>
   unfold tokenAt at h
   simp only at h
   split at h
   ·rename_i hc
    simp only[Prod.mk.injEq]at h
    obtain⟨h1,h2⟩:=h
    obtain⟨hk,hx⟩:=name_nz h1
    have ht:=spanOf_take inner (c::r)
    have ha:=span_all inner (c::r)
    have hs:spanOf inner (c::r)=c::spanOf inner r:=by rw[spanOf,if_pos (letter_facts hc).2.2]
    have htx:tokText (k,x,p)=x:=by
     unfold tokText
     rw[if_neg]
     rcases hk with rfl|rfl <;> simp
    rw[htx,hx,<-h2]
    rw[hx]at h1
    exact⟨.inl ⟨c,spanOf inner r,hs,hc,ha,h1⟩,ht.symm,rfl⟩
   ·split at h
    ·rename_i hd
     simp only[Prod.mk.injEq]at h
     obtain⟨h1,h2⟩:=h
     obtain⟨rfl,hx⟩:=num_nz h1
     have ht:=spanOf_take digit (c::r)
     have ha:=span_all digit (c::r)
     have hs:spanOf digit (c::r)=c::spanOf digit r:=by rw[spanOf,if_pos hd]
     have htx:tokText (2,x,p)=x:=by simp[tokText]
     rw[htx,hx,<-h2]
     rw[hx]at h1
     exact⟨.inr (.inl ⟨c,spanOf digit r,hs,ha,h1⟩),ht.symm,rfl⟩
    ·split at h
     ·rename_i hq
      simp only[Prod.mk.injEq]at h
      obtain⟨h1,h2⟩:=h
      unfold wordTok at h1
      split at h1
      ·rename_i hh
       simp only[Prod.mk.injEq]at h1
       obtain⟨rfl,hx,_⟩:=h1
       have hc:c=39:=by
        have:(c.toNat:Int)=39:=by simpa using hq
        apply UInt8.toNat_inj.1
        show c.toNat=39
        omega
       unfold wordLen at h2
       rw[if_pos hh]at h2
       have htx:tokText (5,x,p)=39::x++[39]:=by simp[tokText]
       rw[htx,<-hx,<-h2]
       refine⟨.inr (.inr (.inl ⟨rfl,span_all wordByte r⟩)),?_,by simp⟩
       have ht:=spanOf_take wordByte r
       have hb:behind wordByte r=39::(behind wordByte r).drop 1:=by
        cases hbb:behind wordByte r with
        | nil=>rw[hbb]at hh;cases hh
        | cons b q=>
          rw[hbb]at hh
          have:(b.toNat:Int)=39:=by simpa [headIs]using hh
          have:b=39:=by
           apply UInt8.toNat_inj.1
           show b.toNat=39
           omega
          rw[this];rfl
       have hrr:r=spanOf wordByte r++behind wordByte r:=by
        conv=>lhs;rw[<-List.take_append_drop (spanOf wordByte r).length r]
        rw[<-ht];rfl
       rw[hc]
       generalize spanOf wordByte r=a at*
       rw[hrr,hb]
       simp[List.take_append]
       exact List.take_of_length_le (by omega)
      ·simp at h1
     ·simp only[Prod.mk.injEq]at h
      obtain⟨h1,h2⟩:=h
      unfold symTok at h1
      split at h1
      ·simp at h1
      ·rename_i hb
       simp only[Prod.mk.injEq]at h1
       obtain⟨rfl,hx,_⟩:=h1
       have htx:tokText (4,x,p)=x:=by simp[tokText]
       rw[htx]
       subst hx
       rcases best_mem (c::r) symsL []with hbm|hbm
       ·exfalso
        have:best (c::r) symsL=[]:=hbm
        rw[this]at hb
        exact hb rfl
       ·have hpre:hasPre (c::r) (best (c::r) symsL)=true:=hbm.2
        have hmem:best (c::r) symsL∈symsL:=hbm.1
        refine⟨.inr (.inr (.inr ⟨rfl,hmem⟩)),?_,h2.symm⟩
        rw[<-h2]
        exact hasPre_take hpre
def Sep(R:Str):Prop:=R=[]\/∃R',R=32::R'
theorem Sep.no{R:Str}(h:Sep R){p:Int->Bool}(hp:p 32=false):∀c r,R=c::r->p c.toNat=false:=by
 intro c r e
 rcases h with h|⟨R',h⟩
 ·rw[h]at e;cases e
 ·rw[h]at e;cases e;exact hp
set_option maxRecDepth 100000 in
theorem sym_again {x R:Str} (hx:x∈symsL) (hR:Sep R):∃c r,x++R=c::r/\letter c.toNat=false/\digit c.toNat=false/\((c.toNat:Int) == 39)=false/\blank c.toNat=false/\hasPre (x++R) [45,45]=false/\best (x++R) symsL=x/\x≠ []:=by
 rcases hR with rfl|⟨R',rfl⟩ <;> simp only[symsL,List.mem_cons,List.not_mem_nil,or_false]at hx <;>
  rcases hx with rfl|rfl|rfl|rfl|rfl|rfl|rfl|rfl|rfl|rfl|rfl|rfl|rfl|rfl|rfl|rfl|rfl <;>
  refine⟨_,_,rfl,by decide,by decide,by decide,by decide,?_,?_,by decide⟩ <;>
  first
   | decide
   | (simp[hasPre];done)
   | (simp only[best,symsL,List.foldl,best1,List.cons_append,List.nil_append,hasPre1,hasPre2,List.length_nil,List.length_cons];simp)
theorem digit_facts{c:UInt8}(h:digit c.toNat=true):letter c.toNat=false/\blank c.toNat=false/\c≠45/\c≠39:=by
 refine⟨?_,?_,?_,?_⟩
 ·cases hb:letter c.toNat with
  | false=>rfl
  | true=>exfalso;simp[letter,digit]at h hb;omega
 ·cases hb:blank c.toNat with
  | false=>rfl
  | true=>exfalso;simp[blank,digit]at h hb;omega
 ·rintro rfl;revert h;decide
 ·rintro rfl;revert h;decide
theorem skip_not{c:UInt8}{r:Str}(h:blank c.toNat=false)(h2:c≠45):skipped (c::r)=c::r:=by
 refine skipped_token h ?_
 cases r with
 | nil=>exact hasPre2' _ _ _
 | cons d r=>rw[hasPre2];simp[h2]
theorem token_again{k:Int}{x:Str}(h:TokOk k x){R:Str}(hR:Sep R)(p:Int):tokenAt (tokText (k,x,p)++R)=((k,x,0),(tokText (k,x,p)).length)/\skipped (tokText (k,x,p)++R)=tokText (k,x,p)++R/\tokText (k,x,p)≠ []:=by
 rcases h with ⟨c,w,hx,hc,ha,hn⟩|⟨c,w,hx,ha,hn⟩|⟨rfl,ha⟩|⟨rfl,hm⟩
 ·obtain⟨hk,_⟩:=name_nz hn
  have htx:tokText (k,x,p)=x:=by
   unfold tokText
   rw[if_neg]
   rcases hk with rfl|rfl <;> simp
  rw[htx]
  have hs:spanOf inner (x++R)=x:=span_append ha (hR.no (by decide))
  refine⟨?_,?_,by rw[hx];simp⟩
  ·have:x++R=c::(w++R):=by rw[hx];rfl
   rw[this]at hs⊢
   unfold tokenAt
   simp only
   rw[if_pos hc,hs,hn]
  ·rw[hx]
   obtain⟨g1,g2,_⟩:=letter_facts hc
   exact skip_not g1 g2
 ·obtain⟨rfl,_⟩:=num_nz hn
  have htx:tokText (2,x,p)=x:=by simp[tokText]
  rw[htx]
  have hs:spanOf digit (x++R)=x:=span_append ha (hR.no (by decide))
  have hd:digit c.toNat=true:=ha c (by rw[hx];exact List.mem_cons_self)
  obtain⟨g1,g2,g3,g4⟩:=digit_facts hd
  refine⟨?_,?_,by rw[hx];simp⟩
  ·have:x++R=c::(w++R):=by rw[hx];rfl
   rw[this]at hs⊢
   unfold tokenAt
   simp only
   rw[if_neg (by rw[g1];simp),if_pos hd,hs,hn]
  ·rw[hx]
   exact skip_not g2 g3
 ·have htx:tokText (5,x,p)=39::x++[39]:=by simp[tokText]
  rw[htx]
  have hs:spanOf wordByte (x++39::R)=x:=span_append ha (fun c r e=>by cases e;decide)
  have hb:behind wordByte (x++39::R)=39::R:=by rw[behind,hs,List.drop_left]
  refine⟨?_,?_,by simp⟩
  ·have:(39::x++[39]++R:Str)=39::(x++39::R):=by simp
   rw[this]
   unfold tokenAt
   simp only
   rw[if_neg (by decide),if_neg (by decide),if_pos (by decide),hs,hb]
   simp[wordTok,wordLen,headIs]
  ·exact skip_not (c:=39) (r:=x++[39]++R) (by decide) (by decide)
 ·have htx:tokText (4,x,p)=x:=by simp[tokText]
  rw[htx]
  obtain⟨c,r,he,g1,g2,g3,g4,g5,g6,g7⟩:=sym_again hm hR
  refine⟨?_,?_,g7⟩
  ·rw[he]at g6⊢
   unfold tokenAt
   simp only
   rw[if_neg (by rw[g1];simp),if_neg (by rw[g2];simp),if_neg (by rw[g3];simp),g6]
   unfold symTok
   rw[if_neg]
   intro h0
   exact g7 (by simpa using h0)
  ·rw[he]at g5⊢
   exact skipped_token g4 g5
end Go.Proofs.YtlfdkafebmdoiaaGreat
