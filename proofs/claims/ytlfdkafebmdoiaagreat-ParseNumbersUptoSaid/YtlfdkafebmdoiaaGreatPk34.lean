import Derived.Test.YtlfdkafebmdoiaaGreatPk32
import Derived.Test.YtlfdkafebmdoiaaGreatPk33
set_option linter.unusedSimpArgs false
set_option linter.unusedVariables false
namespace Go.Proofs.YtlfdkafebmdoiaaGreat
open Go Go.TL
def lexF:Nat->Str->List (Int×Str×Nat)×Nat×Int
 | 0,_=>([],0,0)
 | n+1,l=>
   if skipped l=[] then([],0,0)
   else if(tokenAt (skipped l)).1.2.2≠0 then([],(skipped l).length,(tokenAt (skipped l)).1.2.2)
   else if(lexF n ((skipped l).drop (tokenAt (skipped l)).2)).2.2=0 then(((tokenAt (skipped l)).1.1,(tokenAt (skipped l)).1.2.1,(skipped l).length)::(lexF n ((skipped l).drop (tokenAt (skipped l)).2)).1,0,0)
   else lexF n ((skipped l).drop (tokenAt (skipped l)).2)
theorem skipped_nil:skipped []=[]:=by
 rw[skipped_eq,if_neg (by decide)];rfl
theorem skipped_suffix(l:Str):∃k,k≤l.length/\skipped l=l.drop k:=by
 induction hn:l.length using Nat.strongRecOn generalizing l with
 | _ n ih=>
   subst hn
   rw[skipped_eq]
   have h1:=spanOf_len blank l
   split
   ·rename_i h
    obtain⟨r,hr⟩:=hasPre_drop h
    have h2:=@behind_ne r
    have h3:=behind_len blank l
    have h4:=spanOf_len (fun c=>c != 10) (behind blank l)
    rw[<-hr]at h2
    obtain⟨k,hk,he⟩:=ih _ (by omega) (behind (fun c=>c != 10) (behind blank l)) rfl
    refine⟨(spanOf blank l).length+((spanOf (fun c=>c != 10) (behind blank l)).length+k),?_,?_⟩
    ·simp only[behind,List.length_drop]at hk h4⊢
     omega
    ·rw[he]
     simp only[behind,List.drop_drop,Nat.add_assoc]
   ·exact⟨_,h1,rfl⟩
theorem drop_next{s:Str}{i:Nat}(hi:i≤s.length):s.drop (nextAt s i)=skipped (s.drop i):=by
 obtain⟨k,hk,he⟩:=skipped_suffix (s.drop i)
 unfold nextAt
 rw[he,List.drop_drop,List.length_drop]
 simp only[List.length_drop]at hk
 congr 1
 omega
theorem lexF_step(n:Nat)(l:Str):lexF (n+1) l=
  (if skipped l=[] then([],0,0)
  else if(tokenAt (skipped l)).1.2.2≠0 then([],(skipped l).length,(tokenAt (skipped l)).1.2.2)
  else if(lexF n ((skipped l).drop (tokenAt (skipped l)).2)).2.2=0 then(((tokenAt (skipped l)).1.1,(tokenAt (skipped l)).1.2.1,(skipped l).length)::(lexF n ((skipped l).drop (tokenAt (skipped l)).2)).1,0,0)
  else lexF n ((skipped l).drop (tokenAt (skipped l)).2)):=rfl
def placed(s:Str)(q:List (Int×Str×Nat)×Nat×Int):List Tok×Int×Int:=
 (q.1.map fun a=>(a.1,a.2.1,((s.length-a.2.2:Nat):Int)),if q.2.2=0 then 0 else((s.length-q.2.1:Nat):Int),q.2.2)
theorem toks_lexF(s:Str):∀(n i:Nat),i≤s.length->s.length-i<n->toks s i=placed s (lexF n (s.drop i)):=by
 intro n
 induction n with
 | zero=>intro i hi hn;omega
 | succ n ih=>
   intro i hi hn
   have hd:=drop_next hi
   obtain⟨g1,g2⟩:=nextAt_ge hi
   have hlen:(skipped (s.drop i)).length=s.length-nextAt s i:=by rw[<-hd,List.length_drop]
   rw[lexF_step]
   by_cases h1:nextAt s i=s.length
   ·rw[toks_end h1,if_pos (List.eq_nil_of_length_eq_zero (by omega))]
    simp[placed]
   ·rw[if_neg (fun e=>by rw[e]at hlen;simp at hlen;omega),<-hd]
    cases h2:((tokenAt (s.drop (nextAt s i))).1.2.2 != 0) with
    | true=>
      have h3:(tokenAt (s.drop (nextAt s i))).1.2.2≠0:=by simpa using h2
      rw[toks_err h1 h2,if_pos h3]
      simp only[placed,List.map_nil,if_neg h3,List.length_drop]
      rw[show s.length-(s.length-nextAt s i)=nextAt s i from by omega]
    | false=>
      have h3:¬(tokenAt (s.drop (nextAt s i))).1.2.2≠0:=by simpa using h2
      obtain⟨r1,r2⟩:=tok_reach hi h1 h2
      have:=ih (nextAt s i+(tokenAt (s.drop (nextAt s i))).2) r2 (by omega)
      rw[toks_cons hi h1 h2,if_neg h3,this,List.drop_drop]
      generalize lexF n (s.drop (nextAt s i+(tokenAt (s.drop (nextAt s i))).2))=q
      by_cases h4:q.2.2=0
      ·rw[if_pos h4,if_pos (show(placed s q).2.2=0 from h4)]
       simp only[placed,List.map_cons,if_pos h4,List.length_drop,if_true]
       rw[show s.length-(s.length-nextAt s i)=nextAt s i from by omega]
      ·rw[if_neg h4,if_neg (show ¬(placed s q).2.2=0 from h4)]
theorem scan_lexF{s:Str}(h:s.length≤65536):scan s=placed s (lexF (s.length+1) s):=by
 rw[scan_toks h,toks_lexF s (s.length+1) 0 (Nat.zero_le _) (by omega)]
 rfl
theorem lexF_ok:∀(n:Nat) (l:Str),(∀a∈(lexF n l).1,TokOk a.1 a.2.1/\a.2.2≤l.length)/\((lexF n l).1.map fun a=>(tokText (a.1,a.2.1,0)).length).sum≤l.length/\(lexF n l).1.length≤((lexF n l).1.map fun a=>(tokText (a.1,a.2.1,0)).length).sum/\
  ((lexF n l).2.2≠0->(lexF n l).1=[]/\0<(lexF n l).2.1/\(lexF n l).2.1≤l.length):=by
 intro n
 induction n with
 | zero=>intro l;simp[lexF]
 | succ n ih=>
   intro l
   rw[lexF_step]
   obtain⟨k,hk,he⟩:=skipped_suffix l
   have hsl:(skipped l).length≤l.length:=by rw[he,List.length_drop];omega
   by_cases h1:skipped l=[]
   ·rw[if_pos h1];simp
   ·rw[if_neg h1]
    by_cases h2:(tokenAt (skipped l)).1.2.2≠0
    ·rw[if_pos h2]
     refine⟨by simp,by simp,by simp,fun _=>⟨rfl,List.length_pos_iff.2 h1,hsl⟩⟩
    ·rw[if_neg h2]
     have h2':(tokenAt (skipped l)).1.2.2=0:=by simpa using h2
     obtain⟨t1,t2,t3⟩:=token_ok (k:=(tokenAt (skipped l)).1.1) (x:=(tokenAt (skipped l)).1.2.1) (n:=(tokenAt (skipped l)).2) h1 (by rw[<-h2']) 0
     obtain⟨_,_,tne⟩:=token_again t1 (.inl rfl) 0
     have hpos:=List.length_pos_iff.2 tne
     have htl:(tokenAt (skipped l)).2≤(skipped l).length:=by
      have:=congrArg List.length t2
      rw[List.length_take,<-t3]at this
      omega
     obtain⟨i1,i2,i3,i4⟩:=ih ((skipped l).drop (tokenAt (skipped l)).2)
     rw[List.length_drop]at i2 i4
     generalize lexF n ((skipped l).drop (tokenAt (skipped l)).2)=q at i1 i2 i3 i4
     by_cases h4:q.2.2=0
     ·rw[if_pos h4]
      refine⟨fun a ha=>?_,?_,?_,fun h=>absurd rfl h⟩
      ·rcases List.mem_cons.1 ha with rfl|ha
       ·exact⟨t1,hsl⟩
       ·obtain⟨j1,j2⟩:=i1 a ha
        rw[List.length_drop]at j2
        exact⟨j1,by omega⟩
      ·simp only[List.map_cons,List.sum_cons]
       omega
      ·simp only[List.map_cons,List.sum_cons,List.length_cons]
       omega
     ·rw[if_neg h4]
      obtain⟨j1,j2,j3⟩:=i4 h4
      refine⟨by rw[j1];simp,by rw[j1];simp,by rw[j1];simp,fun _=>⟨j1,j2,by omega⟩⟩
theorem lexF_blank{c:UInt8}{l:Str}(h:blank c.toNat=true):∀n,lexF n (c::l)=lexF n l
 | 0=>rfl
 | n+1=>by rw[lexF_step,lexF_step,skipped_blank h]
end Go.Proofs.YtlfdkafebmdoiaaGreat
namespace Go.Proofs.YtlfdkafebmdoiaaGreat
open Go Go.TL
attribute [local irreducible] TR TO Then InBlock RetK Sound LoopK Kf GG ThenL
theorem wEx_mkE(k o t v:Int)(s:Str)(l:List Ex):wEx (mkE k o t v s l)=1+(l.map wEx).sum:=by rw[wEx_eq];rfl
section
variable {R:Rd}
theorem bind_ok{α β:Type}{r:PR α}{f:α->Nat->PR β}{x:β}{j:Nat}(h:r.bind f= .ok x j):∃v k,r= .ok v k/\f v k= .ok x j:=by
 cases r with
 | ok v k=>exact⟨v,k,rfl,h⟩
 | er k c=>cases h
theorem ite_ok{α:Type}{c:Prop}[Decidable c]{a b r:PR α}(h:(if c then a else b)=r):(c/\a=r)\/(¬c/\b=r):=by
 split at h
 ·rename_i hc;exact .inl ⟨hc,h⟩
 ·rename_i hc;exact .inr ⟨hc,h⟩
theorem id_at{i j:Nat}{s:Str}(h:R.id i= .ok s j):j=i+1/\s=R.txt i:=by
 unfold Rd.id at h
 rcases ite_ok h with ⟨_,h⟩|⟨_,h⟩
 ·cases h;exact⟨rfl,rfl⟩
 ·cases h
theorem aTag_at{i j:Nat}{tv:Nat×Nat}(h:R.aTag i= .ok tv j):j=i+1:=by
 unfold Rd.aTag at h
 rcases ite_ok h with ⟨_,h⟩|⟨_,h⟩
 ·cases h;rfl
 rcases ite_ok h with ⟨_,h⟩|⟨_,h⟩
 ·cases h;rfl
 obtain⟨s,k,h1,h2⟩:=bind_ok h
 obtain⟨rfl,_⟩:=id_at h1
 split at h2
 ·cases h2;rfl
 ·cases h2
theorem sampling_at{i j:Nat}{o:OnC}(h:R.sampling i= .ok o j):j=i+4/\∃k,o.name=R.txt k:=by
 unfold Rd.sampling at h
 obtain⟨tv,k,h1,h⟩:=bind_ok h
 obtain⟨_,k2,h2,h⟩:=bind_ok h
 obtain⟨s,k3,h3,h⟩:=bind_ok h
 obtain⟨_,k4,h4,h⟩:=bind_ok h
 have e1:=aTag_at h1
 have e2:=must1_at h2
 have e3:=id_at h3
 have e4:=must1_at h4
 cases h
 exact⟨by omega,_,e3.2⟩
theorem ops_w{f:Nat->PR Ex}(hf:∀ {i e j},f i= .ok e j->i+wEx e≤j)(n:Nat):∀(m:Nat) {a:Ex} {i:Nat} {e:Ex} {j c:Nat},R.ops f n m a i= .ok e j->c+wEx a≤i->c+wEx e≤j
 | 0,a,i,e,j,c,h,hc=>by cases h;exact hc
 | m+1,a,i,e,j,c,h,hc=>by
   unfold Rd.ops at h
   split at h
   ·cases h;exact hc
   ·rename_i op ho
    obtain⟨b,k,h1,h⟩:=bind_ok h
    have h1:=hf h1
    have h3:c+wEx (mkE 3 op 0 0 [] [a,b])≤k:=by rw[wEx_mkE];simp only[List.map_cons,List.map_nil,List.sum_cons,List.sum_nil];omega
    rcases ite_ok h with ⟨_,h⟩|⟨_,h⟩
    ·cases h;exact h3
    ·exact ops_w hf n m h h3
theorem whens_w:∀(m:Nat) {a:Ex} {i:Nat} {e:Ex} {j c:Nat},R.whens m a i= .ok e j->c+wEx a≤i->c+wEx e≤j
 | 0,a,i,e,j,c,h,hc=>by cases h;exact hc
 | m+1,a,i,e,j,c,h,hc=>by
   unfold Rd.whens at h
   rcases ite_ok h with ⟨_,h⟩|⟨_,h⟩
   ·obtain⟨o,k,h1,h⟩:=bind_ok h
    have h1:=(sampling_at h1).1
    refine whens_w m h ?_
    rw[wEx_eq];simp only[Ex.args,List.map_cons,List.map_nil,List.sum_cons,List.sum_nil];omega
   ·cases h;exact hc
theorem args_w{f:Nat->PR Ex}(hf:∀ {i e j},f i= .ok e j->i+wEx e≤j):∀(m:Nat) {l:List Ex} {i:Nat} {l':List Ex} {j c:Nat},R.args f m l i= .ok l' j->c+(l.map wEx).sum≤i->c+(l'.map wEx).sum≤j
 | 0,l,i,e,j,c,h,hc=>by cases h;exact hc
 | m+1,l,i,e,j,c,h,hc=>by
   unfold Rd.args at h
   rcases ite_ok h with ⟨_,h⟩|⟨_,h⟩
   ·obtain⟨b,k,h1,h⟩:=bind_ok h
    have h1:=hf h1
    refine args_w hf m h ?_
    rw[List.map_append,List.sum_append];simp only[List.map_cons,List.map_nil,List.sum_cons,List.sum_nil];omega
   ·cases h;exact hc
theorem call_w{f g:Nat->PR Ex}(hf:∀ {i e j},f i= .ok e j->i+wEx e≤j)(hg:∀ {i e j},g i= .ok e j->i+wEx e≤j){s:Str}{i:Nat}{e:Ex}{j:Nat}(h:R.call f g s i= .ok e j):i+wEx e≤j:=by
 unfold Rd.call at h
 obtain⟨l,k,h1,h⟩:=bind_ok h
 have hl:i+1+(l.map wEx).sum≤k:=by
  rcases ite_ok h1 with ⟨_,h1⟩|⟨_,h1⟩
  ·cases h1;simp
  ·obtain⟨a,k2,h2,h1⟩:=bind_ok h1
   obtain⟨l2,k3,h3,h1⟩:=bind_ok h1
   obtain⟨_,k4,h4,h1⟩:=bind_ok h1
   have h2:=hf h2
   have h3:=args_w hf _ h3 (c:=i) (by simpa using h2)
   have h4:=must1_at h4
   cases h1
   omega
 rcases ite_ok h with ⟨_,h⟩|⟨_,h⟩
 ·obtain⟨a,k2,h2,h⟩:=bind_ok h
  have h2:=hg h2
  cases h
  rw[wEx_mkE,List.map_append,List.sum_append];simp only[List.map_cons,List.map_nil,List.sum_cons,List.sum_nil];omega
 ·cases h
  rw[wEx_mkE];omega
theorem branch_w{f:Nat->PR Ex}(hf:∀ {i e j},f i= .ok e j->i+wEx e≤j){t v:Nat}{b:Bool}{i:Nat}{te:Nat×Ex}{j:Nat}(h:R.branch f t v b i= .ok te j):i+4+wEx te.2≤j:=by
 unfold Rd.branch at h
 obtain⟨_,k1,h1,h⟩:=bind_ok h
 obtain⟨_,k2,h2,h⟩:=bind_ok h
 obtain⟨tv,k3,h3,h⟩:=bind_ok h
 rcases ite_ok h with ⟨_,h⟩|⟨_,h⟩
 ·cases h
 obtain⟨_,k4,h4,h⟩:=bind_ok h
 obtain⟨e,k5,h5,h⟩:=bind_ok h
 obtain⟨_,k6,h6,h⟩:=bind_ok h
 have e1:=must1_at h1
 have e3:=aTag_at h3
 have e4:=must1_at h4
 have e5:=hf h5
 have e6:=must1_at h6
 cases h
 simp only
 omega
theorem sum_set{l:List Ex}{k:Nat}{e:Ex}:((l.set k e).map wEx).sum≤(l.map wEx).sum+wEx e:=by
 induction l generalizing k with
 | nil=>simp
 | cons a l ih=>
   cases k with
   | zero=>simp only[List.set_cons_zero,List.map_cons,List.sum_cons];omega
   | succ k=>
     have:=ih (k:=k)
     simp only[List.set_cons_succ,List.map_cons,List.sum_cons];omega
theorem branches_w{f:Nat->PR Ex}(hf:∀ {i e j},f i= .ok e j->i+wEx e≤j){t size:Nat}:∀(m:Nat) {k:Nat} {l:List Ex} {i:Nat} {l':List Ex} {j:Nat},R.branches f t size m k l i= .ok l' j->size≤k+m->i+4*(size-k)+(l'.map wEx).sum≤j+(l.map wEx).sum
 | 0,k,l,i,l',j,h,hm=>by cases h;omega
 | m+1,k,l,i,l',j,h,hm=>by
   unfold Rd.branches at h
   rcases ite_ok h with ⟨hs,h⟩|⟨hs,h⟩
   ·cases h;omega
   ·obtain⟨te,k2,h1,h⟩:=bind_ok h
    have h1:=branch_w hf h1
    have h2:=branches_w hf m h (by omega)
    have h3:=sum_set (l:=l) (k:=if t=1 then 1-k else k) (e:=te.2)
    omega
theorem merge_w{f:Nat->PR Ex}(hf:∀ {i e j},f i= .ok e j->i+wEx e≤j){i:Nat}{e:Ex}{j:Nat}(h:R.merge f i= .ok e j):i+wEx e≤j:=by
 unfold Rd.merge at h
 obtain⟨s,k1,h1,h⟩:=bind_ok h
 obtain⟨te,k2,h2,h⟩:=bind_ok h
 obtain⟨l,k3,h3,h⟩:=bind_ok h
 have e1:=(id_at h1).1
 have e2:=branch_w hf h2
 have e3:=branches_w hf _ h3 (by omega)
 have e4:=sum_set (l:=List.replicate (R.size te.1) noE) (k:=if R.isAt (k1+1) [116,114,117,101]=true then 1 else 0) (e:=te.2)
 have e5:((List.replicate (R.size te.1) noE).map wEx).sum=R.size te.1:=by
  rw[List.map_replicate,show wEx noE=1 from by rw[wEx_eq];rfl]
  simp
 have e6:(l.map wEx).sum=(l.map wEx).sum:=rfl
 cases h
 rw[wEx_mkE]
 omega
theorem ident_w{f g:Nat->PR Ex}(hf:∀ {i e j},f i= .ok e j->i+wEx e≤j)(hg:∀ {i e j},g i= .ok e j->i+wEx e≤j){i:Nat}{e:Ex}{j:Nat}(h:R.ident f g i= .ok e j):i+wEx e≤j:=by
 unfold Rd.ident at h
 obtain⟨s,k1,h1,h⟩:=bind_ok h
 have e1:=(id_at h1).1
 rcases ite_ok h with ⟨_,h⟩|⟨_,h⟩
 ·have:=call_w hf hg h;omega
 ·split at h
  all_goals
   cases h
   rw[wEx_mkE];simp;omega
theorem prim_w{f g:Nat->PR Ex}(hf:∀ {i e j},f i= .ok e j->i+wEx e≤j)(hg:∀ {i e j},g i= .ok e j->i+wEx e≤j){i:Nat}{e:Ex}{j:Nat}(h:R.prim f g i= .ok e j):i+wEx e≤j:=by
 unfold Rd.prim at h
 rcases ite_ok h with ⟨_,h⟩|⟨_,h⟩
 ·cases h;rw[wEx_mkE];simp
 rcases ite_ok h with ⟨_,h⟩|⟨_,h⟩
 ·cases h
 rcases ite_ok h with ⟨_,h⟩|⟨_,h⟩
 ·rcases ite_ok h with ⟨_,h⟩|⟨_,h⟩
  ·cases h
  ·cases h;rw[wEx_mkE];simp
 rcases ite_ok h with ⟨_,h⟩|⟨_,h⟩
 ·cases h;rw[wEx_mkE];simp
 rcases ite_ok h with ⟨_,h⟩|⟨_,h⟩
 ·cases h;rw[wEx_mkE];simp
 rcases ite_ok h with ⟨_,h⟩|⟨_,h⟩
 ·cases h;rw[wEx_mkE];simp
 rcases ite_ok h with ⟨_,h⟩|⟨_,h⟩
 ·obtain⟨a,k1,h1,h⟩:=bind_ok h
  obtain⟨_,k2,h2,h⟩:=bind_ok h
  have h1:=hf h1
  have h2:=must1_at h2
  cases h;omega
 rcases ite_ok h with ⟨_,h⟩|⟨_,h⟩
 ·obtain⟨a,k1,h1,h⟩:=bind_ok h
  obtain⟨_,k2,h2,h⟩:=bind_ok h
  obtain⟨b,k3,h3,h⟩:=bind_ok h
  obtain⟨_,k4,h4,h⟩:=bind_ok h
  obtain⟨c,k5,h5,h⟩:=bind_ok h
  have h1:=hf h1
  have h2:=must1_at h2
  have h3:=hf h3
  have h4:=must1_at h4
  have h5:=hf h5
  cases h
  rw[wEx_mkE];simp only[List.map_cons,List.map_nil,List.sum_cons,List.sum_nil];omega
 rcases ite_ok h with ⟨_,h⟩|⟨_,h⟩
 ·have:=merge_w hf h;omega
 ·exact ident_w hf hg h
theorem pF_w:∀(m:Nat) (g:G) {i:Nat} {e:Ex} {j:Nat},pF R m g i= .ok e j->i+wEx e≤j
 | 0,g,i,e,j,h=>by cases h
 | m+1,.expr,i,e,j,h=>by
   unfold pF at h
   obtain⟨a,k,h1,h⟩:=bind_ok h
   have h1:=pF_w m _ h1
   rcases ite_ok h with ⟨_,h⟩|⟨_,h⟩
   ·obtain⟨b,k2,h2,h⟩:=bind_ok h
    have h2:=pF_w m _ h2
    cases h
    rw[wEx_mkE];simp only[List.map_cons,List.map_nil,List.sum_cons,List.sum_nil];omega
   rcases ite_ok h with ⟨_,h⟩|⟨_,h⟩
   ·obtain⟨b,k2,h2,h⟩:=bind_ok h
    have h2:=pF_w m _ h2
    cases h
    rw[wEx_mkE];simp only[List.map_cons,List.map_nil,List.sum_cons,List.sum_nil];omega
   ·cases h;exact h1
 | m+1,.level n,i,e,j,h=>by
   unfold pF at h
   rcases ite_ok h with ⟨_,h⟩|⟨_,h⟩
   ·rcases ite_ok h with ⟨_,h⟩|⟨_,h⟩
    ·obtain⟨b,k2,h2,h⟩:=bind_ok h
     have h2:=pF_w m _ h2
     cases h
     rw[wEx_mkE];simp only[List.map_cons,List.map_nil,List.sum_cons,List.sum_nil];omega
    ·exact pF_w m _ h
   rcases ite_ok h with ⟨_,h⟩|⟨_,h⟩
   ·exact pF_w m _ h
   ·obtain⟨a,k,h1,h⟩:=bind_ok h
    exact ops_w (fun h=>pF_w m _ h) n _ h (pF_w m _ h1)
 | m+1,.unary,i,e,j,h=>by
   unfold pF at h
   rcases ite_ok h with ⟨_,h⟩|⟨_,h⟩
   ·obtain⟨b,k2,h2,h⟩:=bind_ok h
    have h2:=pF_w m _ h2
    cases h
    rw[wEx_mkE];simp only[List.map_cons,List.map_nil,List.sum_cons,List.sum_nil];omega
   rcases ite_ok h with ⟨_,h⟩|⟨_,h⟩
   ·obtain⟨b,k2,h2,h⟩:=bind_ok h
    have h2:=pF_w m _ h2
    cases h
    rw[wEx_mkE];simp only[List.map_cons,List.map_nil,List.sum_cons,List.sum_nil];omega
   ·obtain⟨a,k,h1,h⟩:=bind_ok h
    exact whens_w _ h (pF_w m _ h1)
 | m+1,.prim,i,e,j,h=>by
   unfold pF at h
   exact prim_w (fun h=>pF_w m _ h) (fun h=>pF_w m _ h) h
end
theorem tokText_ge(k:Int)(x:Str)(p:Int):x.length≤(tokText (k,x,p)).length:=by
 unfold tokText
 split
 ·simp only[List.length_append,List.length_cons,List.length_nil];omega
 ·exact Nat.le_refl _
theorem numTok_num{w x:Str}(h:numTok w=(2,x,0)):w.length≤5:=by
 refine Nat.le_of_not_lt fun hl=>?_
 have h5:decide (5<(w.length:Int))=true:=by simp only[decide_eq_true_eq];omega
 unfold numTok at h
 rw[h5,Bool.true_or,if_pos rfl]at h
 have h1:=congrArg Prod.fst h
 rw[apply_ite Prod.fst]at h1
 simp only[ite_self]at h1
 exact absurd h1 (by omega)
theorem tokOk_num{x:Str}(h:TokOk 2 x):x.length≤5/\∀c∈x,48≤c.toNat/\c.toNat≤57:=by
 rcases h with ⟨c,w,h1,h2,h3,h4⟩|⟨c,w,h1,h2,h3⟩|⟨h1,_⟩|⟨h1,_⟩
 ·rcases(name_nz h4).1 with h|h <;> exact absurd h (by decide)
 ·refine⟨numTok_num h3,fun d hd=>?_⟩
  have:=h2 d hd
  unfold digit at this
  simp only[Bool.and_eq_true,decide_eq_true_eq]at this
  omega
 ·exact absurd h1 (by decide)
 ·exact absurd h1 (by decide)
theorem scan_tk(s:Str):TkOk (scan s).1:=by
 refine⟨by have:=scan_count s;omega,fun t ht=>?_,fun t ht h2=>?_⟩
 all_goals
  by_cases hs:65536<s.length
  ·rw[scan,if_pos hs]at ht;cases ht
  rw[scan_lexF (by omega)]at ht
  obtain⟨a,ha,rfl⟩:=List.mem_map.1 ht
  obtain⟨h3,h4,h5,h6⟩:=lexF_ok (s.length+1) s
 ·have h7:(tokText (a.1,a.2.1,0)).length≤((lexF (s.length+1) s).1.map fun a=>(tokText (a.1,a.2.1,0)).length).sum:=by
   have:∀(l:List (Int×Str×Nat)),a∈l->(tokText (a.1,a.2.1,0)).length≤(l.map fun a=>(tokText (a.1,a.2.1,0)).length).sum:=by
    intro l
    induction l with
    | nil=>intro h;cases h
    | cons b l ih=>
      intro h
      rw[List.map_cons,List.sum_cons]
      rcases List.mem_cons.1 h with rfl|h
      ·omega
      ·have:=ih h;omega
   exact this _ ha
  have h8:=tokText_ge a.1 a.2.1 0
  show a.2.1.length≤_
  omega
 ·have:=(h3 a ha).1
  replace h2:a.1=2:=h2
  rw[h2]at this
  exact tokOk_num this
end Go.Proofs.YtlfdkafebmdoiaaGreat
namespace Go.Proofs.YtlfdkafebmdoiaaGreat
open Go Go.TL
theorem span_nl{p:Int->Bool}(hp:p 10=false)(t:Str):∀l:Str,spanOf p (l++10::t)=spanOf p l
 | []=>by
   show spanOf p (10::t)=[]
   rw[spanOf,if_neg (by simp only[UInt8.reduceToNat];exact(by rw[show((10:Nat):Int)=10 from rfl,hp];simp))]
 | c::l=>by
   rw[List.cons_append,spanOf,spanOf,span_nl hp t l]
theorem behind_nl{p:Int->Bool}(t:Str):∀l:Str,(behind p l≠ []\/p 10=false)->behind p (l++10::t)=behind p l++10::t
 | [],h=>by
   rcases h with h|h
   ·exact absurd rfl h
   ·exact behind_no (p:=p) (c:=10) (r:=t) h
 | c::l,h=>by
   rw[List.cons_append]
   cases hc:p c.toNat with
   | true=>
     rw[behind_yes hc]at h⊢
     rw[behind_yes hc]
     exact behind_nl t l h
   | false=>
     rw[behind_no hc,behind_no hc];rfl
theorem behind_all{p:Int->Bool}(t:Str):∀l:Str,behind p l=[]->p 10=true->behind p (l++10::t)=behind p t
 | [],_,h=>behind_yes (p:=p) (c:=10) (r:=t) h
 | c::l,hb,h=>by
   cases hc:p c.toNat with
   | true=>
     rw[List.cons_append,behind_yes hc]
     rw[behind_yes hc]at hb
     exact behind_all t l hb h
   | false=>rw[behind_no hc]at hb;cases hb
theorem hasPre_nil(a:Str):hasPre a []=true:=by simp[hasPre]
theorem hasPre_nil'(d:UInt8)(b:Str):hasPre [] (d::b)=false:=by simp[hasPre]
theorem hasPre_cons(c d:UInt8)(a b:Str):hasPre (c::a) (d::b)=(c == d && hasPre a b):=by
 simp only[hasPre,List.length_cons,List.take_succ_cons,Nat.add_le_add_iff_right]
 exact Bool.and_left_comm _ _ _
theorem hasPre_nl(t:Str):∀(x v:Str),(∀c∈x,c≠10)->hasPre (v++10::t) x=hasPre v x
 | [],v,_=>by rw[hasPre_nil,hasPre_nil]
 | d::x,[],h=>by
   have:d≠10:=h d List.mem_cons_self
   rw[List.nil_append,hasPre_cons,hasPre_nil',beq_eq_false_iff_ne.2 (Ne.symm this)];rfl
 | d::x,c::v,h=>by
   rw[List.cons_append,hasPre_cons,hasPre_cons,hasPre_nl t x v fun c hc=>h c (List.mem_cons_of_mem _ hc)]
theorem best_congr{l l':Str}:∀(all:List Str) (b:Str),(∀x∈all,hasPre l x=hasPre l' x)->all.foldl (best1 l) b=all.foldl (best1 l') b
 | [],b,_=>rfl
 | x::all,b,h=>by
   rw[List.foldl_cons,List.foldl_cons,best_congr all _ fun y hy=>h y (List.mem_cons_of_mem _ hy)]
   congr 1
   unfold best1
   rw[h x List.mem_cons_self]
theorem syms_nl:∀x∈symsL,∀c∈x,c≠10:=by decide
theorem lexF_fuel:∀(n m:Nat) (l:Str),l.length<n->l.length<m->lexF n l=lexF m l:=by
 intro n
 induction n with
 | zero=>intro m l h;omega
 | succ n ih=>
   intro m l hn hm
   obtain⟨m,rfl⟩:∃k,m=k+1:=⟨m-1,by omega⟩
   rw[lexF_step,lexF_step]
   obtain⟨k,hk,he⟩:=skipped_suffix l
   have hsl:(skipped l).length≤l.length:=by rw[he,List.length_drop];omega
   by_cases h1:skipped l=[]
   ·rw[if_pos h1,if_pos h1]
   ·rw[if_neg h1,if_neg h1]
    by_cases h2:(tokenAt (skipped l)).1.2.2≠0
    ·rw[if_pos h2,if_pos h2]
    ·rw[if_neg h2,if_neg h2]
     have htl:=tokenAt_len h1 (by simpa using h2)
     rw[ih m _ (by rw[List.length_drop];omega) (by rw[List.length_drop];omega)]
end Go.Proofs.YtlfdkafebmdoiaaGreat
namespace Go.Proofs.YtlfdkafebmdoiaaGreat
open Go Go.TL
attribute [local irreducible] TR TO Then InBlock RetK Sound LoopK Kf GG ThenL
theorem skip_nl2(u:Str):(skipped u=[]/\∀t,skipped (u++10::t)=skipped t)\/∃v,v≠ []/\v.length≤u.length/\skipped u=v/\∀t,skipped (u++10::t)=v++10::t:=by
 induction hn:u.length using Nat.strongRecOn generalizing u with
 | _ n ih=>
   subst hn
   cases hb:behind blank u with
   | nil=>
     left
     refine⟨by rw[skipped_eq,hb,if_neg (by decide)],fun t=>?_⟩
     rw[skipped_eq,skipped_eq t,behind_all t u hb (by decide)]
   | cons c r=>
     have hbt:∀t,behind blank (u++10::t)=c::r++10::t:=fun t=>by rw[behind_nl t u (.inl (by rw[hb];simp)),hb]
     have hlen:=behind_len blank u
     rw[hb]at hlen
     have hpt:∀t,hasPre (c::r++10::t) [45,45]=hasPre (c::r) [45,45]:=fun t=>hasPre_nl t [45,45] (c::r) (by decide)
     cases hp:hasPre (c::r) [45,45] with
     | true=>
       obtain⟨r',hr⟩:=hasPre_drop hp
       have h2:=@behind_ne r'
       rw[<-hr]at h2
       have hbn:∀t,behind (fun x=>x != 10) (c::r++10::t)=behind (fun x=>x != 10) (c::r)++10::t:=fun t=>behind_nl t (c::r) (.inr (by decide))
       have e:∀t,skipped (u++10::t)=skipped (behind (fun x=>x != 10) (c::r)++10::t):=fun t=>by
        rw[skipped_eq,hbt,if_pos (by rw[hpt,hp]),hbn]
       have e0:skipped u=skipped (behind (fun x=>x != 10) (c::r)):=by rw[skipped_eq,hb,if_pos hp]
       rcases ih _ (by omega) (behind (fun x=>x != 10) (c::r)) rfl with ⟨h0,h⟩|⟨v,h1,h3,h5,h4⟩
       ·exact .inl ⟨by rw[e0,h0],fun t=>by rw[e,h]⟩
       ·exact .inr ⟨v,h1,by omega,by rw[e0,h5],fun t=>by rw[e,h4]⟩
     | false=>
       exact .inr ⟨c::r,by simp,hlen,by rw[skipped_eq,hb,if_neg (by rw[hp];simp)],fun t=>by rw[skipped_eq,hbt,if_neg (by rw[hpt,hp];simp)]⟩
theorem tok_nl2{v:Str}(hv:v≠ [])(t:Str):tokenAt (v++10::t)=tokenAt v:=by
 match v,hv with
 | c::r,_=>
   have b1:best (c::r++10::t) symsL=best (c::r) symsL:=best_congr symsL [] fun x hx=>hasPre_nl t x _ (syms_nl x hx)
   have i1:=span_nl (p:=inner) (by decide) t (c::r)
   have d1:=span_nl (p:=digit) (by decide) t (c::r)
   have w1:=span_nl (p:=wordByte) (by decide) t r
   have q1:=behind_nl (p:=wordByte) t r (.inr (by decide))
   have hh:headIs 39 (behind wordByte r++10::t)=headIs 39 (behind wordByte r):=by cases behind wordByte r <;> rfl
   rw[List.cons_append]at i1 d1 b1⊢
   unfold tokenAt
   simp only
   rw[i1,d1,w1,b1,q1]
   unfold wordTok wordLen
   rw[hh]
abbrev kx (l:List (Int×Str×Nat)):List (Int×Str):=l.map fun a=>(a.1,a.2.1)
theorem lex_app(tail:Str):∀(n m:Nat) (u:Str),u.length<n->(u++10::tail).length<m->(lexF n u).2.2=0->(lexF m tail).2.2=0->
  (lexF m (u++10::tail)).2.2=0/\kx (lexF m (u++10::tail)).1=kx (lexF n u).1++kx (lexF m tail).1:=by
 intro n
 induction n with
 | zero=>intro m u h;omega
 | succ n ih=>
   intro m u hn hm he ht
   obtain⟨m,rfl⟩:∃k,m=k+1:=⟨m-1,by omega⟩
   have hlen:(u++10::tail).length=u.length+(tail.length+1):=by simp
   rcases skip_nl2 u with ⟨h0,h⟩|⟨v,h1,h2,h0,h3⟩
   ·rw[lexF_step m (u++10::tail),h,<-lexF_step,lexF_step n u,if_pos h0]
    exact⟨ht,rfl⟩
   ·have t1:=tok_nl2 h1 tail
    rw[lexF_step n u]at he⊢
    rw[lexF_step m (u++10::tail)]
    rw[h0]at he⊢
    rw[h3 tail,t1]
    rw[if_neg h1]at he⊢
    rw[if_neg (show v++10::tail≠ [] by simp)]
    by_cases h4:(tokenAt v).1.2.2≠0
    ·rw[if_pos h4]at he
     exact absurd he h4
    ·rw[if_neg h4]at he⊢
     rw[if_neg h4]
     have htl:=tokenAt_len h1 (by simpa using h4)
     have e1:(v++10::tail).drop (tokenAt v).2=v.drop (tokenAt v).2++10::tail:=List.drop_append_of_le_length htl.2
     rw[e1]
     have hlt:(v.drop (tokenAt v).2).length<u.length:=by rw[List.length_drop];omega
     generalize v.drop (tokenAt v).2=u' at*
     have hlen':(u'++10::tail).length=u'.length+(tail.length+1):=by simp
     have hf:=lexF_fuel m (m+1) tail (by omega) (by omega)
     have h6:(lexF n u').2.2=0:=by
      by_cases h6:(lexF n u').2.2=0
      ·exact h6
      ·rw[if_neg h6]at he;exact he
     obtain⟨k1,k2⟩:=ih m u' (by omega) (by omega) h6 (by rw[hf];exact ht)
     rw[if_pos h6,if_pos k1]
     refine⟨rfl,?_⟩
     show _::kx _=_::(kx _++_)
     rw[k2,hf]
abbrev toksK (s:Str):List (Int×Str):=(scan s).1.map fun t=>(t.1,t.2.1)
theorem toksK_lexF{s:Str}(h:s.length≤65536):toksK s=kx (lexF (s.length+1) s).1/\(scan s).2.2=(lexF (s.length+1) s).2.2:=by
 rw[toksK,scan_lexF h,placed]
 exact⟨by rw[List.map_map];rfl,rfl⟩
theorem tok_open(r:Str):tokenAt (40::r)=((4,[40],0),1)/\skipped (40::r)=40::r:=by
 have hp:∀x,hasPre (40::r) (x::[])=(40 == x):=fun x=>hasPre1 40 x r
 refine⟨?_,skip_not (by decide) (by decide)⟩
 have hb:best (40::r) symsL=[40]:=by
  rw[best_find]
  have h2:∀(x y:UInt8),x≠40->hasPre (40::r) [x,y]=false:=fun x y hx=>by rw[hasPre_cons,beq_eq_false_iff_ne.2 (Ne.symm hx)];rfl
  unfold symsR
  rw[List.find?_cons_of_neg (by rw[h2 _ _ (by decide)];decide),List.find?_cons_of_neg (by rw[h2 _ _ (by decide)];decide),List.find?_cons_of_neg (by rw[h2 _ _ (by decide)];decide),List.find?_cons_of_neg (by rw[h2 _ _ (by decide)];decide),
   List.find?_cons_of_pos (by rw[hp];decide)]
  rfl
 unfold tokenAt
 simp only
 rw[hb]
 rfl
theorem scan_br{s:Str}(hs:s.length≤4000)(h0:(scan s).2.2=0):(scan (40::(s++[10,41]))).2.2=0/\toksK (40::(s++[10,41]))=(4,[40])::(toksK s++[(4,[41])]):=by
 obtain⟨e1,e2⟩:=toksK_lexF (s:=s) (by omega)
 have hl:(40::(s++[10,41])).length=s.length+3:=by simp
 obtain⟨e3,e4⟩:=toksK_lexF (s:=40::(s++[10,41])) (by omega)
 rw[e3,e4,hl,e1]
 obtain⟨o1,o2⟩:=tok_open (s++[10,41])
 have c41:∀n,lexF (n+2) [41]=([(4,[41],1)],0,0):=fun n=>by
  have hs1:skipped [41]=[41]:=skip_not (by decide) (by decide)
  have ht1:tokenAt [41]=((4,[41],0),1):=by decide +kernel
  rw[lexF_step,hs1,if_neg (by decide),ht1,if_neg (by decide)]
  rw[show List.drop 1 [41]=([]:Str) from rfl,lexF_step,if_pos skipped_nil,if_pos rfl]
  rfl
 obtain⟨k1,k2⟩:=lex_app [41] (s.length+1) (s.length+3) s (by omega) (by simp) (by rw[<-e2];exact h0) (by rw[c41])
 rw[lexF_step,o2,if_neg (by simp),o1,if_neg (by decide),show List.drop 1 (40::(s++[10,41]))=s++10::[41] from rfl,if_pos k1]
 refine⟨rfl,?_⟩
 show(4,[40])::kx _=_
 rw[k2,c41]
 rfl
def SimR{α:Type}(r r':PR α):Prop:=∀v j,r= .ok v j->r'= .ok v (j+1)
section
variable {R R':Rd}{α β:Type}
theorem SimR.ok(v:α)(j:Nat):SimR (.ok v j) (.ok v (j+1)):=by
 intro w k h;cases h;rfl
theorem SimR.er(k:Nat)(c:Int)(r:PR α):SimR (.er k c) r:=by
 intro w k h;cases h
theorem SimR.bind{n lo:Nat}{r r':PR α}{f f':α->Nat->PR β}(h:SimR r r')(hi:InR n lo r)(hf:∀v j,lo≤j->j≤n->SimR (f v j) (f' v (j+1))):SimR (r.bind f) (r'.bind f'):=by
 intro w k hk
 obtain⟨v,j,h1,h2⟩:=bind_ok hk
 rw[h v j h1]
 rw[h1]at hi
 exact hf v j hi.1 hi.2 w k h2
theorem SimR.ite{c c':Prop}[Decidable c][Decidable c']{a b a' b':PR α}(hc:c' ↔ c)(h1:c->SimR a a')(h2:¬c->SimR b b'):SimR (if c then a else b) (if c' then a' else b'):=by
 by_cases h:c
 ·rw[if_pos h,if_pos (hc.2 h)];exact h1 h
 ·rw[if_neg h,if_neg (fun x=>h (hc.1 x))];exact h2 h
structure Sim (R R':Rd):Prop where
 es:R'.es=R.es
 K:R'.K=(4,[40])::(R.K++[(4,[41])])
theorem Sim.len(h:Sim R R'):R'.K.length=R.K.length+2:=by rw[h.K];simp
theorem Sim.lt(h:Sim R R'){i:Nat}(hi:i<R.K.length):R'.K[i+1]?=R.K[i]? :=by
 rw[h.K,List.getElem?_cons_succ,List.getElem?_append_left hi]
theorem Sim.eq(h:Sim R R'):R'.K[R.K.length+1]?=some (4,[41]):=by
 rw[h.K,List.getElem?_cons_succ,List.getElem?_append_right (Nat.le_refl _),Nat.sub_self];rfl
theorem Sim.isAt(h:Sim R R'){i:Nat}(hi:i≤R.K.length){s:Str}(hs:s≠ [41]):R'.isAt (i+1) s=R.isAt i s:=by
 unfold Rd.isAt
 rcases Nat.lt_or_ge i R.K.length with hl|hl
 ·rw[h.lt hl]
 ·obtain rfl:i=R.K.length:=by omega
  rw[h.eq,List.getElem?_eq_none (Nat.le_refl _)]
  show(_ && decide ([41]=s))=false
  rw[decide_eq_false (Ne.symm hs),Bool.and_false]
theorem Sim.isAt1(h:Sim R R'){i:Nat}{s:Str}(hs:R.isAt i s=true):R'.isAt (i+1) s=true:=by
 have hl:=isAt_lt hs
 unfold Rd.isAt at hs⊢
 rw[h.lt hl];exact hs
theorem Sim.kind(h:Sim R R'){i:Nat}(hi:i≤R.K.length){k:Int}(hk:k≠4):R'.kind (i+1) k=R.kind i k:=by
 unfold Rd.kind
 rcases Nat.lt_or_ge i R.K.length with hl|hl
 ·rw[h.lt hl]
 ·obtain rfl:i=R.K.length:=by omega
  rw[h.eq,List.getElem?_eq_none (Nat.le_refl _)]
  show decide ((4:Int)=k)=false
  exact decide_eq_false (Ne.symm hk)
theorem Sim.txt(h:Sim R R'){i:Nat}(hi:i<R.K.length):R'.txt (i+1)=R.txt i:=by
 unfold Rd.txt;rw[h.lt hi]
theorem Sim.oper(h:Sim R R'){i:Nat}(hi:i≤R.K.length)(k:Nat):R'.oper k (i+1)=R.oper k i:=by
 unfold Rd.oper Rd.kind Rd.txt
 rcases Nat.lt_or_ge i R.K.length with hl|hl
 ·rw[h.lt hl]
 ·obtain rfl:i=R.K.length:=by omega
  rw[h.eq,List.getElem?_eq_none (Nat.le_refl _)]
  simp only[Bool.or_self]
  rw[if_pos (by decide),if_neg (by decide)]
  unfold operI
  repeat' split
  all_goals first|rfl|(exfalso;simp_all;done)
theorem Sim.neg(h:Sim R R'){i:Nat}(hi:i≤R.K.length):R'.neg (i+1)=R.neg i:=by
 unfold Rd.neg
 rw[h.isAt hi (by decide)]
 cases hq:R.isAt i [45] with
 | false=>rfl
 | true=>rw[Bool.true_and,Bool.true_and,h.kind (isAt_lt hq) (by decide)]
theorem Sim.tag(h:Sim R R')(s:Str):R'.tag s=R.tag s:=by unfold Rd.tag;rw[h.es]
theorem Sim.size(h:Sim R R')(t:Nat):R'.size t=R.size t:=by unfold Rd.size;rw[h.es]
theorem Sim.must1(h:Sim R R'){i:Nat}(s:Str):SimR (R.must [s] i) (R'.must [s] (i+1)):=by
 intro v j hj
 simp only[Rd.must]at hj⊢
 rcases ite_ok hj with ⟨h1,hj⟩|⟨_,hj⟩
 ·cases hj;rw[if_pos (h.isAt1 h1)]
 ·cases hj
theorem Sim.id(h:Sim R R'){i:Nat}(hi:i≤R.K.length):SimR (R.id i) (R'.id (i+1)):=by
 unfold Rd.id
 refine SimR.ite (by rw[h.kind hi (by decide)]) (fun hk=>?_) fun _=>SimR.er _ _ _
 rw[h.txt (kind_lt hk)];exact SimR.ok _ _
theorem Sim.aTag(h:Sim R R'){i:Nat}(hi:i≤R.K.length):SimR (R.aTag i) (R'.aTag (i+1)):=by
 unfold Rd.aTag
 refine SimR.ite (by rw[h.isAt hi (by decide)]) (fun _=>SimR.ok _ _) fun _=>SimR.ite (by rw[h.isAt hi (by decide)]) (fun _=>SimR.ok _ _) fun _=>(h.id hi).bind (id_in hi) fun s j _ _=>?_
 rw[h.tag]
 cases R.tag s with
 | none=>exact SimR.er _ _ _
 | some tv=>exact SimR.ok _ _
theorem Sim.sampling(h:Sim R R'){i:Nat}(hi:i≤R.K.length):SimR (R.sampling i) (R'.sampling (i+1)):=by
 unfold Rd.sampling
 exact(h.aTag hi).bind (aTag_in hi) fun _ j _ h1=>(h.must1 _).bind (must_in _ h1) fun _ j _ h2=>(h.id h2).bind (id_in h2) fun _ j _ h3=>(h.must1 _).bind (must_in _ h3) fun _ j _ h4=>SimR.ok _ _
theorem Sim.wanted(h:Sim R R'){i:Nat}(hi:i≤R.K.length)(t v:Nat)(b:Bool):SimR (R.wanted t v b i) (R'.wanted t v b (i+1)):=by
 unfold Rd.wanted
 refine SimR.ite (by rw[h.isAt hi (by decide)]) (fun _=>SimR.ite Iff.rfl (fun _=>SimR.er _ _ _) fun _=>SimR.ok _ _) fun _=>SimR.ite (by rw[h.isAt hi (by decide)]) (fun _=>SimR.ite Iff.rfl (fun _=>SimR.er _ _ _) fun _=>SimR.ok _ _) fun _=>
  SimR.ite (by rw[h.kind hi (by decide)]) (fun _=>SimR.er _ _ _) fun hk=>?_
 have hk:R.kind i 1=true:=by simpa using hk
 rw[h.txt (kind_lt hk),h.tag]
 cases R.tag (R.txt i) with
 | none=>exact SimR.ite Iff.rfl (fun _=>SimR.er _ _ _) fun _=>SimR.ok _ _
 | some tv=>exact SimR.ite Iff.rfl (fun _=>SimR.er _ _ _) fun _=>SimR.ok _ _
def SimF(R:Rd)(f f':Nat->PR Ex):Prop:=∀i,i≤R.K.length->SimR (f i) (f' (i+1))/\InR R.K.length (i+1) (f i)
theorem Sim.ops(h:Sim R R'){f f':Nat->PR Ex}(hf:SimF R f f')(k:Nat):∀(m m':Nat) (a:Ex) {i:Nat},i≤R.K.length->R.K.length-i≤m->R.K.length-i≤m'->SimR (R.ops f k m a i) (R'.ops f' k m' a (i+1))
 | 0,m',a,i,hi,h1,h2=>by
   obtain rfl:i=R.K.length:=by omega
   rw[Rd.ops,ops_none (by rw[h.oper hi];unfold Rd.oper Rd.kind;rw[List.getElem?_eq_none (Nat.le_refl _)];rfl)]
   exact SimR.ok _ _
 | m+1,m',a,i,hi,h1,h2=>by
   have ho:=h.oper hi k
   cases hq:R.oper k i with
   | none=>
     rw[ops_none hq,ops_none (by rw[ho,hq])]
     exact SimR.ok _ _
   | some op=>
     have hlt:=oper_lt hq
     cases m' with
     | zero=>omega
     | succ m'=>
       rw[Rd.ops,Rd.ops,ho,hq]
       simp only
       exact(hf _ hlt).1.bind (hf _ hlt).2 fun b j g1 g2=>SimR.ite Iff.rfl (fun _=>SimR.ok _ _) fun _=>h.ops hf k m m' _ g2 (by omega) (by omega)
theorem Sim.whens(h:Sim R R'):∀(m m':Nat) (a:Ex) {i:Nat},i≤R.K.length->R.K.length-i≤m->R.K.length-i≤m'->SimR (R.whens m a i) (R'.whens m' a (i+1))
 | 0,m',a,i,hi,h1,h2=>by
   obtain rfl:i=R.K.length:=by omega
   rw[Rd.whens,whens_none (by rw[h.isAt hi (by decide)];unfold Rd.isAt;rw[List.getElem?_eq_none (Nat.le_refl _)])]
   exact SimR.ok _ _
 | m+1,m',a,i,hi,h1,h2=>by
   have ho:=h.isAt hi (s:=[119,104,101,110]) (by decide)
   cases hq:R.isAt i [119,104,101,110] with
   | false=>
     rw[whens_none hq,whens_none (by rw[ho,hq])]
     exact SimR.ok _ _
   | true=>
     have hlt:=isAt_lt hq
     cases m' with
     | zero=>omega
     | succ m'=>
       rw[Rd.whens,Rd.whens,ho,hq,if_pos rfl,if_pos rfl]
       exact(h.sampling hlt).bind (sampling_in hlt) fun b j g1 g2=>h.whens m m' _ g2 (by omega) (by omega)
theorem Sim.args(h:Sim R R'){f f':Nat->PR Ex}(hf:SimF R f f'):∀(m m':Nat) (a:List Ex) {i:Nat},i≤R.K.length->R.K.length-i≤m->R.K.length-i≤m'->SimR (R.args f m a i) (R'.args f' m' a (i+1))
 | 0,m',a,i,hi,h1,h2=>by
   obtain rfl:i=R.K.length:=by omega
   rw[Rd.args,args_none (by rw[h.isAt hi (by decide)];unfold Rd.isAt;rw[List.getElem?_eq_none (Nat.le_refl _)])]
   exact SimR.ok _ _
 | m+1,m',a,i,hi,h1,h2=>by
   have ho:=h.isAt hi (s:=[44]) (by decide)
   cases hq:R.isAt i [44] with
   | false=>
     rw[args_none hq,args_none (by rw[ho,hq])]
     exact SimR.ok _ _
   | true=>
     have hlt:=isAt_lt hq
     cases m' with
     | zero=>omega
     | succ m'=>
       rw[Rd.args,Rd.args,ho,hq,if_pos rfl,if_pos rfl]
       exact(hf _ hlt).1.bind (hf _ hlt).2 fun b j g1 g2=>h.args hf m m' _ g2 (by omega) (by omega)
theorem Sim.call(h:Sim R R'){f f' g g':Nat->PR Ex}(hf:SimF R f f')(hg:SimF R g g')(s:Str){i:Nat}(hi:i≤R.K.length):SimR (R.call f g s i) (R'.call f' g' s (i+1)):=by
 have hl:=h.len
 unfold Rd.call
 refine SimR.bind (n:=R.K.length) (lo:=i+1) ?_ ?_ fun l j g1 g2=>SimR.ite (by rw[h.isAt g2 (by decide)]) (fun hs=>(hg _ (isAt_lt hs)).1.bind (hg _ (isAt_lt hs)).2 fun _ j _ _=>SimR.ok _ _) fun _=>SimR.ok _ _
 ·rcases Nat.lt_or_ge i R.K.length with hlt|hge
  ·refine SimR.ite (by unfold Rd.isAt;rw[h.lt hlt]) (fun _=>SimR.ok _ _) fun _=>(hf i hi).1.bind (hf i hi).2 fun a j g1 g2=>(h.args hf _ _ _ g2 (by omega) (by omega)).bind (args_in (fun i hi=>(hf i hi).2) _ _ g2) fun l j g3 g4=>(h.must1 _).bind (must_in _ g4) fun _ j _ _=>SimR.ok _ _
  ·intro v j hj
   exfalso
   rw[if_neg (by unfold Rd.isAt;rw[List.getElem?_eq_none hge];decide)]at hj
   obtain⟨a,k,h1,_⟩:=bind_ok hj
   have:=(hf i hi).2
   rw[h1]at this
   obtain⟨g1,g2⟩:=this
   omega
 ·exact InR.ite (fun hs=>⟨Nat.le_refl _,isAt_lt hs⟩) fun _=>(hf i hi).2.bind fun a j h1 h2=>(args_in (fun i hi=>(hf i hi).2) _ _ h2).bind fun l j h3 h4=>(must_in _ h4).bind fun _ j h5 h6=>⟨by omega,h6⟩
theorem Sim.branch(h:Sim R R'){f f':Nat->PR Ex}(hf:SimF R f f')(t v:Nat)(b:Bool){i:Nat}(hi:i≤R.K.length):SimR (R.branch f t v b i) (R'.branch f' t v b (i+1)):=by
 unfold Rd.branch
 refine(h.must1 _).bind (must_in _ hi) fun _ j h1 h2=>(h.wanted h2 t v b).bind (wanted_in h2) fun _ _ _ _=>(h.aTag h2).bind (aTag_in h2) fun tv k h3 h4=>SimR.ite Iff.rfl (fun _=>SimR.er _ _ _) fun _=>(h.must1 _).bind (must_in _ h4) fun _ k h5 h6=>(hf _ h6).1.bind (hf _ h6).2 fun e k h7 h8=>(h.must1 _).bind (must_in _ h8) fun _ k h9 h10=>SimR.ok _ _
theorem Sim.branches(h:Sim R R'){f f':Nat->PR Ex}(hf:SimF R f f')(t size:Nat):∀(m k:Nat) (a:List Ex) {i:Nat},i≤R.K.length->SimR (R.branches f t size m k a i) (R'.branches f' t size m k a (i+1))
 | 0,k,a,i,hi=>SimR.ok _ _
 | m+1,k,a,i,hi=>by
   unfold Rd.branches
   exact SimR.ite Iff.rfl (fun _=>SimR.ok _ _) fun _=>(h.branch hf _ _ _ hi).bind (branch_in (fun i hi=>(hf i hi).2) hi) fun te j h1 h2=>h.branches hf t size m _ _ h2
theorem Sim.merge(h:Sim R R'){f f':Nat->PR Ex}(hf:SimF R f f'){i:Nat}(hi:i≤R.K.length):SimR (R.merge f i) (R'.merge f' (i+1)):=by
 unfold Rd.merge
 refine(h.id hi).bind (id_in hi) fun s j h1 h2=>?_
 have e:(if R'.isAt (j+1+1) [116,114,117,101]=true then 1 else 0)=(if R.isAt (j+1) [116,114,117,101]=true then 1 else 0)\/R.K.length≤j:=by
  rcases Nat.lt_or_ge j R.K.length with hl|hl
  ·left;rw[h.isAt hl (by decide)]
  ·exact .inr hl
 rcases e with e|e
 ·rw[e]
  refine(h.branch hf _ _ _ h2).bind (branch_in (fun i hi=>(hf i hi).2) h2) fun te j h3 h4=>?_
  rw[h.size]
  exact(h.branches hf _ _ _ _ _ h4).bind (branches_in (fun i hi=>(hf i hi).2) _ _ _ h4) fun l j h5 h6=>SimR.ok _ _
 ·intro v k hk
  exfalso
  obtain⟨te,j2,h3,_⟩:=bind_ok hk
  unfold Rd.branch at h3
  obtain⟨_,j3,h4,_⟩:=bind_ok h3
  simp only[Rd.must]at h4
  rw[if_neg (by unfold Rd.isAt;rw[List.getElem?_eq_none e];decide)]at h4
  cases h4
theorem Sim.prim(h:Sim R R'){f f' g g':Nat->PR Ex}(hf:SimF R f f')(hg:SimF R g g'){i:Nat}(hi:i≤R.K.length):SimR (R.prim f g i) (R'.prim f' g' (i+1)):=by
 unfold Rd.prim
 refine SimR.ite (by rw[h.neg hi]) (fun hs=>by rw[h.txt (neg_lt hs)];exact SimR.ok _ _) fun _=>SimR.ite (by rw[h.isAt hi (by decide)]) (fun _=>SimR.er _ _ _) fun _=>
  SimR.ite (by rw[h.kind hi (by decide)]) (fun hs=>by rw[h.txt (kind_lt hs)];exact SimR.ite Iff.rfl (fun _=>SimR.er _ _ _) fun _=>SimR.ok _ _) fun _=>
  SimR.ite (by rw[h.kind hi (by decide)]) (fun hs=>by rw[h.txt (kind_lt hs)];exact SimR.ok _ _) fun _=>SimR.ite (by rw[h.isAt hi (by decide)]) (fun _=>SimR.ok _ _) fun _=>SimR.ite (by rw[h.isAt hi (by decide)]) (fun _=>SimR.ok _ _) fun _=>
  SimR.ite (by rw[h.isAt hi (by decide)]) (fun hs=>(hf _ (isAt_lt hs)).1.bind (hf _ (isAt_lt hs)).2 fun e j _ h1=>(h.must1 _).bind (must_in _ h1) fun _ j _ _=>SimR.ok _ _) fun _=>
  SimR.ite (by rw[h.isAt hi (by decide)]) (fun hs=>(hf _ (isAt_lt hs)).1.bind (hf _ (isAt_lt hs)).2 fun e j _ h1=>(h.must1 _).bind (must_in _ h1) fun _ j _ h2=>(hf _ h2).1.bind (hf _ h2).2 fun e j _ h3=>(h.must1 _).bind (must_in _ h3) fun _ j _ h4=>(hf _ h4).1.bind (hf _ h4).2 fun e j _ h5=>SimR.ok _ _) fun _=>
  SimR.ite (by rw[h.isAt hi (by decide)]) (fun hs=>h.merge hf (isAt_lt hs)) fun _=>?_
 unfold Rd.ident
 refine(h.id hi).bind (id_in hi) fun s j h1 h2=>SimR.ite (by rw[h.isAt h2 (by decide)]) (fun hs=>h.call hf hg s (isAt_lt hs)) fun _=>?_
 rw[h.tag]
 cases R.tag s with
 | none=>exact SimR.ok _ _
 | some tv=>exact SimR.ok _ _
theorem Sim.pF(h:Sim R R'):∀(m m':Nat) (g:G),m≤m'->SimF R (pF R m g) (pF R' m' g)
 | 0,m',g,_=>fun i hi=>⟨SimR.er _ _ _,pF_in 0 g hi⟩
 | m+1,0,g,hm=>by omega
 | m+1,m'+1,g,hm=>fun i hi=>by
   have ih:=fun g=>h.pF m m' g (by omega)
   have hl:=h.len
   refine⟨?_,pF_in _ _ hi⟩
   cases g with
   | expr=>
     unfold Go.Proofs.YtlfdkafebmdoiaaGreat.pF
     refine(ih _ i hi).1.bind (ih _ i hi).2 fun a j h1 h2=>SimR.ite (by rw[h.isAt h2 (by decide)]) (fun hs=>(ih _ _ (isAt_lt hs)).1.bind (ih _ _ (isAt_lt hs)).2 fun b k _ _=>SimR.ok _ _) fun _=>
      SimR.ite (by rw[h.isAt h2 (by decide)]) (fun hs=>(ih _ _ (isAt_lt hs)).1.bind (ih _ _ (isAt_lt hs)).2 fun b k _ _=>SimR.ok _ _) fun _=>SimR.ok _ _
   | level n=>
     unfold Go.Proofs.YtlfdkafebmdoiaaGreat.pF
     refine SimR.ite Iff.rfl (fun _=>SimR.ite (by rw[h.isAt hi (by decide)]) (fun hs=>(ih _ _ (isAt_lt hs)).1.bind (ih _ _ (isAt_lt hs)).2 fun b k _ _=>SimR.ok _ _) fun _=>(ih _ i hi).1) fun _=>
      SimR.ite Iff.rfl (fun _=>(ih _ i hi).1) fun _=>(ih _ i hi).1.bind (ih _ i hi).2 fun a j h1 h2=>h.ops (ih _) n _ _ a h2 (by omega) (by omega)
   | unary=>
     unfold Go.Proofs.YtlfdkafebmdoiaaGreat.pF
     refine SimR.ite (by rw[h.isAt hi (by decide),h.neg hi]) (fun hs=>(ih _ _ (isAt_lt hs.2)).1.bind (ih _ _ (isAt_lt hs.2)).2 fun b k _ _=>SimR.ok _ _) fun _=>
      SimR.ite (by rw[h.isAt hi (by decide),h.neg hi]) (fun hs=>(ih _ _ (isAt_lt hs.2)).1.bind (ih _ _ (isAt_lt hs.2)).2 fun b k _ _=>SimR.ok _ _) fun _=>(ih _ i hi).1.bind (ih _ i hi).2 fun a j h1 h2=>h.whens _ _ a h2 (by omega) (by omega)
   | prim=>
     unfold Go.Proofs.YtlfdkafebmdoiaaGreat.pF
     exact h.prim (ih _) (ih _) hi
end
theorem past{R:Rd}{i:Nat}(h:R.K.length≤i)(s:Str):R.isAt i s=false:=by unfold Rd.isAt;rw[List.getElem?_eq_none h]
theorem pastK{R:Rd}{i:Nat}(h:R.K.length≤i)(k:Int):R.kind i k=false:=by unfold Rd.kind;rw[List.getElem?_eq_none h]
theorem pastO{R:Rd}{i:Nat}(h:R.K.length≤i)(k:Nat):R.oper k i=none:=by unfold Rd.oper;rw[pastK h,pastK h];rfl
theorem expr_br{R R':Rd}(h:Sim R R'){e:Ex}(hx:R.expr 0= .ok e R.K.length):R'.expr 0= .ok e (R.K.length+2):=by
 have hl:=h.len
 have e0:R'.K[0]?=some (4,[40]):=by rw[h.K];rfl
 have a0:∀s,R'.isAt 0 s=decide ([40]=s):=fun s=>by
  unfold Rd.isAt;rw[e0];show(true && _)=_;rfl
 have k0:∀k,R'.kind 0 k=decide ((4:Int)=k):=fun k=>by unfold Rd.kind;rw[e0]
 have n0:R'.neg 0=false:=by unfold Rd.neg;rw[a0];rfl
 have q2:R'.K.length≤R.K.length+2:=by omega
 have hb:R'.isAt (R.K.length+1) [41]=true:=by unfold Rd.isAt;rw[h.eq];decide
 unfold Rd.expr at hx⊢
 rw[hl,show 10*(R.K.length+2)+10=(10*R.K.length+20)+10 by omega]
 have hs:=(h.pF (10*R.K.length+10) (10*R.K.length+20) .expr (by omega) 0 (Nat.zero_le _)).1 e _ hx
 generalize 10*R.K.length+20=m at hs⊢
 have p1:pF R' (m+1) .prim 0= .ok e (R.K.length+2):=by
  unfold pF Rd.prim
  rw[n0,if_neg (by decide),a0,if_neg (by decide),k0,if_neg (by decide),k0,if_neg (by decide),a0,if_neg (by decide),a0,if_neg (by decide),a0,if_pos (by decide),hs]
  simp only[PR.bind,Rd.must]
  rw[if_pos hb]
 have p2:pF R' (m+2) .unary 0= .ok e (R.K.length+2):=by
  unfold pF
  rw[a0,a0,if_neg (by rintro⟨_,h⟩;exact absurd h (by decide)),if_neg (by rintro⟨_,h⟩;exact absurd h (by decide)),p1]
  simp only[PR.bind]
  exact whens_none (past q2 _)
 have p3:pF R' (m+3) (.level 6) 0= .ok e (R.K.length+2):=by
  unfold pF
  rw[if_neg (by decide),if_pos rfl,p2]
 have lv:∀k n,k≠2->k≠6->pF R' n (.level (k+1)) 0= .ok e (R.K.length+2)->pF R' (n+1) (.level k) 0= .ok e (R.K.length+2):=fun k n h2 h6 hp=>by
  unfold pF
  rw[if_neg h2,if_neg h6,hp]
  simp only[PR.bind]
  exact ops_none (pastO q2 _)
 have p4:=lv 5 _ (by decide) (by decide) p3
 have p5:=lv 4 _ (by decide) (by decide) p4
 have p6:=lv 3 _ (by decide) (by decide) p5
 have p7:pF R' (m+7) (.level 2) 0= .ok e (R.K.length+2):=by
  unfold pF
  rw[if_pos rfl,a0,if_neg (by decide),p6]
 have p8:=lv 1 _ (by decide) (by decide) p7
 have p9:=lv 0 _ (by decide) (by decide) p8
 show pF R' (m+10) .expr 0=_
 unfold pF
 rw[p9]
 simp only[PR.bind]
 rw[past q2,past q2,if_neg (by decide),if_neg (by decide)]
theorem brackets_law(es:List En)(s:Str)(hs:s.length≤4000)(h0:(exprP es s).2.2=0):exprP es (40::(s++[10,41]))=((exprP es s).1,0,0):=by
 have hk:∀k c,(rdr (scan s).1 es).expr 0= .er k c->c≠0:=fun k c h=>by
  have:=pF_in (R:=rdr (scan s).1 es) (10*(rdr (scan s).1 es).K.length+10) .expr (i:=0) (Nat.zero_le _)
  unfold Rd.expr at h
  rw[h]at this
  exact this.2
 have hj:∀e j,(rdr (scan s).1 es).expr 0= .ok e j->j≤(scan s).1.length:=fun e j h=>by
  have:=pF_in (R:=rdr (scan s).1 es) (10*(rdr (scan s).1 es).K.length+10) .expr (i:=0) (Nat.zero_le _)
  unfold Rd.expr at h
  rw[h,rdr_len]at this
  exact this.2
 unfold exprP at h0⊢
 by_cases hz:(scan s).2.2≠0
 ·rw[if_pos hz]at h0;exact absurd h0 hz
 rw[if_neg hz]at h0⊢
 obtain⟨b1,b2⟩:=scan_br hs (by omega)
 rw[if_neg (by rw[b1];decide)]
 have hl2:(scan (40::(s++[10,41]))).1.length=(scan s).1.length+2:=by
  have:=congrArg List.length b2
  simpa using this
 cases hq:(rdr (scan s).1 es).expr 0 with
 | er k c=>rw[hq]at h0;exact absurd h0 (hk k c hq)
 | ok e j=>
   have hj:=hj e j hq
   rw[hq]at h0
   simp only at h0⊢
   by_cases hlt:j<(scan s).1.length
   ·rw[if_pos hlt]at h0;exact absurd (show(5:Int)=0 from h0) (by decide)
   rw[if_neg hlt]at h0⊢
   obtain rfl:j=(scan s).1.length:=by omega
   by_cases hx:exprX es e=0
   ·rw[if_pos hx]
    have hS:Sim (rdr (scan s).1 es) (rdr (scan (40::(s++[10,41]))).1 es):=⟨rfl,b2⟩
    have hK:(rdr (scan s).1 es).K.length=(scan s).1.length:=rdr_len _ _
    rw[expr_br hS (by rw[hK];exact hq),hK]
    simp only
    rw[if_neg (by omega),if_pos hx]
   ·rw[if_neg hx]at h0;exact absurd (show exprX es e=0 from h0) hx
end Go.Proofs.YtlfdkafebmdoiaaGreat
