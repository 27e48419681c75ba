import Derived.Test.YtpfnfpaahefdaaaGreatPk25
import Derived.Test.YtpfnfpaahefdaaaGreatPk28
set_option linter.all false
namespace Go.Proofs.YtpfnfpaahefdaaaGreat
open Go Go.TL
def lexF:Nat->Str->List (Int×Str×Nat)×Nat×Int
 | 0,_=>([],0,0)
 | n+1,l=>
   if skipped l=[] then([],0,0)
   else if(zai (skipped l)).1.2.2≠0 then([],(skipped l).length,(zai (skipped l)).1.2.2)
   else if(lexF n ((skipped l).drop (zai (skipped l)).2)).2.2=0 then(((zai (skipped l)).1.1,(zai (skipped l)).1.2.1,(skipped l).length)::(lexF n ((skipped l).drop (zai (skipped l)).2)).1,0,0)
   else lexF n ((skipped l).drop (zai (skipped l)).2)
theorem zjX:skipped []=[]:=by
 rw[zb7,if_neg (by decide)];rfl
theorem zee(l:Str):∃k,k≤l.length/\skipped l=l.drop k:=by
 induction hn:l.length using Nat.strongRecOn generalizing l with
 | _ n ih=>
   subst hn
   rw[zb7]
   have h1:=zch blank l
   split
   ·rename_i h
    obtain⟨r,hr⟩:=zcM h
    have h2:=@zew r
    have h3:=zd3 blank l
    have h4:=zch (fun c=>c != 10) (behind blank l)
    rw[<-hr]at h2
    obtain⟨k,hk,he⟩:=ih _ (by omega) (behind (fun c=>c != 10) (behind blank l)) rfl
    refine⟨(zat blank l).length+((zat (fun c=>c != 10) (behind blank l)).length+k),?_,?_⟩
    ·simp only[behind,qaQ]at hk h4⊢
     omega
    ·rw[he]
     simp only[behind,qb6,qaY]
   ·exact⟨_,h1,rfl⟩
theorem zmy{s:Str}{i:Nat}(hi:i≤s.length):s.drop (zas s i)=skipped (s.drop i):=by
 obtain⟨k,hk,he⟩:=zee (s.drop i)
 unfold zas
 rw[he,qb6,qaQ]
 simp only[qaQ]at hk
 congr 1
 omega
theorem zdj(n:Nat)(l:Str):lexF (n+1) l=
  (if skipped l=[] then([],0,0)
  else if(zai (skipped l)).1.2.2≠0 then([],(skipped l).length,(zai (skipped l)).1.2.2)
  else if(lexF n ((skipped l).drop (zai (skipped l)).2)).2.2=0 then(((zai (skipped l)).1.1,(zai (skipped l)).1.2.1,(skipped l).length)::(lexF n ((skipped l).drop (zai (skipped l)).2)).1,0,0)
  else lexF n ((skipped l).drop (zai (skipped l)).2)):=rfl
def placed(s:Str)(q:List (Int×Str×Nat)×Nat×Int):List Tok×Int×Int:=
 (q.1.map fun a=>(a.1,a.2.1,((s.length-a.2.2:Nat):Int)),if q.2.2=0 then 0 else((s.length-q.2.1:Nat):Int),q.2.2)
theorem znx(s:Str):∀(n i:Nat),i≤s.length->s.length-i<n->toks s i=placed s (lexF n (s.drop i)):=by
 intro n
 induction n with
 | zero=>intro i hi hn;omega
 | succ n ih=>
   intro i hi hn
   have hd:=zmy hi
   obtain⟨g1,g2⟩:=ziK hi
   have hlen:(skipped (s.drop i)).length=s.length-zas s i:=by rw[<-hd,qaQ]
   rw[zdj]
   by_cases h1:zas s i=s.length
   ·rw[zoF h1,if_pos (qay (by omega))]
    simp[placed]
   ·rw[if_neg (fun e=>by rw[e]at hlen;simp at hlen;omega),<-hd]
    cases h2:((zai (s.drop (zas s i))).1.2.2 != 0) with
    | true=>
      have h3:(zai (s.drop (zas s i))).1.2.2≠0:=by simpa using h2
      rw[zoG h1 h2,if_pos h3]
      simp only[placed,qas,if_neg h3,qaQ]
      rw[show s.length-(s.length-zas s i)=zas s i from by omega]
    | false=>
      have h3:¬(zai (s.drop (zas s i))).1.2.2≠0:=by simpa using h2
      obtain⟨r1,r2⟩:=zdW hi h1 h2
      have:=ih (zas s i+(zai (s.drop (zas s i))).2) r2 (by omega)
      rw[znw hi h1 h2,if_neg h3,this,qb6]
      generalize lexF n (s.drop (zas s i+(zai (s.drop (zas s i))).2))=q
      by_cases h4:q.2.2=0
      ·rw[if_pos h4,if_pos (show(placed s q).2.2=0 from h4)]
       simp only[placed,qah,if_pos h4,qaQ,if_true]
       rw[show s.length-(s.length-zas s i)=zas s i from by omega]
      ·rw[if_neg h4,if_neg (show ¬(placed s q).2.2=0 from h4)]
theorem zdV{s:Str}(h:s.length≤65536):scan s=placed s (lexF (s.length+1) s):=by
 rw[znh h,znx s (s.length+1) 0 (qaV _) (by omega)]
 rfl
theorem zjG:∀(n:Nat) (l:Str),(∀a∈(lexF n l).1,zk7 a.1 a.2.1/\a.2.2≤l.length)/\((lexF n l).1.map fun a=>(zaJ (a.1,a.2.1,0)).length).sum≤l.length/\(lexF n l).1.length≤((lexF n l).1.map fun a=>(zaJ (a.1,a.2.1,0)).length).sum/\
  ((lexF n l).2.2≠0->(lexF n l).1=[]/\0<(lexF n l).2.1/\(lexF n l).2.1≤l.length):=by
 intro n
 induction n with
 | zero=>intro l;simp[lexF]
 | succ n ih=>
   intro l
   rw[zdj]
   obtain⟨k,hk,he⟩:=zee l
   have hsl:(skipped l).length≤l.length:=by rw[he,qaQ];omega
   by_cases h1:skipped l=[]
   ·rw[if_pos h1];simp
   ·rw[if_neg h1]
    by_cases h2:(zai (skipped l)).1.2.2≠0
    ·rw[if_pos h2]
     refine⟨by simp,by simp,by simp,fun _=>⟨rfl,qbo.2 h1,hsl⟩⟩
    ·rw[if_neg h2]
     have h2':(zai (skipped l)).1.2.2=0:=by simpa using h2
     obtain⟨t1,t2,t3⟩:=zoE (k:=(zai (skipped l)).1.1) (x:=(zai (skipped l)).1.2.1) (n:=(zai (skipped l)).2) h1 (by rw[<-h2']) 0
     obtain⟨_,_,tne⟩:=zgI t1 (.inl rfl) 0
     have hpos:=qbo.2 tne
     have htl:(zai (skipped l)).2≤(skipped l).length:=by
      have:=congrArg List.length t2
      rw[qa5,<-t3]at this
      omega
     obtain⟨i1,i2,i3,i4⟩:=ih ((skipped l).drop (zai (skipped l)).2)
     rw[qaQ]at i2 i4
     generalize lexF n ((skipped l).drop (zai (skipped l)).2)=q at i1 i2 i3 i4
     by_cases h4:q.2.2=0
     ·rw[if_pos h4]
      refine⟨fun a ha=>?_,?_,?_,fun h=>absurd rfl h⟩
      ·rcases qa8.1 ha with rfl|ha
       ·exact⟨t1,hsl⟩
       ·obtain⟨j1,j2⟩:=i1 a ha
        rw[qaQ]at j2
        exact⟨j1,by omega⟩
      ·simp only[qah,qax]
       omega
      ·simp only[qah,qax,qac]
       omega
     ·rw[if_neg h4]
      obtain⟨j1,j2,j3⟩:=i4 h4
      refine⟨by rw[j1];simp,by rw[j1];simp,by rw[j1];simp,fun _=>⟨j1,j2,by omega⟩⟩
theorem zlD{c:UInt8}{l:Str}(h:blank c.toNat=true):∀n,lexF n (c::l)=lexF n l
 | 0=>rfl
 | n+1=>by rw[zdj,zdj,zhR h]
theorem join_cons(t:Tok)(ts:List Tok):join (t::ts)=zaJ t++za8 [] false ts:=by
 unfold join
 rw[za8,zcq];simp
theorem zgg(ts:List Tok):za8 [] false ts=if ts=[] then[] else 32::join ts:=by
 cases ts with
 | nil=>rfl
 | cons t ts=>rw[join_cons,if_neg (by simp),za8,zcq];simp
theorem zhJ:∀(ts:List Tok),(∀t∈ts,zk7 t.1 t.2.1)->∀n,(join ts).length<n->(lexF n (join ts)).2=(0,0)/\(lexF n (join ts)).1.map (fun a=>(a.1,a.2.1))=ts.map fun t=>(t.1,t.2.1)
 | [],_,n,hn=>by
   cases n with
   | zero=>omega
   | succ n=>
     have:skipped (join [])=[]:=zjX
     rw[zdj,if_pos this]
     simp
 | t::ts,h,n,hn=>by
   obtain⟨k,x,p⟩:=t
   have hsep:Sep (za8 [] false ts):=by
    rw[zgg]
    split
    ·exact .inl rfl
    ·exact .inr ⟨_,rfl⟩
   obtain⟨a1,a2,a3⟩:=zgI (k:=k) (x:=x) (h (k,x,p) qaC) hsep p
   rw[join_cons]at hn⊢
   cases n with
   | zero=>omega
   | succ n=>
     rw[qal]at hn
     have hpos:=qbo.2 a3
     rw[zdj,a2,if_neg (by simp[a3]),a1,if_neg (by simp),qbN]
     have ih:(lexF n (za8 [] false ts)).2=(0,0)/\(lexF n (za8 [] false ts)).1.map (fun a=>(a.1,a.2.1))=ts.map fun t=>(t.1,t.2.1):=by
      rw[zgg]at hn⊢
      by_cases ht:ts=[]
      ·subst ht
       rw[if_pos rfl]at hn⊢
       exact zhJ [] (by simp) n (by simp[join,za8];omega)
      ·rw[if_neg ht]at hn⊢
       rw[zlD (by decide)]
       exact zhJ ts (fun u hu=>h u (qaA _ hu)) n (by simp at hn;omega)
     rw[if_pos (by rw[ih.1])]
     exact⟨rfl,by simp[ih.2]⟩
theorem zky:∀(ts:List Tok),(join ts).length≤(ts.map fun t=>(zaJ t).length).sum+ts.length
 | []=>by simp[join,za8]
 | t::ts=>by
   have:=zky ts
   rw[join_cons,qal,zgg]
   simp only[qah,qax,qac]
   split
   ·simp;omega
   ·simp;omega
end Go.Proofs.YtpfnfpaahefdaaaGreat
namespace Go.Proofs.YtpfnfpaahefdaaaGreat
open Go Go.TL
attribute [local irreducible] TR TO Then zab RetK Sound zac Kf GG za2
theorem zcv(k o t v:Int)(s:Str)(l:List Ex):wEx (mkE k o t v s l)=1+(l.map wEx).sum:=by rw[zdY];rfl
section
variable {R:Rd}
theorem zae{α β:Type}{r:PR α}{f:α->Nat->PR β}{x:β}{j:Nat}(h:r.bind f= .ok x j):∃v k,r= .ok v k/\f v k= .ok x j:=by
 cases r with
 | ok v k=>exact⟨v,k,rfl,h⟩
 | er k c=>cases h
theorem zaL{α:Type}{c:Prop}[Decidable c]{a b r:PR α}(h:(if c then a else b)=r):(c/\a=r)\/(¬c/\b=r):=by
 split at h
 ·rename_i hc;exact .inl ⟨hc,h⟩
 ·rename_i hc;exact .inr ⟨hc,h⟩
theorem ze0{i j:Nat}{s:Str}(h:R.id i= .ok s j):j=i+1/\s=R.txt i:=by
 unfold Rd.id at h
 rcases zaL h with ⟨_,h⟩|⟨_,h⟩
 ·cases h;exact⟨rfl,rfl⟩
 ·cases h
theorem zl7{i j:Nat}{tv:Nat×Nat}(h:R.aTag i= .ok tv j):j=i+1:=by
 unfold Rd.aTag at h
 rcases zaL h with ⟨_,h⟩|⟨_,h⟩
 ·cases h;rfl
 rcases zaL h with ⟨_,h⟩|⟨_,h⟩
 ·cases h;rfl
 obtain⟨s,k,h1,h2⟩:=zae h
 obtain⟨rfl,_⟩:=ze0 h1
 split at h2
 ·cases h2;rfl
 ·cases h2
theorem zer{i j:Nat}{o:OnC}(h:R.sampling i= .ok o j):j=i+4/\∃k,o.name=R.txt k:=by
 unfold Rd.sampling at h
 obtain⟨tv,k,h1,h⟩:=zae h
 obtain⟨_,k2,h2,h⟩:=zae h
 obtain⟨s,k3,h3,h⟩:=zae h
 obtain⟨_,k4,h4,h⟩:=zae h
 have e1:=zl7 h1
 have e2:=zbk h2
 have e3:=ze0 h3
 have e4:=zbk h4
 cases h
 exact⟨by omega,_,e3.2⟩
theorem zqX{f:Nat->PR Ex}(hf:∀ {i e j},f i= .ok e j->i+wEx e≤j)(n:Nat):∀(m:Nat) {a:Ex} {i:Nat} {e:Ex} {j c:Nat},R.ops f n m a i= .ok e j->c+wEx a≤i->c+wEx e≤j
 | 0,a,i,e,j,c,h,hc=>by cases h;exact hc
 | m+1,a,i,e,j,c,h,hc=>by
   unfold Rd.ops at h
   split at h
   ·cases h;exact hc
   ·rename_i op ho
    obtain⟨b,k,h1,h⟩:=zae h
    have h1:=hf h1
    have h3:c+wEx (mkE 3 op 0 0 [] [a,b])≤k:=by rw[zcv];simp only[qah,qas,qax,qaK];omega
    rcases zaL h with ⟨_,h⟩|⟨_,h⟩
    ·cases h;exact h3
    ·exact zqX hf n m h h3
theorem znF:∀(m:Nat) {a:Ex} {i:Nat} {e:Ex} {j c:Nat},R.whens m a i= .ok e j->c+wEx a≤i->c+wEx e≤j
 | 0,a,i,e,j,c,h,hc=>by cases h;exact hc
 | m+1,a,i,e,j,c,h,hc=>by
   unfold Rd.whens at h
   rcases zaL h with ⟨_,h⟩|⟨_,h⟩
   ·obtain⟨o,k,h1,h⟩:=zae h
    have h1:=(zer h1).1
    refine znF m h ?_
    rw[zdY];simp only[Ex.args,qah,qas,qax,qaK];omega
   ·cases h;exact hc
theorem zoR{f:Nat->PR Ex}(hf:∀ {i e j},f i= .ok e j->i+wEx e≤j):∀(m:Nat) {l:List Ex} {i:Nat} {l':List Ex} {j c:Nat},R.args f m l i= .ok l' j->c+(l.map wEx).sum≤i->c+(l'.map wEx).sum≤j
 | 0,l,i,e,j,c,h,hc=>by cases h;exact hc
 | m+1,l,i,e,j,c,h,hc=>by
   unfold Rd.args at h
   rcases zaL h with ⟨_,h⟩|⟨_,h⟩
   ·obtain⟨b,k,h1,h⟩:=zae h
    have h1:=hf h1
    refine zoR hf m h ?_
    rw[qav,qbL];simp only[qah,qas,qax,qaK];omega
   ·cases h;exact hc
theorem zqB{f g:Nat->PR Ex}(hf:∀ {i e j},f i= .ok e j->i+wEx e≤j)(hg:∀ {i e j},g i= .ok e j->i+wEx e≤j){s:Str}{i:Nat}{e:Ex}{j:Nat}(h:R.call f g s i= .ok e j):i+wEx e≤j:=by
 unfold Rd.call at h
 obtain⟨l,k,h1,h⟩:=zae h
 have hl:i+1+(l.map wEx).sum≤k:=by
  rcases zaL h1 with ⟨_,h1⟩|⟨_,h1⟩
  ·cases h1;simp
  ·obtain⟨a,k2,h2,h1⟩:=zae h1
   obtain⟨l2,k3,h3,h1⟩:=zae h1
   obtain⟨_,k4,h4,h1⟩:=zae h1
   have h2:=hf h2
   have h3:=zoR hf _ h3 (c:=i) (by simpa using h2)
   have h4:=zbk h4
   cases h1
   omega
 rcases zaL h with ⟨_,h⟩|⟨_,h⟩
 ·obtain⟨a,k2,h2,h⟩:=zae h
  have h2:=hg h2
  cases h
  rw[zcv,qav,qbL];simp only[qah,qas,qax,qaK];omega
 ·cases h
  rw[zcv];omega
theorem zkm{f:Nat->PR Ex}(hf:∀ {i e j},f i= .ok e j->i+wEx e≤j){t v:Nat}{b:Bool}{i:Nat}{te:Nat×Ex}{j:Nat}(h:R.branch f t v b i= .ok te j):i+4+wEx te.2≤j:=by
 exact zwp
theorem znp{l:List Ex}{k:Nat}{e:Ex}:((l.set k e).map wEx).sum≤(l.map wEx).sum+wEx e:=by
 exact zwba
theorem zg3{f:Nat->PR Ex}(hf:∀ {i e j},f i= .ok e j->i+wEx e≤j){t size:Nat}:∀(m:Nat) {k:Nat} {l:List Ex} {i:Nat} {l':List Ex} {j:Nat},R.branches f t size m k l i= .ok l' j->size≤k+m->i+4*(size-k)+(l'.map wEx).sum≤j+(l.map wEx).sum
 | 0,k,l,i,l',j,h,hm=>by cases h;omega
 | m+1,k,l,i,l',j,h,hm=>by
   unfold Rd.branches at h
   rcases zaL h with ⟨hs,h⟩|⟨hs,h⟩
   ·cases h;omega
   ·obtain⟨te,k2,h1,h⟩:=zae h
    have h1:=zkm hf h1
    have h2:=zg3 hf m h (by omega)
    have h3:=znp (l:=l) (k:=if t=1 then 1-k else k) (e:=te.2)
    omega
theorem zpJ{f:Nat->PR Ex}(hf:∀ {i e j},f i= .ok e j->i+wEx e≤j){i:Nat}{e:Ex}{j:Nat}(h:R.merge f i= .ok e j):i+wEx e≤j:=by
 unfold Rd.merge at h
 obtain⟨s,k1,h1,h⟩:=zae h
 obtain⟨te,k2,h2,h⟩:=zae h
 obtain⟨l,k3,h3,h⟩:=zae h
 have e1:=(ze0 h1).1
 have e2:=zkm hf h2
 have e3:=zg3 hf _ h3 (by omega)
 have e4:=znp (l:=List.replicate (R.size te.1) noE) (k:=if R.isAt (k1+1) [116,114,117,101]=true then 1 else 0) (e:=te.2)
 have e5:((List.replicate (R.size te.1) noE).map wEx).sum=R.size te.1:=by
  rw[qb2,show wEx noE=1 from by rw[zdY];rfl]
  simp
 have e6:(l.map wEx).sum=(l.map wEx).sum:=rfl
 cases h
 rw[zcv]
 omega
theorem zpA{f g:Nat->PR Ex}(hf:∀ {i e j},f i= .ok e j->i+wEx e≤j)(hg:∀ {i e j},g i= .ok e j->i+wEx e≤j){i:Nat}{e:Ex}{j:Nat}(h:R.ident f g i= .ok e j):i+wEx e≤j:=by
 unfold Rd.ident at h
 obtain⟨s,k1,h1,h⟩:=zae h
 have e1:=(ze0 h1).1
 rcases zaL h with ⟨_,h⟩|⟨_,h⟩
 ·have:=zqB hf hg h;omega
 ·split at h
  all_goals
   cases h
   rw[zcv];simp;omega
theorem zqZ{f g:Nat->PR Ex}(hf:∀ {i e j},f i= .ok e j->i+wEx e≤j)(hg:∀ {i e j},g i= .ok e j->i+wEx e≤j){i:Nat}{e:Ex}{j:Nat}(h:R.prim f g i= .ok e j):i+wEx e≤j:=by
 unfold Rd.prim at h
 rcases zaL h with ⟨_,h⟩|⟨_,h⟩
 ·cases h;rw[zcv];simp
 rcases zaL h with ⟨_,h⟩|⟨_,h⟩
 ·cases h
 rcases zaL h with ⟨_,h⟩|⟨_,h⟩
 ·rcases zaL h with ⟨_,h⟩|⟨_,h⟩
  ·cases h
  ·cases h;rw[zcv];simp
 rcases zaL h with ⟨_,h⟩|⟨_,h⟩
 ·cases h;rw[zcv];simp
 rcases zaL h with ⟨_,h⟩|⟨_,h⟩
 ·cases h;rw[zcv];simp
 rcases zaL h with ⟨_,h⟩|⟨_,h⟩
 ·cases h;rw[zcv];simp
 rcases zaL h with ⟨_,h⟩|⟨_,h⟩
 ·exact zwdg
 rcases zaL h with ⟨_,h⟩|⟨_,h⟩
 ·obtain⟨a,k1,h1,h⟩:=zae h
  obtain⟨_,k2,h2,h⟩:=zae h
  obtain⟨b,k3,h3,h⟩:=zae h
  obtain⟨_,k4,h4,h⟩:=zae h
  obtain⟨c,k5,h5,h⟩:=zae h
  have h1:=hf h1
  have h2:=zbk h2
  have h3:=hf h3
  have h4:=zbk h4
  have h5:=hf h5
  cases h
  rw[zcv];simp only[qah,qas,qax,qaK];omega
 rcases zaL h with ⟨_,h⟩|⟨_,h⟩
 ·have:=zpJ hf h;omega
 ·exact zpA hf hg h
theorem pF_w:∀(m:Nat) (g:G) {i:Nat} {e:Ex} {j:Nat},pF R m g i= .ok e j->i+wEx e≤j
 | 0,g,i,e,j,h=>by cases h
 | m+1,.expr,i,e,j,h=>by
   unfold pF at h
   obtain⟨a,k,h1,h⟩:=zae h
   have h1:=pF_w m _ h1
   rcases zaL h with ⟨_,h⟩|⟨_,h⟩
   ·exact zwcr
   rcases zaL h with ⟨_,h⟩|⟨_,h⟩
   ·exact zwcr
   ·cases h;exact h1
 | m+1,.level n,i,e,j,h=>by
   unfold pF at h
   rcases zaL h with ⟨_,h⟩|⟨_,h⟩
   ·rcases zaL h with ⟨_,h⟩|⟨_,h⟩
    ·exact zwcr
    ·exact pF_w m _ h
   rcases zaL h with ⟨_,h⟩|⟨_,h⟩
   ·exact pF_w m _ h
   ·obtain⟨a,k,h1,h⟩:=zae h
    exact zqX (fun h=>pF_w m _ h) n _ h (pF_w m _ h1)
 | m+1,.unary,i,e,j,h=>by
   unfold pF at h
   rcases zaL h with ⟨_,h⟩|⟨_,h⟩
   ·exact zwcr
   rcases zaL h with ⟨_,h⟩|⟨_,h⟩
   ·exact zwcr
   ·obtain⟨a,k,h1,h⟩:=zae h
    exact znF _ h (pF_w m _ h1)
 | m+1,.prim,i,e,j,h=>by
   unfold pF at h
   exact zqZ (fun h=>pF_w m _ h) (fun h=>pF_w m _ h) h
end
theorem zhq(k:Int)(x:Str)(p:Int):x.length≤(zaJ (k,x,p)).length:=by
 unfold zaJ
 split
 ·simp only[qal,qac,qaf];omega
 ·exact qae _
theorem zlK{w x:Str}(h:zc3 w=(2,x,0)):w.length≤5:=by
 refine qbm fun hl=>?_
 have h5:decide (5<(w.length:Int))=true:=by simp only[decide_eq_true_eq];omega
 unfold zc3 at h
 rw[h5,Bool.true_or,if_pos rfl]at h
 have h1:=congrArg Prod.fst h
 rw[apply_ite Prod.fst]at h1
 simp only[ite_self]at h1
 exact absurd h1 (by omega)
theorem znv{x:Str}(h:zk7 2 x):x.length≤5/\∀c∈x,48≤c.toNat/\c.toNat≤57:=by
 rcases h with ⟨c,w,h1,h2,h3,h4⟩|⟨c,w,h1,h2,h3⟩|⟨h1,_⟩|⟨h1,_⟩
 ·rcases(zjI h4).1 with h|h <;> exact absurd h (by decide)
 ·refine⟨zlK h3,fun d hd=>?_⟩
  have:=h2 d hd
  unfold digit at this
  simp only[qat,decide_eq_true_eq]at this
  omega
 ·exact absurd h1 (by decide)
 ·exact absurd h1 (by decide)
theorem zgw(s:Str):TkOk (scan s).1:=by
 refine⟨by have:=zlZ s;omega,fun t ht=>?_,fun t ht h2=>?_⟩
 all_goals
  by_cases hs:65536<s.length
  ·rw[scan,if_pos hs]at ht;cases ht
  rw[zdV (by omega)]at ht
  obtain⟨a,ha,rfl⟩:=qa2.1 ht
  obtain⟨h3,h4,h5,h6⟩:=zjG (s.length+1) s
 ·have h7:(zaJ (a.1,a.2.1,0)).length≤((lexF (s.length+1) s).1.map fun a=>(zaJ (a.1,a.2.1,0)).length).sum:=by
   exact zwt
  have h8:=zhq a.1 a.2.1 0
  show a.2.1.length≤_
  omega
 ·have:=(h3 a ha).1
  replace h2:a.1=2:=h2
  rw[h2]at this
  exact znv this
end Go.Proofs.YtpfnfpaahefdaaaGreat
namespace Go.TL
open Go
section rules
variable {P:Program}{n:Nat}{env:Env}{H:Heap}{K:TK}{all:Array Oper}
theorem TO.forget{ops:List Oper}(id j:Nat){cs:List SV}{sz tid:Nat}{es:List T}{H':Heap}(hH:H[id]?=some (.cells cs))(hi:cs[j]?=some (.sl sz es tid))(hH':H.set id (.cells (cs.set j (.t (.sl sz es))))=H')
  (k:TO false P n all ops env H' K):TO false P n all ops env H K:=by
 intro φ m a h1 h2 h3 h4
 have hid:=(qaa.1 hH).1
 have hjl:=(qaa.1 hi).1
 have hH1:m.H[id]?=some (.cells cs):=by rw[h1];exact hH
 obtain⟨p,hp⟩:∃p,m.β[id]?=some p:=⟨_,qab (by rw[h2.len,h1];exact hid)⟩
 obtain⟨b1,b2,b3⟩:=h2.blk id p _ hp hH1
 obtain⟨s,hm⟩:=upd (m:=m) h2 (cs':=cs.set j (.t (.sl sz es))) (w':=m.w) hp hH1 rfl rfl rfl rfl (fun _ _=>rfl) (fun _ _=>rfl) (fun _=>rfl) (fun _=>rfl) (fun _ h=>h) (by simpa using b1) (by omega) (fun q c hc=>by
  by_cases hq:q=j
  ·exact zwby
  ·rw[qau (by omega)]at hc
   exact b3 q c hc)
 refine TO.ze6 (m':=⟨m.A,m.β,m.H.set id (.cells (cs.set j (.t (.sl sz es)))),m.w⟩) s (k φ ⟨m.A,m.β,m.H.set id (.cells (cs.set j (.t (.sl sz es)))),m.w⟩ a ?_ hm (h3.step h2 s) h4)
 rw[<-hH',<-h1]
end rules
section rules
variable {P:Program}{n:Nat}{env:Env}{H:Heap}{K:TK}{c:Code}
theorem TR.forget(id j:Nat){cs:List SV}{sz tid:Nat}{es:List T}{H':Heap}(hH:H[id]?=some (.cells cs))(hi:cs[j]?=some (.sl sz es tid))(hH':H.set id (.cells (cs.set j (.t (.sl sz es))))=H')
  (k:TR P n c env H' K):TR P n c env H K:=by
 intro φ m a h1 h2 h3 h4
 have hid:=(qaa.1 hH).1
 have hjl:=(qaa.1 hi).1
 have hH1:m.H[id]?=some (.cells cs):=by rw[h1];exact hH
 obtain⟨p,hp⟩:∃p,m.β[id]?=some p:=⟨_,qab (by rw[h2.len,h1];exact hid)⟩
 obtain⟨b1,b2,b3⟩:=h2.blk id p _ hp hH1
 obtain⟨s,hm⟩:=upd (m:=m) h2 (cs':=cs.set j (.t (.sl sz es))) (w':=m.w) hp hH1 rfl rfl rfl rfl (fun _ _=>rfl) (fun _ _=>rfl) (fun _=>rfl) (fun _=>rfl) (fun _ h=>h) (by simpa using b1) (by omega) (fun q e hc=>by
  by_cases hq:q=j
  ·exact zwby
  ·rw[qau (by omega)]at hc
   exact b3 q e hc)
 refine zbe (k φ ⟨m.A,m.β,m.H.set id (.cells (cs.set j (.t (.sl sz es)))),m.w⟩ a ?_ hm (h3.step h2 s) h4) fun _ _ _ hp=>hp.step s
 rw[<-hH',<-h1]
end rules
theorem zhi(sz n id:Nat):(rowV sz n id).solid=true:=by
 unfold rowV
 cases n <;> rfl
theorem zhh(sz n id:Nat):(rowV sz n id).cells=[rowV sz n id]:=by
 unfold rowV
 cases n <;> rfl
def zbX(f:Nat->Blk):Heap:=[f 0,f 1,f 2,f 3,f 4,f 5,f 6,f 7,f 8,f 9,f 10,f 11,f 12,f 13,f 14,f 15]
theorem zhj(f:Nat->Blk){a:Nat}(h:a<16):(zbX f)[a]?=some (f a):=by
 have:zbX f=(List.range 16).map f:=rfl
 rw[this,qar,qbY h];rfl
theorem zhk(f:Nat->Blk){a:Nat}(h:a<16)(b:Blk):(zbX f).set a b=zbX fun k=>if k=a then b else f k:=by
 have h1:∀g:Nat->Blk,zbX g=(List.range 16).map g:=fun _=>rfl
 rw[h1,h1]
 refine List.ext_getElem (by simp) fun i h2 h3=>?_
 simp only[qbv,qad,List.length_range]at h2
 rw[List.getElem_set]
 simp only[List.getElem_map,List.getElem_range]
 by_cases hi:a=i
 ·rw[if_pos hi,if_pos hi.symm]
 ·rw[if_neg hi,if_neg (fun e=>hi e.symm)]
section rules
variable {P:Program}{n:Nat}{env:Env}{H:Heap}{K:TK}{all:Array Oper}{rest:List Oper}{tab:Tab}
variable {d:Nat}{ty:TypeId}{pos:String}{aft:Array Edge}{q:Bool}
theorem TO.zly(hT:zaF P tab){t e:TypeId}{i ie:TyI}{x y:Operand}{sz id len:Nat}{ik:IntKind}{j:Int}(hd:Nat.ble (d+1) n=true)(ht:tab.get t=some i)(hk:i.k= .slice e)
  (he:tab.get e=some ie)(hs:ie.size=sz)(hx:env.val x=some (rowV sz len id))(hy:env.val y=some (.t (.v (.int ik j))))(h0:0≤j)(hj:j<len)
  (k:TO q P n all rest ((d,.ref id (0+j.toNat*sz))::env) H K):TO q P n all (⟨some d,.indexAddr t x y,ty,pos,aft,none⟩::rest) env H K:=
 TO.zfl hT hd ht hk he hs (by rw[hx,zcl (by omega)]) hy h0 hj k
theorem TO.zoU{ops:List Oper}(id j:Nat){cs:List SV}{v v':SV}(hl:Le v v'){H':Heap}(hH:H[id]?=some (.cells cs))(hi:cs[j]?=some v)(hH':H.set id (.cells (cs.set j v'))=H')
  (k:TO false P n all ops env H' K):TO false P n all ops env H K:=by
 intro φ m a h1 h2 h3 h4
 have hid:=(qaa.1 hH).1
 have hjl:=(qaa.1 hi).1
 have hH1:m.H[id]?=some (.cells cs):=by rw[h1];exact hH
 obtain⟨p,hp⟩:∃p,m.β[id]?=some p:=⟨_,qab (by rw[h2.len,h1];exact hid)⟩
 obtain⟨b1,b2,b3⟩:=h2.blk id p _ hp hH1
 obtain⟨s,hm⟩:=upd (m:=m) h2 (cs':=cs.set j v') (w':=m.w) hp hH1 rfl rfl rfl rfl (fun _ _=>rfl) (fun _ _=>rfl) (fun _=>rfl) (fun _=>rfl) (fun _ h=>h) (by simpa using b1) (by omega) (fun q e hc=>by
  by_cases hq:q=j
  ·subst hq
   rw[qap hjl]at hc
   cases hc
   obtain⟨y,hy1,hy0,hy2⟩:=b3 q _ hi
   exact⟨_,hy1,hy0,hl _ _ hy2⟩
  ·rw[qau (by omega)]at hc
   exact b3 q e hc)
 refine TO.ze6 (m':=⟨m.A,m.β,m.H.set id (.cells (cs.set j v')),m.w⟩) s (k φ ⟨m.A,m.β,m.H.set id (.cells (cs.set j v')),m.w⟩ a ?_ hm (h3.step h2 s) h4)
 rw[<-hH',<-h1]
theorem TO.zeZ{ops:List Oper}(bid j0 sz id len:Nat){bs:List SV}{ts:List T}{es:List T}{H':Heap}(hne:bid≠id)(hB:H[bid]?=some (.cells bs))(hj0:bs[j0]?=some (rowV sz len id))(hH:H[id]?=some (rowB len (ts.map .t)))(hts:ts=(es.map T.cells).flatten)(hlen:len=es.length)(hsz:∀e∈es,e.cells.length=sz)
  (hpos:Nat.ble 1 sz=true)(hH':(H.set id .dead).set bid (.cells (bs.set j0 (.t (.sl sz es))))=H')(k:TO false P n all ops env H' K):TO false P n all ops env H K:=by
 cases len with
 | zero=>
   have hes:es=[]:=qay hlen.symm
   subst hes
   refine TO.zoU bid j0 (v:=.t (.v (.slice none 0 0))) (v':=.t (.sl sz [])) (Le.nil sz) hB hj0 ?_ k
   rw[<-hH']
   congr 1
   have hid:=(qaa.1 hH).1
   have:H[id]= .dead:=by
    rw[qab hid]at hH
    exact Option.some.inj hH
   rw[<-this,qbS]
 | succ len=>
   rw[zcl (by omega)]at hj0
   rw[zbR (by omega)]at hH
   have hneb:Nat.beq bid id=false:=by
    cases h:Nat.beq bid id with
    | false=>rfl
    | true=>exact absurd (qaI h) hne
   refine TO.zmH bid j0 sz id (len+1) hneb hB hj0 hH ?_ (fun j c hc=>by rw[hts];exact hc) hlen hsz hpos hH' k
   rw[qad,hts,(zcH es hsz).1]
   exact qae _
theorem TO.quo2{t t':TypeId}{x y:Operand}{a:Nat}(hd:Nat.ble (d+1) n=true)(hx:env.val x=some (.i a))(hy:env.val y=some (.t (.v (.int .i64 2))))(ha:a≤1000000000000)
  (k:TO q P n all rest ((d,.i (a / 2:Nat))::env) H K):TO q P n all (⟨some d,.binOp .quo t x y t',ty,pos,aft,none⟩::rest) env H K:=
 TO.bquo (a:=(a:Int)) (b:=2) hd hx hy (by omega) (by
  rw[show((a:Int).tdiv 2)=((a / 2:Nat):Int) from(Int.ofNat_tdiv a 2).symm,zfb (by omega) (by omega)]
  exact k)
theorem TO.rem2{t t':TypeId}{x y:Operand}{a:Nat}(hd:Nat.ble (d+1) n=true)(hx:env.val x=some (.i a))(hy:env.val y=some (.t (.v (.int .i64 2))))
  (k:TO q P n all rest ((d,.i (a % 2:Nat))::env) H K):TO q P n all (⟨some d,.binOp .rem t x y t',ty,pos,aft,none⟩::rest) env H K:=
 TO.brem (a:=(a:Int)) (b:=2) hd hx hy (by omega) (by rw[show((a:Int).tmod 2)=((a % 2:Nat):Int) from(Int.ofNat_tmod a 2).symm];exact k)
theorem TO.zcm(hT:zaF P tab){t e:TypeId}{i ie:TyI}{sz:Nat}{c0:Array Value}{cs:List T}(hd:Nat.ble (d+1) n=true)(ht:tab.get t=some i)(hk:i.k= .slice e)(he:tab.get e=some ie)(hs:ie.size=sz)
  (hv:∀(A:Foot) (w:World),TRel A w (.ag cs) (.agg c0))(hl:cs.length=sz)(hsm:Nat.ble sz 16777216=true)(hpos:Nat.ble 1 sz=true)
  (k:TO false P n all rest ((d,.t (.sl sz [.ag cs]))::env) H K):TO false P n all (⟨some d,.buildSlice t 1 #[(0,.const (.agg c0))],ty,pos,aft,none⟩::rest) env H K:=
 TO.eff hd (fun m ac h1 h2 h3=>by
  subst h1
  have hp':=qag hpos
  have hsm':=qag hsm
  obtain⟨z,hz1,hz2,_,_⟩:=(hT e ie he).zero
  have hzl:z.cells.size=sz:=by
   exact zwel
  have hr:=hv m.A m.w
  obtain⟨y,hy⟩:∃y,y=Value.agg c0:=⟨_,rfl⟩
  rw[<-hy]at hr
  cases hr with
  | ag _ ca c1 c2 c3=>
  have hcc:=Value.agg.inj hy
  subst hcc
  have hq:ac.eval (.const (.agg ca))= .agg ca:=rfl
  obtain⟨arr,a1,a2,_,a4⟩:=zfC (sz:=sz) (fun i=>some (i*sz,sz)) (fun _=>rfl) [(0,Value.agg ca)] 0 ((Array.range (1*sz)).map (fun j=>z.cells[j % z.cells.size]!)) (fun i p hpi=>by
   cases i with
   | zero=>simp at hpi;subst hpi;exact⟨rfl,by show ca.size=sz;omega⟩
   | succ i=>simp at hpi) (by simp)
  have a2':arr.size=sz:=by rw[a2];simp
  have hget:∀j,j<sz->arr[j]?=ca[j]? :=fun j hj=>by
   have:=a4 0 _ rfl j hj
   show arr[j]?=(Value.agg ca).cells[j]?
   simpa using this
  have hcell:∀o,(m.w.alloc (.cells arr e)).cell? ⟨m.w.heap.size,o,none⟩=arr[o]? :=fun o=>World.cell?_alloc_new ..
  obtain⟨s,hm'⟩:=grow h2 (A':=fun b o=>m.A b o\/(b=m.w.heap.size/\o<arr.size)) (βn:=[]) (Hn:=[]) (w':=m.w.alloc (.cells arr e)) rfl rfl rfl (by simp) (fun b hb=>RowKit.Below.heap_alloc _ _ _ hb) (fun _ _ h=>.inl h) (fun b o h=>by
   rcases h with h|h
   ·exact .inl h
   ·exact .inr ⟨by omega,by simp;omega⟩) rfl (by simp) (by simp) (by simp) (by simp)
  have s':Step m ⟨fun b o=>m.A b o\/(b=m.w.heap.size/\o<arr.size),m.β,m.H,m.w.alloc (.cells arr e)⟩:=by simpa using s
  refine⟨.slice (some ⟨m.w.heap.size,0,none⟩) 1 1,⟨fun b o=>m.A b o\/(b=m.w.heap.size/\o<arr.size),m.β,m.H,m.w.alloc (.cells arr e)⟩,?_,s',by simpa using hm',rfl,?_⟩
  ·have hrun:(Instr.buildSlice t 1 #[(0,ac.eval (.const (.agg ca)))]).run P m.w= .ok (.slice (some ⟨m.w.heap.size,0,none⟩) 1 1) (m.w.alloc (.cells arr e)):=by
    have hbig:¬1*sz > 2 ^ 24:=by omega
    have h0:¬1*sz=0:=by omega
    unfold Instr.buildSlice
    simp only[Sem.run_bind,underlying,run_program,Result.andThen_ok,(hT t i ht).slice hk,Sem.run_pure,(hT e ie he).sizeOf,hs,if_neg hbig,if_neg h0,hz1]
    rw[hq,a1]
    simp[newRow]
   have hmap:(#[(0,.const (.agg ca))]:Array (Nat×Operand)).map (fun(i,x)=>(i,ac.eval x))= #[(0,ac.eval (.const (.agg ca)))]:=by simp
   simp only[execOp,Sem.run_bind,hmap,hrun];rfl
  ·refine .t _ _ (.sl sz [.ag cs] m.w.heap.size 0 1 (fun q=>(arr[q]?).getD undef) (qae _) (fun i t ht=>?_) (fun i j hi hj=>?_) (fun i j hi hj=>?_) (fun i j hi hj=>?_) (fun i t j c ht hc=>?_))
   ·cases i with
    | zero=>simp at ht;subst ht;exact hl
    | succ i=>simp at ht
   ·have hi0:i=0:=by simp at hi;exact hi
    subst hi0
    exact .inr ⟨rfl,by omega⟩
   ·have hi0:i=0:=by simp at hi;exact hi
    subst hi0
    show(m.w.alloc (.cells arr e)).cell? ⟨m.w.heap.size,0+(0*sz+j),none⟩=some ((arr[0*sz+j]?).getD undef)
    rw[hcell,show 0+(0*sz+j)=j by omega,show 0*sz+j=j by omega,qak (by omega)];rfl
   ·have hi0:i=0:=by simp at hi;exact hi
    subst hi0
    show((arr[0*sz+j]?).getD undef).oneCell'=true
    rw[show 0*sz+j=j by omega,hget j hj,qak (by omega)]
    exact c2 j _ (qak (by omega))
   ·cases i with
    | succ i=>simp at ht
    | zero=>
      simp at ht;subst ht
      have hj:=(qaa.1 hc).1
      have hj':j<sz:=by rw[<-hl];exact hj
      show TRel _ _ c ((arr[0*sz+j]?).getD undef)
      rw[show 0*sz+j=j by omega,hget j hj',qak (by omega)]
      exact s'.trel h2 (c3 j c _ hc (qak (by omega)))) k
theorem LeB.fn1{H:Heap}(f:FuncId){c e:SV}(h:LeB H c e):LeB H (.fn f [c]) (.fn f [e]):=LeB.fn f rfl fun i x y hx hy=>by
 cases i with
 | zero=>simp at hx hy;subst hx hy;exact h
 | succ i=>simp at hx
end rules
end Go.TL
