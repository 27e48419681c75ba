import Derived.RegionTactic
import Derived.Test.YtpfnfpaahefdaaaGreatPk30
set_option linter.all false
namespace Go.Proofs.YtpfnfpaahefdaaaGreat
open Go Go.TL
attribute [local irreducible] TR TO Then zac RetK Sound zaf Kf GG zaY
section
variable {H:Type}
set_option maxRecDepth 20000 in
theorem zm1 {ds:List (DataW H)} {ys:List T} {ts:List TypeId} (h:Fits Tryz.prog (9::ts) ds ys):∃(l:Str) (ds':List (DataW H)) (ys':List T),l.length≤maxLen/\ds= .lit (.string l)::ds'/\ys= .v (str l)::ys'/\Fits Tryz.prog ts ds' ys':=by
 cases ds with
 | nil=>cases ys <;> exact h.elim
 | cons d ds=>
   cases ys with
   | nil=>exact h.elim
   | cons y ys=>
     obtain⟨⟨h1,n,h2⟩,h3⟩:=h
     cases n with
     | zero=>exact h2.elim
     | succ n=>
       simp only[TyD,Tryz.underlying9]at h2
       obtain⟨l,rfl,hy,hl⟩:=h2
       refine⟨l,ds,ys,hl,rfl,?_,h3⟩
       rw[h1,hy]
       rfl
theorem zm0{ds:List (DataW H)}{ys:List T}(h:Fits Tryz.prog [] ds ys):ds=[]/\ys=[]:=by
 cases ds <;> cases ys <;> first|exact⟨rfl,rfl⟩|exact h.elim
end
end Go.Proofs.YtpfnfpaahefdaaaGreat
namespace Go.Proofs.YtpfnfpaahefdaaaGreat
open Go Go.TL
theorem zdl{p:Int->Bool}:∀ {w R:Str},(∀c∈w,p c.toNat=true)->(∀c r,R=c::r->p c.toNat=false)->zaq p (w++R)=w
 | [],R,_,hR=>by
   cases R with
   | nil=>rfl
   | cons c r=>simp[zaq,hR c r rfl]
 | c::w,R,hw,hR=>by
   rw[qba,zaq,if_pos (hw c qaA),zdl (fun x hx=>hw x (qax _ hx)) hR]
def zmJ(k:Int)(x:Str):Prop:=
 (∃c w,x=c::w/\letter c.toNat=true/\(∀d∈x,inner d.toNat=true)/\zcV x=(k,x,0))\/
 (∃c w,x=c::w/\(∀d∈x,digit d.toNat=true)/\zcO x=(k,x,0))\/
 (k=5/\∀d∈x,zav d.toNat=true)\/(k=4/\x∈zcX)
theorem zjs(l:Str):∀(all:List Str) (b:Str),all.foldl (zec l) b=b\/(all.foldl (zec l) b∈all/\zbh l (all.foldl (zec l) b)=true)
 | [],b=>.inl rfl
 | x::all,b=>by
   rw[qbF]
   rcases zjs l all (zec l b x)with h|h
   ·rw[h]
    unfold zec
    split
    ·rename_i hx
     simp only[qat]at hx
     exact .inr ⟨qaA,hx.2⟩
    ·exact .inl rfl
   ·exact .inr ⟨qax _ h.1,h.2⟩
theorem ziP{l x:Str}(h:zbh l x=true):l.take x.length=x:=by
 simp only[zbh,qat,beq_iff_eq]at h
 exact h.2
theorem znX{w:Str}{k:Int}{x:Str}(h:zcO w=(k,x,0)):k=2/\x=w:=by
 have key:∀(a b:Bool),(if a=true then((0:Int),([]:Str),(5:Int)) else if b=true then(0,[],14) else(2,w,0))=(k,x,0)->k=2/\x=w:=by
  intro a b h
  cases a <;> cases b <;> simp at h
  exact⟨h.1.symm,h.2.symm⟩
 exact key _ _ h
theorem ziW{w:Str}{k:Int}{x:Str}(h:zcV w=(k,x,0)):(k=3\/k=1)/\x=w:=by
 unfold zcV at h
 split at h
 ·simp at h
 ·split at h <;> simp at h
  ·exact⟨.inl h.1.symm,h.2.symm⟩
  ·exact⟨.inr h.1.symm,h.2.symm⟩
theorem znz{r:Str}{k:Int}{x:Str}{n:Nat}(hr:r≠ [])(h:zah r=((k,x,0),n))(p:Int):zmJ k x/\r.take n=zaK (k,x,p)/\n=(zaK (k,x,p)).length:=by
 match r,hr with
 | c::r,_=>
   unfold zah at h
   simp only at h
   split at h
   ·rename_i hc
    simp only[qbn]at h
    obtain⟨h1,h2⟩:=h
    obtain⟨hk,hx⟩:=ziW h1
    have ht:=zdk inner (c::r)
    have ha:=zfh inner (c::r)
    have hs:zaq inner (c::r)=c::zaq inner r:=by rw[zaq,if_pos (zeU hc).2.2]
    have htx:zaK (k,x,p)=x:=by
     unfold zaK
     rw[if_neg]
     rcases hk with rfl|rfl <;> simp
    rw[htx,hx,<-h2]
    rw[hx]at h1
    exact⟨.inl ⟨c,zaq inner r,hs,hc,ha,h1⟩,ht.symm,rfl⟩
   ·split at h
    ·rename_i hd
     simp only[qbn]at h
     obtain⟨h1,h2⟩:=h
     obtain⟨rfl,hx⟩:=znX h1
     have ht:=zdk digit (c::r)
     have ha:=zfh digit (c::r)
     have hs:zaq digit (c::r)=c::zaq digit r:=by rw[zaq,if_pos hd]
     have htx:zaK (2,x,p)=x:=by simp[zaK]
     rw[htx,hx,<-h2]
     rw[hx]at h1
     exact⟨.inr (.inl ⟨c,zaq digit r,hs,ha,h1⟩),ht.symm,rfl⟩
    ·split at h
     ·rename_i hq
      simp only[qbn]at h
      obtain⟨h1,h2⟩:=h
      unfold zcF at h1
      split at h1
      ·rename_i hh
       simp only[qbn]at h1
       obtain⟨rfl,hx,_⟩:=h1
       have hc:c=39:=by
        have:(c.toNat:Int)=39:=by simpa using hq
        apply UInt8.toNat_inj.1
        show c.toNat=39
        omega
       unfold zcE at h2
       rw[if_pos hh]at h2
       have htx:zaK (5,x,p)=39::x++[39]:=by simp[zaK]
       rw[htx,<-hx,<-h2]
       refine⟨.inr (.inr (.inl ⟨rfl,zfh zav r⟩)),?_,by simp⟩
       have ht:=zdk zav r
       have hb:behind zav r=39::(behind zav r).drop 1:=by
        cases hbb:behind zav r with
        | nil=>rw[hbb]at hh;cases hh
        | cons b q=>
          rw[hbb]at hh
          have:(b.toNat:Int)=39:=by simpa [zdT]using hh
          have:b=39:=by
           apply UInt8.toNat_inj.1
           show b.toNat=39
           omega
          rw[this];rfl
       have hrr:r=zaq zav r++behind zav r:=by
        conv=>lhs;rw[<-qbe (zaq zav r).length r]
        rw[<-ht];rfl
       rw[hc]
       generalize zaq zav r=a at*
       rw[hrr,hb]
       simp[List.take_append]
       exact qaE (by omega)
      ·simp at h1
     ·simp only[qbn]at h
      obtain⟨h1,h2⟩:=h
      unfold zeX at h1
      split at h1
      ·simp at h1
      ·rename_i hb
       simp only[qbn]at h1
       obtain⟨rfl,hx,_⟩:=h1
       have htx:zaK (4,x,p)=x:=by simp[zaK]
       rw[htx]
       subst hx
       rcases zjs (c::r) zcX []with hbm|hbm
       ·exfalso
        have:best (c::r) zcX=[]:=hbm
        rw[this]at hb
        exact hb rfl
       ·have hpre:zbh (c::r) (best (c::r) zcX)=true:=hbm.2
        have hmem:best (c::r) zcX∈zcX:=hbm.1
        refine⟨.inr (.inr (.inr ⟨rfl,hmem⟩)),?_,h2.symm⟩
        rw[<-h2]
        exact ziP hpre
def Sep(R:Str):Prop:=R=[]\/∃R',R=32::R'
theorem Sep.no{R:Str}(h:Sep R){p:Int->Bool}(hp:p 32=false):∀c r,R=c::r->p c.toNat=false:=by
 intro c r e
 rcases h with h|⟨R',h⟩
 ·rw[h]at e;cases e
 ·rw[h]at e;cases e;exact hp
set_option maxRecDepth 100000 in
theorem zml {x R:Str} (hx:x∈zcX) (hR:Sep R):∃c r,x++R=c::r/\letter c.toNat=false/\digit c.toNat=false/\((c.toNat:Int) == 39)=false/\blank c.toNat=false/\zbh (x++R) [45,45]=false/\best (x++R) zcX=x/\x≠ []:=by
 rcases hR with rfl|⟨R',rfl⟩ <;> simp only[zcX,qbb,List.not_mem_nil,or_false]at hx <;>
  rcases hx with rfl|rfl|rfl|rfl|rfl|rfl|rfl|rfl|rfl|rfl|rfl|rfl|rfl|rfl|rfl|rfl|rfl <;>
  refine⟨_,_,rfl,by decide,by decide,by decide,by decide,?_,?_,by decide⟩ <;>
  first
   | decide
   | (simp[zbh];done)
   | (simp only[best,zcX,List.foldl,zec,qba,qbk,zor,zlJ,qai,qac];simp)
theorem ziI{c:UInt8}(h:digit c.toNat=true):letter c.toNat=false/\blank c.toNat=false/\c≠45/\c≠39:=by
 refine⟨?_,?_,?_,?_⟩
 ·cases hb:letter c.toNat with
  | false=>rfl
  | true=>exfalso;simp[letter,digit]at h hb;omega
 ·cases hb:blank c.toNat with
  | false=>rfl
  | true=>exfalso;simp[blank,digit]at h hb;omega
 ·rintro rfl;revert h;decide
 ·rintro rfl;revert h;decide
theorem zhf{c:UInt8}{r:Str}(h:blank c.toNat=false)(h2:c≠45):skipped (c::r)=c::r:=by
 refine zeu h ?_
 cases r with
 | nil=>exact zm5 _ _ _
 | cons d r=>rw[zlJ];simp[h2]
theorem zje{k:Int}{x:Str}(h:zmJ k x){R:Str}(hR:Sep R)(p:Int):zah (zaK (k,x,p)++R)=((k,x,0),(zaK (k,x,p)).length)/\skipped (zaK (k,x,p)++R)=zaK (k,x,p)++R/\zaK (k,x,p)≠ []:=by
 rcases h with ⟨c,w,hx,hc,ha,hn⟩|⟨c,w,hx,ha,hn⟩|⟨rfl,ha⟩|⟨rfl,hm⟩
 ·obtain⟨hk,_⟩:=ziW hn
  have htx:zaK (k,x,p)=x:=by
   unfold zaK
   rw[if_neg]
   rcases hk with rfl|rfl <;> simp
  rw[htx]
  have hs:zaq inner (x++R)=x:=zdl ha (hR.no (by decide))
  refine⟨?_,?_,by rw[hx];simp⟩
  ·have:x++R=c::(w++R):=by rw[hx];rfl
   rw[this]at hs⊢
   unfold zah
   simp only
   rw[if_pos hc,hs,hn]
  ·rw[hx]
   obtain⟨g1,g2,_⟩:=zeU hc
   exact zhf g1 g2
 ·obtain⟨rfl,_⟩:=znX hn
  have htx:zaK (2,x,p)=x:=by simp[zaK]
  rw[htx]
  have hs:zaq digit (x++R)=x:=zdl ha (hR.no (by decide))
  have hd:digit c.toNat=true:=ha c (by rw[hx];exact qaA)
  obtain⟨g1,g2,g3,g4⟩:=ziI hd
  refine⟨?_,?_,by rw[hx];simp⟩
  ·have:x++R=c::(w++R):=by rw[hx];rfl
   rw[this]at hs⊢
   unfold zah
   simp only
   rw[if_neg (by rw[g1];simp),if_pos hd,hs,hn]
  ·rw[hx]
   exact zhf g2 g3
 ·have htx:zaK (5,x,p)=39::x++[39]:=by simp[zaK]
  rw[htx]
  have hs:zaq zav (x++39::R)=x:=zdl ha (fun c r e=>by cases e;decide)
  have hb:behind zav (x++39::R)=39::R:=by rw[behind,hs,qb1]
  refine⟨?_,?_,by simp⟩
  ·have:(39::x++[39]++R:Str)=39::(x++39::R):=by simp
   rw[this]
   unfold zah
   simp only
   rw[if_neg (by decide),if_neg (by decide),if_pos (by decide),hs,hb]
   simp[zcF,zcE,zdT]
  ·exact zhf (c:=39) (r:=x++[39]++R) (by decide) (by decide)
 ·have htx:zaK (4,x,p)=x:=by simp[zaK]
  rw[htx]
  obtain⟨c,r,he,g1,g2,g3,g4,g5,g6,g7⟩:=zml hm hR
  refine⟨?_,?_,g7⟩
  ·rw[he]at g6⊢
   unfold zah
   simp only
   rw[if_neg (by rw[g1];simp),if_neg (by rw[g2];simp),if_neg (by rw[g3];simp),g6]
   unfold zeX
   rw[if_neg]
   intro h0
   exact g7 (by simpa using h0)
  ·rw[he]at g5⊢
   exact zeu g4 g5
def lexF:Nat->Str->List (Int×Str×Nat)×Nat×Int
 | 0,_=>([],0,0)
 | n+1,l=>
   if skipped l=[] then([],0,0)
   else if(zah (skipped l)).1.2.2≠0 then([],(skipped l).length,(zah (skipped l)).1.2.2)
   else if(lexF n ((skipped l).drop (zah (skipped l)).2)).2.2=0 then(((zah (skipped l)).1.1,(zah (skipped l)).1.2.1,(skipped l).length)::(lexF n ((skipped l).drop (zah (skipped l)).2)).1,0,0)
   else lexF n ((skipped l).drop (zah (skipped l)).2)
theorem zdU(l:Str):∃k,k≤l.length/\skipped l=l.drop k:=by
 induction hn:l.length using Nat.strongRecOn generalizing l with
 | _ n ih=>
   subst hn
   rw[zc9]
   have h1:=zb3 blank l
   split
   ·rename_i h
    obtain⟨r,hr⟩:=zcz h
    have h2:=@zeb r
    have h3:=zdL blank l
    have h4:=zb3 (fun c=>c != 10) (behind blank l)
    rw[<-hr]at h2
    obtain⟨k,hk,he⟩:=ih _ (by omega) (behind (fun c=>c != 10) (behind blank l)) rfl
    refine⟨(zaq blank l).length+((zaq (fun c=>c != 10) (behind blank l)).length+k),?_,?_⟩
    ·simp only[behind,qaM]at hk h4⊢
     omega
    ·rw[he]
     simp only[behind,qb0,qaX]
   ·exact⟨_,h1,rfl⟩
theorem zlv{s:Str}{i:Nat}(hi:i≤s.length):s.drop (zao s i)=skipped (s.drop i):=by
 obtain⟨k,hk,he⟩:=zdU (s.drop i)
 unfold zao
 rw[he,qb0,qaM]
 simp only[qaM]at hk
 congr 1
 omega
theorem zh1(n:Nat)(l:Str):lexF (n+1) l=
  (if skipped l=[] then([],0,0)
  else if(zah (skipped l)).1.2.2≠0 then([],(skipped l).length,(zah (skipped l)).1.2.2)
  else if(lexF n ((skipped l).drop (zah (skipped l)).2)).2.2=0 then(((zah (skipped l)).1.1,(zah (skipped l)).1.2.1,(skipped l).length)::(lexF n ((skipped l).drop (zah (skipped l)).2)).1,0,0)
  else lexF n ((skipped l).drop (zah (skipped l)).2)):=rfl
def placed(s:Str)(q:List (Int×Str×Nat)×Nat×Int):List Tok×Int×Int:=
 (q.1.map fun a=>(a.1,a.2.1,((s.length-a.2.2:Nat):Int)),if q.2.2=0 then 0 else((s.length-q.2.1:Nat):Int),q.2.2)
theorem zmr(s:Str):∀(n i:Nat),i≤s.length->s.length-i<n->toks s i=placed s (lexF n (s.drop i)):=by
 intro n
 induction n with
 | zero=>intro i hi hn;omega
 | succ n ih=>
   intro i hi hn
   have hd:=zlv hi
   obtain⟨g1,g2⟩:=zh6 hi
   have hlen:(skipped (s.drop i)).length=s.length-zao s i:=by rw[<-hd,qaM]
   rw[zh1]
   by_cases h1:zao s i=s.length
   ·rw[znA h1,if_pos (qaD (by omega))]
    simp[placed]
   ·rw[if_neg (fun e=>by rw[e]at hlen;simp at hlen;omega),<-hd]
    cases h2:((zah (s.drop (zao s i))).1.2.2 != 0) with
    | true=>
      have h3:(zah (s.drop (zao s i))).1.2.2≠0:=by simpa using h2
      rw[znB h1 h2,if_pos h3]
      simp only[placed,qas,if_neg h3,qaM]
      rw[show s.length-(s.length-zao s i)=zao s i from by omega]
    | false=>
      have h3:¬(zah (s.drop (zao s i))).1.2.2≠0:=by simpa using h2
      obtain⟨r1,r2⟩:=zdD hi h1 h2
      have:=ih (zao s i+(zah (s.drop (zao s i))).2) r2 (by omega)
      rw[zmq hi h1 h2,if_neg h3,this,qb0]
      generalize lexF n (s.drop (zao s i+(zah (s.drop (zao s i))).2))=q
      by_cases h4:q.2.2=0
      ·rw[if_pos h4,if_pos (show(placed s q).2.2=0 from h4)]
       simp only[placed,qag,if_pos h4,qaM,if_true]
       rw[show s.length-(s.length-zao s i)=zao s i from by omega]
      ·rw[if_neg h4,if_neg (show ¬(placed s q).2.2=0 from h4)]
theorem zfV{s:Str}(h:s.length≤65536):scan s=placed s (lexF (s.length+1) s):=by
 rw[zmc h,zmr s (s.length+1) 0 (qaT _) (by omega)]
 rfl
theorem zlL:∀(n:Nat) (l:Str),(∀a∈(lexF n l).1,zmJ a.1 a.2.1/\a.2.2≤l.length)/\((lexF n l).1.map fun a=>(zaK (a.1,a.2.1,0)).length).sum≤l.length/\(lexF n l).1.length≤((lexF n l).1.map fun a=>(zaK (a.1,a.2.1,0)).length).sum/\
  ((lexF n l).2.2≠0->(lexF n l).1=[]/\0<(lexF n l).2.1/\(lexF n l).2.1≤l.length):=by
 intro n
 induction n with
 | zero=>intro l;simp[lexF]
 | succ n ih=>
   intro l
   rw[zh1]
   obtain⟨k,hk,he⟩:=zdU l
   have hsl:(skipped l).length≤l.length:=by rw[he,qaM];omega
   by_cases h1:skipped l=[]
   ·rw[if_pos h1];simp
   ·rw[if_neg h1]
    by_cases h2:(zah (skipped l)).1.2.2≠0
    ·rw[if_pos h2]
     refine⟨by simp,by simp,by simp,fun _=>⟨rfl,qbA.2 h1,hsl⟩⟩
    ·rw[if_neg h2]
     have h2':(zah (skipped l)).1.2.2=0:=by simpa using h2
     obtain⟨t1,t2,t3⟩:=znz (k:=(zah (skipped l)).1.1) (x:=(zah (skipped l)).1.2.1) (n:=(zah (skipped l)).2) h1 (by rw[<-h2']) 0
     obtain⟨_,_,tne⟩:=zje t1 (.inl rfl) 0
     have hpos:=qbA.2 tne
     have htl:(zah (skipped l)).2≤(skipped l).length:=by
      have:=congrArg List.length t2
      rw[qa2,<-t3]at this
      omega
     obtain⟨i1,i2,i3,i4⟩:=ih ((skipped l).drop (zah (skipped l)).2)
     rw[qaM]at i2 i4
     generalize lexF n ((skipped l).drop (zah (skipped l)).2)=q at i1 i2 i3 i4
     by_cases h4:q.2.2=0
     ·rw[if_pos h4]
      refine⟨fun a ha=>?_,?_,?_,fun h=>absurd rfl h⟩
      ·rcases qbb.1 ha with rfl|ha
       ·exact⟨t1,hsl⟩
       ·obtain⟨j1,j2⟩:=i1 a ha
        rw[qaM]at j2
        exact⟨j1,by omega⟩
      ·simp only[qag,qaz]
       omega
      ·simp only[qag,qaz,qac]
       omega
     ·rw[if_neg h4]
      obtain⟨j1,j2,j3⟩:=i4 h4
      refine⟨by rw[j1];simp,by rw[j1];simp,by rw[j1];simp,fun _=>⟨j1,j2,by omega⟩⟩
end Go.Proofs.YtpfnfpaahefdaaaGreat
namespace Go.Proofs.YtpfnfpaahefdaaaGreat
open Go Go.TL
attribute [local irreducible] TR TO Then zac RetK Sound zaf Kf GG zaY
theorem zcf(k o t v:Int)(s:Str)(l:List Ex):wEx (mkE k o t v s l)=1+(l.map wEx).sum:=by rw[zdF];rfl
section
variable {R:Rd}
theorem zad{α β:Type}{r:PR α}{f:α->Nat->PR β}{x:β}{j:Nat}(h:r.bind f= .ok x j):∃v k,r= .ok v k/\f v k= .ok x j:=by
 cases r with
 | ok v k=>exact⟨v,k,rfl,h⟩
 | er k c=>cases h
theorem zaz{α:Type}{c:Prop}[Decidable c]{a b r:PR α}(h:(if c then a else b)=r):(c/\a=r)\/(¬c/\b=r):=by
 split at h
 ·rename_i hc;exact .inl ⟨hc,h⟩
 ·rename_i hc;exact .inr ⟨hc,h⟩
theorem zeC{i j:Nat}{s:Str}(h:R.id i= .ok s j):j=i+1/\s=R.txt i:=by
 unfold Rd.id at h
 rcases zaz h with ⟨_,h⟩|⟨_,h⟩
 ·cases h;exact⟨rfl,rfl⟩
 ·cases h
theorem zk4{i j:Nat}{tv:Nat×Nat}(h:R.aTag i= .ok tv j):j=i+1:=by
 unfold Rd.aTag at h
 rcases zaz h with ⟨_,h⟩|⟨_,h⟩
 ·cases h;rfl
 rcases zaz h with ⟨_,h⟩|⟨_,h⟩
 ·cases h;rfl
 obtain⟨s,k,h1,h2⟩:=zad h
 obtain⟨rfl,_⟩:=zeC h1
 split at h2
 ·cases h2;rfl
 ·cases h2
theorem zd7{i j:Nat}{o:OnC}(h:R.sampling i= .ok o j):j=i+4/\∃k,o.name=R.txt k:=by
 unfold Rd.sampling at h
 obtain⟨tv,k,h1,h⟩:=zad h
 obtain⟨_,k2,h2,h⟩:=zad h
 obtain⟨s,k3,h3,h⟩:=zad h
 obtain⟨_,k4,h4,h⟩:=zad h
 have e1:=zk4 h1
 have e2:=zba h2
 have e3:=zeC h3
 have e4:=zba h4
 cases h
 exact⟨by omega,_,e3.2⟩
theorem zpr{f:Nat->PR Ex}(hf:∀ {i e j},f i= .ok e j->i+wEx e≤j)(n:Nat):∀(m:Nat) {a:Ex} {i:Nat} {e:Ex} {j c:Nat},R.ops f n m a i= .ok e j->c+wEx a≤i->c+wEx e≤j
 | 0,a,i,e,j,c,h,hc=>by cases h;exact hc
 | m+1,a,i,e,j,c,h,hc=>by
   unfold Rd.ops at h
   split at h
   ·cases h;exact hc
   ·rename_i op ho
    obtain⟨b,k,h1,h⟩:=zad h
    have h1:=hf h1
    have h3:c+wEx (mkE 3 op 0 0 [] [a,b])≤k:=by rw[zcf];simp only[qag,qas,qaz,qaN];omega
    rcases zaz h with ⟨_,h⟩|⟨_,h⟩
    ·cases h;exact h3
    ·exact zpr hf n m h h3
theorem zmC:∀(m:Nat) {a:Ex} {i:Nat} {e:Ex} {j c:Nat},R.whens m a i= .ok e j->c+wEx a≤i->c+wEx e≤j
 | 0,a,i,e,j,c,h,hc=>by cases h;exact hc
 | m+1,a,i,e,j,c,h,hc=>by
   unfold Rd.whens at h
   rcases zaz h with ⟨_,h⟩|⟨_,h⟩
   ·obtain⟨o,k,h1,h⟩:=zad h
    have h1:=(zd7 h1).1
    refine zmC m h ?_
    rw[zdF];simp only[Ex.args,qag,qas,qaz,qaN];omega
   ·cases h;exact hc
theorem znN{f:Nat->PR Ex}(hf:∀ {i e j},f i= .ok e j->i+wEx e≤j):∀(m:Nat) {l:List Ex} {i:Nat} {l':List Ex} {j c:Nat},R.args f m l i= .ok l' j->c+(l.map wEx).sum≤i->c+(l'.map wEx).sum≤j
 | 0,l,i,e,j,c,h,hc=>by cases h;exact hc
 | m+1,l,i,e,j,c,h,hc=>by
   unfold Rd.args at h
   rcases zaz h with ⟨_,h⟩|⟨_,h⟩
   ·obtain⟨b,k,h1,h⟩:=zad h
    have h1:=hf h1
    refine znN hf m h ?_
    rw[qav,qbH];simp only[qag,qas,qaz,qaN];omega
   ·cases h;exact hc
theorem zpa{f g:Nat->PR Ex}(hf:∀ {i e j},f i= .ok e j->i+wEx e≤j)(hg:∀ {i e j},g i= .ok e j->i+wEx e≤j){s:Str}{i:Nat}{e:Ex}{j:Nat}(h:R.call f g s i= .ok e j):i+wEx e≤j:=by
 unfold Rd.call at h
 obtain⟨l,k,h1,h⟩:=zad h
 have hl:i+1+(l.map wEx).sum≤k:=by
  rcases zaz h1 with ⟨_,h1⟩|⟨_,h1⟩
  ·cases h1;simp
  ·obtain⟨a,k2,h2,h1⟩:=zad h1
   obtain⟨l2,k3,h3,h1⟩:=zad h1
   obtain⟨_,k4,h4,h1⟩:=zad h1
   have h2:=hf h2
   have h3:=znN hf _ h3 (c:=i) (by simpa using h2)
   have h4:=zba h4
   cases h1
   omega
 rcases zaz h with ⟨_,h⟩|⟨_,h⟩
 ·obtain⟨a,k2,h2,h⟩:=zad h
  have h2:=hg h2
  cases h
  rw[zcf,qav,qbH];simp only[qag,qas,qaz,qaN];omega
 ·cases h
  rw[zcf];omega
theorem zjw{f:Nat->PR Ex}(hf:∀ {i e j},f i= .ok e j->i+wEx e≤j){t v:Nat}{b:Bool}{i:Nat}{te:Nat×Ex}{j:Nat}(h:R.branch f t v b i= .ok te j):i+4+wEx te.2≤j:=by
 exact zwo
theorem zmk{l:List Ex}{k:Nat}{e:Ex}:((l.set k e).map wEx).sum≤(l.map wEx).sum+wEx e:=by
 exact zwy
theorem zgp{f:Nat->PR Ex}(hf:∀ {i e j},f i= .ok e j->i+wEx e≤j){t size:Nat}:∀(m:Nat) {k:Nat} {l:List Ex} {i:Nat} {l':List Ex} {j:Nat},R.branches f t size m k l i= .ok l' j->size≤k+m->i+4*(size-k)+(l'.map wEx).sum≤j+(l.map wEx).sum
 | 0,k,l,i,l',j,h,hm=>by cases h;omega
 | m+1,k,l,i,l',j,h,hm=>by
   unfold Rd.branches at h
   rcases zaz h with ⟨hs,h⟩|⟨hs,h⟩
   ·cases h;omega
   ·obtain⟨te,k2,h1,h⟩:=zad h
    have h1:=zjw hf h1
    have h2:=zgp hf m h (by omega)
    have h3:=zmk (l:=l) (k:=if t=1 then 1-k else k) (e:=te.2)
    omega
theorem zoD{f:Nat->PR Ex}(hf:∀ {i e j},f i= .ok e j->i+wEx e≤j){i:Nat}{e:Ex}{j:Nat}(h:R.merge f i= .ok e j):i+wEx e≤j:=by
 unfold Rd.merge at h
 obtain⟨s,k1,h1,h⟩:=zad h
 obtain⟨te,k2,h2,h⟩:=zad h
 obtain⟨l,k3,h3,h⟩:=zad h
 have e1:=(zeC h1).1
 have e2:=zjw hf h2
 have e3:=zgp hf _ h3 (by omega)
 have e4:=zmk (l:=List.replicate (R.size te.1) noE) (k:=if R.isAt (k1+1) [116,114,117,101]=true then 1 else 0) (e:=te.2)
 have e5:((List.replicate (R.size te.1) noE).map wEx).sum=R.size te.1:=by
  rw[qbW,show wEx noE=1 from by rw[zdF];rfl]
  simp
 have e6:(l.map wEx).sum=(l.map wEx).sum:=rfl
 cases h
 rw[zcf]
 omega
theorem zou{f g:Nat->PR Ex}(hf:∀ {i e j},f i= .ok e j->i+wEx e≤j)(hg:∀ {i e j},g i= .ok e j->i+wEx e≤j){i:Nat}{e:Ex}{j:Nat}(h:R.ident f g i= .ok e j):i+wEx e≤j:=by
 unfold Rd.ident at h
 obtain⟨s,k1,h1,h⟩:=zad h
 have e1:=(zeC h1).1
 rcases zaz h with ⟨_,h⟩|⟨_,h⟩
 ·have:=zpa hf hg h;omega
 ·split at h
  all_goals
   cases h
   rw[zcf];simp;omega
theorem zpt{f g:Nat->PR Ex}(hf:∀ {i e j},f i= .ok e j->i+wEx e≤j)(hg:∀ {i e j},g i= .ok e j->i+wEx e≤j){i:Nat}{e:Ex}{j:Nat}(h:R.prim f g i= .ok e j):i+wEx e≤j:=by
 unfold Rd.prim at h
 rcases zaz h with ⟨_,h⟩|⟨_,h⟩
 ·cases h;rw[zcf];simp
 rcases zaz h with ⟨_,h⟩|⟨_,h⟩
 ·cases h
 rcases zaz h with ⟨_,h⟩|⟨_,h⟩
 ·rcases zaz h with ⟨_,h⟩|⟨_,h⟩
  ·cases h
  ·cases h;rw[zcf];simp
 rcases zaz h with ⟨_,h⟩|⟨_,h⟩
 ·cases h;rw[zcf];simp
 rcases zaz h with ⟨_,h⟩|⟨_,h⟩
 ·cases h;rw[zcf];simp
 rcases zaz h with ⟨_,h⟩|⟨_,h⟩
 ·cases h;rw[zcf];simp
 rcases zaz h with ⟨_,h⟩|⟨_,h⟩
 ·exact zwdb
 rcases zaz h with ⟨_,h⟩|⟨_,h⟩
 ·obtain⟨a,k1,h1,h⟩:=zad h
  obtain⟨_,k2,h2,h⟩:=zad h
  obtain⟨b,k3,h3,h⟩:=zad h
  obtain⟨_,k4,h4,h⟩:=zad h
  obtain⟨c,k5,h5,h⟩:=zad h
  have h1:=hf h1
  have h2:=zba h2
  have h3:=hf h3
  have h4:=zba h4
  have h5:=hf h5
  cases h
  rw[zcf];simp only[qag,qas,qaz,qaN];omega
 rcases zaz h with ⟨_,h⟩|⟨_,h⟩
 ·have:=zoD hf h;omega
 ·exact zou hf hg h
theorem pF_w:∀(m:Nat) (g:G) {i:Nat} {e:Ex} {j:Nat},pF R m g i= .ok e j->i+wEx e≤j
 | 0,g,i,e,j,h=>by cases h
 | m+1,.expr,i,e,j,h=>by
   unfold pF at h
   obtain⟨a,k,h1,h⟩:=zad h
   have h1:=pF_w m _ h1
   rcases zaz h with ⟨_,h⟩|⟨_,h⟩
   ·exact zwcm
   rcases zaz h with ⟨_,h⟩|⟨_,h⟩
   ·exact zwcm
   ·cases h;exact h1
 | m+1,.level n,i,e,j,h=>by
   unfold pF at h
   rcases zaz h with ⟨_,h⟩|⟨_,h⟩
   ·rcases zaz h with ⟨_,h⟩|⟨_,h⟩
    ·exact zwcm
    ·exact pF_w m _ h
   rcases zaz h with ⟨_,h⟩|⟨_,h⟩
   ·exact pF_w m _ h
   ·obtain⟨a,k,h1,h⟩:=zad h
    exact zpr (fun h=>pF_w m _ h) n _ h (pF_w m _ h1)
 | m+1,.unary,i,e,j,h=>by
   unfold pF at h
   rcases zaz h with ⟨_,h⟩|⟨_,h⟩
   ·exact zwcm
   rcases zaz h with ⟨_,h⟩|⟨_,h⟩
   ·exact zwcm
   ·obtain⟨a,k,h1,h⟩:=zad h
    exact zmC _ h (pF_w m _ h1)
 | m+1,.prim,i,e,j,h=>by
   unfold pF at h
   exact zpt (fun h=>pF_w m _ h) (fun h=>pF_w m _ h) h
end
theorem zgP(k:Int)(x:Str)(p:Int):x.length≤(zaK (k,x,p)).length:=by
 unfold zaK
 split
 ·simp only[qal,qac,qai];omega
 ·exact qae _
theorem zkH{w x:Str}(h:zcO w=(2,x,0)):w.length≤5:=by
 refine qbh fun hl=>?_
 have h5:decide (5<(w.length:Int))=true:=by simp only[decide_eq_true_eq];omega
 unfold zcO at h
 rw[h5,Bool.true_or,if_pos rfl]at h
 have h1:=congrArg Prod.fst h
 rw[apply_ite Prod.fst]at h1
 simp only[ite_self]at h1
 exact absurd h1 (by omega)
theorem zmp{x:Str}(h:zmJ 2 x):x.length≤5/\∀c∈x,48≤c.toNat/\c.toNat≤57:=by
 rcases h with ⟨c,w,h1,h2,h3,h4⟩|⟨c,w,h1,h2,h3⟩|⟨h1,_⟩|⟨h1,_⟩
 ·rcases(ziW h4).1 with h|h <;> exact absurd h (by decide)
 ·refine⟨zkH h3,fun d hd=>?_⟩
  have:=h2 d hd
  unfold digit at this
  simp only[qat,decide_eq_true_eq]at this
  omega
 ·exact absurd h1 (by decide)
 ·exact absurd h1 (by decide)
theorem zfW(s:Str):TkOk (scan s).1:=by
 refine⟨by have:=zkW s;omega,fun t ht=>?_,fun t ht h2=>?_⟩
 all_goals
  by_cases hs:65536<s.length
  ·rw[scan,if_pos hs]at ht;cases ht
  rw[zfV (by omega)]at ht
  obtain⟨a,ha,rfl⟩:=qa5.1 ht
  obtain⟨h3,h4,h5,h6⟩:=zlL (s.length+1) s
 ·have h7:(zaK (a.1,a.2.1,0)).length≤((lexF (s.length+1) s).1.map fun a=>(zaK (a.1,a.2.1,0)).length).sum:=by
   exact zws
  have h8:=zgP a.1 a.2.1 0
  show a.2.1.length≤_
  omega
 ·have:=(h3 a ha).1
  replace h2:a.1=2:=h2
  rw[h2]at this
  exact zmp this
end Go.Proofs.YtpfnfpaahefdaaaGreat
namespace Go.TL
open Go
section rules
variable {P:Program}{n:Nat}{env:Env}{H:Heap}{K:TK}{all:Array Oper}
theorem TO.forget{ops:List Oper}(id j:Nat){cs:List SV}{sz tid:Nat}{es:List T}{H':Heap}(hH:H[id]?=some (.cells cs))(hi:cs[j]?=some (.sl sz es tid))(hH':H.set id (.cells (cs.set j (.t (.sl sz es))))=H')
  (k:TO false P n all ops env H' K):TO false P n all ops env H K:=by
 intro φ m a h1 h2 h3 h4
 have hid:=(qaa.1 hH).1
 have hjl:=(qaa.1 hi).1
 have hH1:m.H[id]?=some (.cells cs):=by rw[h1];exact hH
 obtain⟨p,hp⟩:∃p,m.β[id]?=some p:=⟨_,qab (by rw[h2.len,h1];exact hid)⟩
 obtain⟨b1,b2,b3⟩:=h2.blk id p _ hp hH1
 obtain⟨s,hm⟩:=upd (m:=m) h2 (cs':=cs.set j (.t (.sl sz es))) (w':=m.w) hp hH1 rfl rfl rfl rfl (fun _ _=>rfl) (fun _ _=>rfl) (fun _=>rfl) (fun _=>rfl) (fun _ h=>h) (by simpa using b1) (by omega) (fun q c hc=>by
  by_cases hq:q=j
  ·exact zwbu
  ·rw[qau (by omega)]at hc
   exact b3 q c hc)
 refine TO.ze5 (m':=⟨m.A,m.β,m.H.set id (.cells (cs.set j (.t (.sl sz es)))),m.w⟩) s (k φ ⟨m.A,m.β,m.H.set id (.cells (cs.set j (.t (.sl sz es)))),m.w⟩ a ?_ hm (h3.step h2 s) h4)
 rw[<-hH',<-h1]
end rules
end Go.TL
