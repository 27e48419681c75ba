import Derived.Lib.ItoaNum
import Derived.Test.YthmbhfgflijapaaGreatDoorPk21
set_option linter.all false
namespace Go.Proofs.YthmbhfgflijapaaGreatDoor
open Go Go.TL
theorem zcy{p:Int->Bool}:∀ {w R:Str},(∀c∈w,p c.toNat=true)->(∀c r,R=c::r->p c.toNat=false)->zao p (w++R)=w
 | [],R,_,hR=>by
   cases R with
   | nil=>rfl
   | cons c r=>simp[zao,hR c r rfl]
 | c::w,R,hw,hR=>by
   rw[qbk,zao,if_pos (hw c qak),zcy (fun x hx=>hw x (qan _ hx)) hR]
def zeI(k:Int)(x:Str):Prop:=
 (∃c w,x=c::w/\letter c.toNat=true/\(∀d∈x,inner d.toNat=true)/\zcK x=(k,x,0))\/
 (∃c w,x=c::w/\(∀d∈x,digit d.toNat=true)/\zc0 x=(k,x,0))\/
 (k=5/\∀d∈x,zau d.toNat=true)\/(k=4/\x∈zci)
theorem zmX(l:Str):∀(all:List Str) (b:Str),all.foldl (zeJ l) b=b\/(all.foldl (zeJ l) b∈all/\zbb l (all.foldl (zeJ l) b)=true)
 | [],b=>.inl rfl
 | x::all,b=>by
   rw[qbU]
   rcases zmX l all (zeJ l b x)with h|h
   ·rw[h]
    unfold zeJ
    split
    ·rename_i hx
     simp only[qau]at hx
     exact .inr ⟨qak,hx.2⟩
    ·exact .inl rfl
   ·exact .inr ⟨qan _ h.1,h.2⟩
theorem zl7{l x:Str}(h:zbb l x=true):l.take x.length=x:=by
 simp only[zbb,qau,beq_iff_eq]at h
 exact h.2
theorem zns{w:Str}{k:Int}{x:Str}(h:zc0 w=(k,x,0)):k=2/\x=w:=by
 have key:∀(a b:Bool),(if a=true then((0:Int),([]:Str),(5:Int)) else if b=true then(0,[],14) else(2,w,0))=(k,x,0)->k=2/\x=w:=by
  intro a b h
  cases a <;> cases b <;> simp at h
  exact⟨h.1.symm,h.2.symm⟩
 exact key _ _ h
theorem zjA{w:Str}{k:Int}{x:Str}(h:zcK w=(k,x,0)):(k=3\/k=1)/\x=w:=by
 unfold zcK at h
 split at h
 ·simp at h
 ·split at h <;> simp at h
  ·exact⟨.inl h.1.symm,h.2.symm⟩
  ·exact⟨.inr h.1.symm,h.2.symm⟩
theorem zsv{r:Str}{k:Int}{x:Str}{n:Nat}(hr:r≠ [])(h:zad r=((k,x,0),n))(p:Int):zeI k x/\r.take n=zax (k,x,p)/\n=(zax (k,x,p)).length:=by
 match r,hr with
 | c::r,_=>
   unfold zad at h
   simp only at h
   split at h
   ·rename_i hc
    simp only[qbo]at h
    obtain⟨h1,h2⟩:=h
    obtain⟨hk,hx⟩:=zjA h1
    have ht:=zdY inner (c::r)
    have ha:=zgZ inner (c::r)
    have hs:zao inner (c::r)=c::zao inner r:=by rw[zao,if_pos (zgs hc).2.2]
    have htx:zax (k,x,p)=x:=by
     unfold zax
     rw[if_neg]
     rcases hk with rfl|rfl <;> simp
    rw[htx,hx,<-h2]
    rw[hx]at h1
    exact⟨.inl ⟨c,zao inner r,hs,hc,ha,h1⟩,ht.symm,rfl⟩
   ·split at h
    ·rename_i hd
     simp only[qbo]at h
     obtain⟨h1,h2⟩:=h
     obtain⟨rfl,hx⟩:=zns h1
     have ht:=zdY digit (c::r)
     have ha:=zgZ digit (c::r)
     have hs:zao digit (c::r)=c::zao digit r:=by rw[zao,if_pos hd]
     have htx:zax (2,x,p)=x:=by simp[zax]
     rw[htx,hx,<-h2]
     rw[hx]at h1
     exact⟨.inr (.inl ⟨c,zao digit r,hs,ha,h1⟩),ht.symm,rfl⟩
    ·split at h
     ·rename_i hq
      simp only[qbo]at h
      obtain⟨h1,h2⟩:=h
      unfold zc8 at h1
      split at h1
      ·rename_i hh
       simp only[qbo]at h1
       obtain⟨rfl,hx,_⟩:=h1
       have hc:c=39:=by
        have:(c.toNat:Int)=39:=by simpa using hq
        apply UInt8.toNat_inj.1
        show c.toNat=39
        omega
       unfold zc7 at h2
       rw[if_pos hh]at h2
       have htx:zax (5,x,p)=39::x++[39]:=by simp[zax]
       rw[htx,<-hx,<-h2]
       refine⟨.inr (.inr (.inl ⟨rfl,zgZ zau r⟩)),?_,by simp⟩
       have ht:=zdY zau r
       have hb:behind zau r=39::(behind zau r).drop 1:=by
        cases hbb:behind zau r with
        | nil=>rw[hbb]at hh;cases hh
        | cons b q=>
          rw[hbb]at hh
          have:(b.toNat:Int)=39:=by simpa [zeR]using hh
          have:b=39:=by
           apply UInt8.toNat_inj.1
           show b.toNat=39
           omega
          rw[this];rfl
       have hrr:r=zao zau r++behind zau r:=by
        conv=>lhs;rw[<-qaV (zao zau r).length r]
        rw[<-ht];rfl
       rw[hc]
       generalize zao zau r=a at*
       rw[hrr,hb]
       simp[List.take_append]
       exact qaI (by omega)
      ·simp at h1
     ·simp only[qbo]at h
      obtain⟨h1,h2⟩:=h
      unfold zgu at h1
      split at h1
      ·simp at h1
      ·rename_i hb
       simp only[qbo]at h1
       obtain⟨rfl,hx,_⟩:=h1
       have htx:zax (4,x,p)=x:=by simp[zax]
       rw[htx]
       subst hx
       rcases zmX (c::r) zci []with hbm|hbm
       ·exfalso
        have:best (c::r) zci=[]:=hbm
        rw[this]at hb
        exact hb rfl
       ·have hpre:zbb (c::r) (best (c::r) zci)=true:=hbm.2
        have hmem:best (c::r) zci∈zci:=hbm.1
        refine⟨.inr (.inr (.inr ⟨rfl,hmem⟩)),?_,h2.symm⟩
        rw[<-h2]
        exact zl7 hpre
def Sep(R:Str):Prop:=R=[]\/∃R',R=32::R'
theorem Sep.no{R:Str}(h:Sep R){p:Int->Bool}(hp:p 32=false):∀c r,R=c::r->p c.toNat=false:=by
 intro c r e
 rcases h with h|⟨R',h⟩
 ·rw[h]at e;cases e
 ·rw[h]at e;cases e;exact hp
set_option maxRecDepth 100000 in
theorem zlh {x R:Str} (hx:x∈zci) (hR:Sep R):∃c r,x++R=c::r/\letter c.toNat=false/\digit c.toNat=false/\((c.toNat:Int) == 39)=false/\blank c.toNat=false/\zbb (x++R) [45,45]=false/\best (x++R) zci=x/\x≠ []:=by
 rcases hR with rfl|⟨R',rfl⟩ <;> simp only[zci,qa2,qbN,or_false]at hx <;>
  rcases hx with rfl|rfl|rfl|rfl|rfl|rfl|rfl|rfl|rfl|rfl|rfl|rfl|rfl|rfl|rfl|rfl|rfl <;>
  refine⟨_,_,rfl,by decide,by decide,by decide,by decide,?_,?_,by decide⟩ <;>
  first
   | decide
   | (simp[zbb];done)
   | (simp only[best,zci,List.foldl,zeJ,qbk,qa9,zl6,zjp,qaz,qal];simp)
theorem zlV{c:UInt8}(h:digit c.toNat=true):letter c.toNat=false/\blank c.toNat=false/\c≠45/\c≠39:=by
 refine⟨?_,?_,?_,?_⟩
 ·cases hb:letter c.toNat with
  | false=>rfl
  | true=>exfalso;simp[letter,digit]at h hb;omega
 ·cases hb:blank c.toNat with
  | false=>rfl
  | true=>exfalso;simp[blank,digit]at h hb;omega
 ·rintro rfl;revert h;decide
 ·rintro rfl;revert h;decide
theorem zjJ{c:UInt8}{r:Str}(h:blank c.toNat=false)(h2:c≠45):skipped (c::r)=c::r:=by
 refine zfG h ?_
 cases r with
 | nil=>exact zrP _ _ _
 | cons d r=>rw[zjp];simp[h2]
theorem zmF{k:Int}{x:Str}(h:zeI k x){R:Str}(hR:Sep R)(p:Int):zad (zax (k,x,p)++R)=((k,x,0),(zax (k,x,p)).length)/\skipped (zax (k,x,p)++R)=zax (k,x,p)++R/\zax (k,x,p)≠ []:=by
 rcases h with ⟨c,w,hx,hc,ha,hn⟩|⟨c,w,hx,ha,hn⟩|⟨rfl,ha⟩|⟨rfl,hm⟩
 ·obtain⟨hk,_⟩:=zjA hn
  have htx:zax (k,x,p)=x:=by
   unfold zax
   rw[if_neg]
   rcases hk with rfl|rfl <;> simp
  rw[htx]
  have hs:zao inner (x++R)=x:=zcy ha (hR.no (by decide))
  exact zwbo
 ·obtain⟨rfl,_⟩:=zns hn
  have htx:zax (2,x,p)=x:=by simp[zax]
  rw[htx]
  have hs:zao digit (x++R)=x:=zcy ha (hR.no (by decide))
  exact zwu
 ·exact zwk
 ·have htx:zax (4,x,p)=x:=by simp[zax]
  rw[htx]
  obtain⟨c,r,he,g1,g2,g3,g4,g5,g6,g7⟩:=zlh hm hR
  exact zwba
def lexF:Nat->Str->List (Int×Str×Nat)×Nat×Int
 | 0,_=>([],0,0)
 | n+1,l=>
   if skipped l=[] then([],0,0)
   else if(zad (skipped l)).1.2.2≠0 then([],(skipped l).length,(zad (skipped l)).1.2.2)
   else if(lexF n ((skipped l).drop (zad (skipped l)).2)).2.2=0 then(((zad (skipped l)).1.1,(zad (skipped l)).1.2.1,(skipped l).length)::(lexF n ((skipped l).drop (zad (skipped l)).2)).1,0,0)
   else lexF n ((skipped l).drop (zad (skipped l)).2)
theorem zmB:skipped []=[]:=by
 rw[zcw,if_neg (by decide)];rfl
theorem zeV(l:Str):∃k,k≤l.length/\skipped l=l.drop k:=by
 induction hn:l.length using Nat.strongRecOn generalizing l with
 | _ n ih=>
   subst hn
   rw[zcw]
   have h1:=zcx blank l
   split
   ·rename_i h
    obtain⟨r,hr⟩:=zdS h
    have h2:=@zhb r
    have h3:=zfQ blank l
    have h4:=zcx (fun c=>c != 10) (behind blank l)
    rw[<-hr]at h2
    obtain⟨k,hk,he⟩:=ih _ (by omega) (behind (fun c=>c != 10) (behind blank l)) rfl
    refine⟨(zao blank l).length+((zao (fun c=>c != 10) (behind blank l)).length+k),?_,?_⟩
    ·simp only[behind,qaZ]at hk h4⊢
     omega
    ·rw[he]
     simp only[behind,qbP,qa4]
   ·exact⟨_,h1,rfl⟩
theorem zpr{s:Str}{i:Nat}(hi:i≤s.length):s.drop (zaq s i)=skipped (s.drop i):=by
 obtain⟨k,hk,he⟩:=zeV (s.drop i)
 unfold zaq
 rw[he,qbP,qaZ]
 simp only[qaZ]at hk
 congr 1
 omega
theorem zdB(n:Nat)(l:Str):lexF (n+1) l=
  (if skipped l=[] then([],0,0)
  else if(zad (skipped l)).1.2.2≠0 then([],(skipped l).length,(zad (skipped l)).1.2.2)
  else if(lexF n ((skipped l).drop (zad (skipped l)).2)).2.2=0 then(((zad (skipped l)).1.1,(zad (skipped l)).1.2.1,(skipped l).length)::(lexF n ((skipped l).drop (zad (skipped l)).2)).1,0,0)
  else lexF n ((skipped l).drop (zad (skipped l)).2)):=rfl
def placed(s:Str)(q:List (Int×Str×Nat)×Nat×Int):List Tok×Int×Int:=
 (q.1.map fun a=>(a.1,a.2.1,((s.length-a.2.2:Nat):Int)),if q.2.2=0 then 0 else((s.length-q.2.1:Nat):Int),q.2.2)
theorem zqW(s:Str):∀(n i:Nat),i≤s.length->s.length-i<n->toks s i=placed s (lexF n (s.drop i)):=by
 intro n
 induction n with
 | zero=>intro i hi hn;omega
 | succ n ih=>
   intro i hi hn
   have hd:=zpr hi
   obtain⟨g1,g2⟩:=zkR hi
   have hlen:(skipped (s.drop i)).length=s.length-zaq s i:=by rw[<-hd,qaZ]
   rw[zdB]
   by_cases h1:zaq s i=s.length
   ·rw[zsw h1,if_pos (qaM (by omega))]
    simp[placed]
   ·rw[if_neg (fun e=>by rw[e]at hlen;simp at hlen;omega),<-hd]
    cases h2:((zad (s.drop (zaq s i))).1.2.2 != 0) with
    | true=>
      have h3:(zad (s.drop (zaq s i))).1.2.2≠0:=by simpa using h2
      rw[zsx h1 h2,if_pos h3]
      simp only[placed,qaC,if_neg h3,qaZ]
      rw[show s.length-(s.length-zaq s i)=zaq s i from by omega]
    | false=>
      have h3:¬(zad (s.drop (zaq s i))).1.2.2≠0:=by simpa using h2
      obtain⟨r1,r2⟩:=zet hi h1 h2
      have:=ih (zaq s i+(zad (s.drop (zaq s i))).2) r2 (by omega)
      rw[zqV hi h1 h2,if_neg h3,this,qbP]
      generalize lexF n (s.drop (zaq s i+(zad (s.drop (zaq s i))).2))=q
      by_cases h4:q.2.2=0
      ·rw[if_pos h4,if_pos (show(placed s q).2.2=0 from h4)]
       simp only[placed,qah,if_pos h4,qaZ,if_true]
       rw[show s.length-(s.length-zaq s i)=zaq s i from by omega]
      ·rw[if_neg h4,if_neg (show ¬(placed s q).2.2=0 from h4)]
theorem zk9{s:Str}(h:s.length≤65536):scan s=placed s (lexF (s.length+1) s):=by
 rw[zqA h,zqW s (s.length+1) 0 (qaJ _) (by omega)]
 rfl
theorem zt8:∀(n:Nat) (l:Str),(∀a∈(lexF n l).1,zeI a.1 a.2.1/\a.2.2≤l.length)/\((lexF n l).1.map fun a=>(zax (a.1,a.2.1,0)).length).sum≤l.length/\(lexF n l).1.length≤((lexF n l).1.map fun a=>(zax (a.1,a.2.1,0)).length).sum/\
  ((lexF n l).2.2≠0->(lexF n l).1=[]/\0<(lexF n l).2.1/\(lexF n l).2.1≤l.length):=by
 intro n
 induction n with
 | zero=>intro l;simp[lexF]
 | succ n ih=>
   intro l
   rw[zdB]
   obtain⟨k,hk,he⟩:=zeV l
   have hsl:(skipped l).length≤l.length:=by rw[he,qaZ];omega
   by_cases h1:skipped l=[]
   ·rw[if_pos h1];simp
   ·rw[if_neg h1]
    by_cases h2:(zad (skipped l)).1.2.2≠0
    ·rw[if_pos h2]
     refine⟨by simp,by simp,by simp,fun _=>⟨rfl,qba.2 h1,hsl⟩⟩
    ·rw[if_neg h2]
     have h2':(zad (skipped l)).1.2.2=0:=by simpa using h2
     obtain⟨t1,t2,t3⟩:=zsv (k:=(zad (skipped l)).1.1) (x:=(zad (skipped l)).1.2.1) (n:=(zad (skipped l)).2) h1 (by rw[<-h2']) 0
     obtain⟨_,_,tne⟩:=zmF t1 (.inl rfl) 0
     have hpos:=qba.2 tne
     have htl:(zad (skipped l)).2≤(skipped l).length:=by
      have:=congrArg List.length t2
      rw[qbn,<-t3]at this
      omega
     obtain⟨i1,i2,i3,i4⟩:=ih ((skipped l).drop (zad (skipped l)).2)
     rw[qaZ]at i2 i4
     generalize lexF n ((skipped l).drop (zad (skipped l)).2)=q at i1 i2 i3 i4
     by_cases h4:q.2.2=0
     ·rw[if_pos h4]
      refine⟨fun a ha=>?_,?_,?_,fun h=>absurd rfl h⟩
      ·rcases qa2.1 ha with rfl|ha
       ·exact⟨t1,hsl⟩
       ·obtain⟨j1,j2⟩:=i1 a ha
        rw[qaZ]at j2
        exact⟨j1,by omega⟩
      ·simp only[qah,qay]
       omega
      ·simp only[qah,qay,qal]
       omega
     ·rw[if_neg h4]
      obtain⟨j1,j2,j3⟩:=i4 h4
      refine⟨by rw[j1];simp,by rw[j1];simp,by rw[j1];simp,fun _=>⟨j1,j2,by omega⟩⟩
theorem zoh{c:UInt8}{l:Str}(h:blank c.toNat=true):∀n,lexF n (c::l)=lexF n l
 | 0=>rfl
 | n+1=>by rw[zdB,zdB,zjK h]
def Fol(k:Int)(x R:Str):Prop:=∀c r,R=c::r->((k=1\/k=3)->inner c.toNat=false)/\(k=2->digit c.toNat=false)/\(k=4->(x=[45]->c≠45/\c≠62)/\(x=[60]\/x=[62]->c≠61/\c≠62))
def sepL:List UInt8:=[10,32,40,41,44,58,59]
def Hd(R:Str):Prop:=∀c r,R=c::r->c∈sepL
theorem Hd.nil:Hd []:=fun c r h=>by cases h
theorem Hd.cons{c:UInt8}{r:Str}(h:c∈sepL):Hd (c::r):=fun c' r' e=>by cases e;exact h
theorem Hd.fol{R:Str}(h:Hd R)(k:Int)(x:Str):Fol k x R:=by
 intro c r e
 have:=h c r e
 simp only[sepL,qa2,qbN,or_false]at this
 rcases this with rfl|rfl|rfl|rfl|rfl|rfl|rfl <;> exact⟨fun _=>by decide,fun _=>by decide,fun _=>⟨fun _=>by decide,fun _=>by decide⟩⟩
set_option maxRecDepth 100000 in
theorem zsr {x R:Str} (hx:x∈zci) (hR:Fol 4 x R):∃c r,x++R=c::r/\letter c.toNat=false/\digit c.toNat=false/\((c.toNat:Int) == 39)=false/\blank c.toNat=false/\zbb (x++R) [45,45]=false/\best (x++R) zci=x/\x≠ []:=by
 cases R with
 | nil=>exact zlh hx (.inl rfl)
 | cons c r=>
   obtain⟨h1,h2⟩:=(hR c r rfl).2.2 rfl
   clear hR
   simp only[zci,qa2,qbN,or_false]at hx
   rcases hx with rfl|rfl|rfl|rfl|rfl|rfl|rfl|rfl|rfl|rfl|rfl|rfl|rfl|rfl|rfl|rfl|rfl
   case inr.inr.inr.inr.inr.inr.inr.inr.inr.inr.inr.inr.inr.inr.inl=>
    obtain⟨g1,g2⟩:=h1 rfl
    refine⟨_,_,rfl,by decide,by decide,by decide,by decide,?_,?_,by decide⟩
    ·simp[zbb,g1]
    ·exact zwct
   case inr.inr.inr.inr.inr.inr.inr.inr.inr.inr.inr.inl=>
    obtain⟨g1,g2⟩:=h2 (.inl rfl)
    refine⟨_,_,rfl,by decide,by decide,by decide,by decide,?_,?_,by decide⟩
    ·simp[zbb]
    ·exact zwct
   case inr.inr.inr.inr.inr.inr.inr.inr.inr.inr.inr.inr.inl=>
    obtain⟨g1,g2⟩:=h2 (.inr rfl)
    refine⟨_,_,rfl,by decide,by decide,by decide,by decide,?_,?_,by decide⟩
    ·simp[zbb]
    ·exact zwct
   all_goals
    clear h1 h2
    refine⟨_,_,rfl,by decide,by decide,by decide,by decide,?_,?_,by decide⟩ <;>
    first
     | (simp[zbb];done)
     | (simp only[best,zci,List.foldl,zeJ,qbk,qa9,zl6,zjp,qaz,qal];simp)
theorem zoO{k:Int}{x:Str}(h:zeI k x){R:Str}(hR:Fol k x R)(p:Int):zad (zax (k,x,p)++R)=((k,x,0),(zax (k,x,p)).length)/\skipped (zax (k,x,p)++R)=zax (k,x,p)++R/\zax (k,x,p)≠ []:=by
 rcases h with ⟨c,w,hx,hc,ha,hn⟩|⟨c,w,hx,ha,hn⟩|⟨rfl,ha⟩|⟨rfl,hm⟩
 ·obtain⟨hk,_⟩:=zjA hn
  have htx:zax (k,x,p)=x:=by
   unfold zax
   rw[if_neg]
   rcases hk with rfl|rfl <;> simp
  rw[htx]
  have hs:zao inner (x++R)=x:=zcy ha (fun c r e=>(hR c r e).1 (by omega))
  exact zwbo
 ·obtain⟨rfl,_⟩:=zns hn
  have htx:zax (2,x,p)=x:=by simp[zax]
  rw[htx]
  have hs:zao digit (x++R)=x:=zcy ha (fun c r e=>(hR c r e).2.1 rfl)
  exact zwu
 ·exact zwk
 ·have htx:zax (4,x,p)=x:=by simp[zax]
  rw[htx]
  obtain⟨c,r,he,g1,g2,g3,g4,g5,g6,g7⟩:=zsr hm hR
  exact zwba
def Lx(l:Str)(K:List (Int×Str)):Prop:=∀n,l.length<n->(lexF n l).1.map (fun a=>(a.1,a.2.1))=K/\(lexF n l).2=(0,0)
theorem Lx.nil:Lx [] []:=by
 intro n hn
 obtain⟨n,rfl⟩:∃m,n=m+1:=⟨n-1,by simp at hn;omega⟩
 rw[zdB,if_pos zmB]
 exact⟨rfl,rfl⟩
theorem Lx.blank{c:UInt8}{l:Str}{K:List (Int×Str)}(hc:blank c.toNat=true)(h:Lx l K):Lx (c::l) K:=by
 intro n hn
 rw[zoh hc]
 exact h n (by simp at hn;omega)
theorem Lx.tok{k:Int}{x R:Str}{K:List (Int×Str)}(h:zeI k x)(hR:Fol k x R)(hL:Lx R K):Lx (zax (k,x,0)++R) ((k,x)::K):=by
 intro n hn
 obtain⟨n,rfl⟩:∃m,n=m+1:=⟨n-1,by omega⟩
 obtain⟨a1,a2,a3⟩:=zoO h hR 0
 rw[qad]at hn
 have hpos:=qba.2 a3
 obtain⟨i1,i2⟩:=hL n (by omega)
 rw[zdB,a2,if_neg (by simp[a3]),a1,if_neg (by simp),qbQ,if_pos (by rw[i2])]
 exact⟨by simp[i1],rfl⟩
def LxP(T:Str)(Ks:List (Int×Str)):Prop:=∀R K,Hd R->Lx R K->Lx (T++R) (Ks++K)
theorem LxP.lx{T:Str}{Ks:List (Int×Str)}(h:LxP T Ks):Lx T Ks:=by
 have:=h [] [] Hd.nil Lx.nil
 simpa using this
theorem LxP.tok{k:Int}{x:Str}(h:zeI k x):LxP (zax (k,x,0)) [(k,x)]:=fun R K hR hL=>Lx.tok h (hR.fol k x) hL
theorem LxP.app{A B:Str}{Ka Kb:List (Int×Str)}(hA:LxP A Ka)(hB:LxP B Kb)(h:∃c r,B=c::r/\c∈sepL):LxP (A++B) (Ka++Kb):=by
 intro R K hR hL
 rw[qaO,qaO]
 refine hA (B++R) _ ?_ (hB R K hR hL)
 obtain⟨c,r,rfl,hc⟩:=h
 exact Hd.cons hc
theorem LxP.blank{c:UInt8}{A:Str}{Ka:List (Int×Str)}(hc:Go.Proofs.YthmbhfgflijapaaGreatDoor.blank c.toNat=true)(hA:LxP A Ka):LxP (c::A) Ka:=fun R K hR hL=>Lx.blank hc (hA R K hR hL)
theorem LxP.sym{x A:Str}{Ka:List (Int×Str)}(h:x∈zci)(hf:∀R,Hd R->Fol 4 x (A++R))(hA:LxP A Ka):LxP (x++A) ((4,x)::Ka):=by
 intro R K hR hL
 have:=Lx.tok (k:=4) (x:=x) (.inr (.inr (.inr ⟨rfl,h⟩))) (hf R hR) (hA R K hR hL)
 rw[qaO]
 simpa [zax]using this
theorem LxP.emp:LxP [] []:=fun R K _ hL=>hL
theorem LxP.br{A:Str}{Ka:List (Int×Str)}(hA:LxP A Ka):LxP (40::A) ((4,[40])::Ka):=
 LxP.sym (x:=[40]) (by decide) (fun R _ c r _=>⟨fun h=>by omega,fun h=>by omega,fun _=>⟨fun h=>by simp at h,fun h=>by simp at h⟩⟩) hA
theorem LxP.cl{A:Str}{Ka:List (Int×Str)}(hA:LxP A Ka):LxP (41::A) ((4,[41])::Ka):=
 LxP.sym (x:=[41]) (by decide) (fun R _ c r _=>⟨fun h=>by omega,fun h=>by omega,fun _=>⟨fun h=>by simp at h,fun h=>by simp at h⟩⟩) hA
theorem LxP.comma{A:Str}{Ka:List (Int×Str)}(hA:LxP A Ka):LxP (44::A) ((4,[44])::Ka):=
 LxP.sym (x:=[44]) (by decide) (fun R _ c r _=>⟨fun h=>by omega,fun h=>by omega,fun _=>⟨fun h=>by simp at h,fun h=>by simp at h⟩⟩) hA
theorem LxP.minus{c:UInt8}{A:Str}{Ka:List (Int×Str)}(h1:c≠45)(h2:c≠62)(hA:LxP (c::A) Ka):LxP (45::c::A) ((4,[45])::Ka):=
 LxP.sym (x:=[45]) (by decide) (fun R _ c' r e=>by
  cases e
  exact⟨fun h=>by omega,fun h=>by omega,fun _=>⟨fun _=>⟨h1,h2⟩,fun h=>by simp at h⟩⟩) hA
theorem zkm(u:Nat):∀c∈Go.Lib.decDigits u,digit c.toNat=true:=by
 induction u using Nat.strongRecOn with
 | _ u ih=>
   have key:∀d:Nat,d<10->digit ((UInt8.ofNat (48+d)).toNat:Int)=true:=by
    intro d hd
    rw[UInt8.toNat_ofNat']
    have:(48+d) % 2 ^ 8=48+d:=by omega
    rw[this]
    simp[digit];omega
   by_cases h:u<10
   ·rw[Go.Lib.decDigits,dif_pos h]
    intro c hc
    rw[qbg]at hc
    rw[hc];exact key u h
   ·rw[Go.Lib.decDigits,dif_neg h]
    intro c hc
    rcases qbw.1 hc with hc|hc
    ·exact ih _ (by omega) c hc
    ·rw[qbg]at hc
     rw[hc];exact key _ (by omega)
theorem zpa{a b:UInt8}{x y:Str}(h:a.toNat<b.toNat):Op.bytesLess (a::x) (b::y)=true:=by
 have:a<b:=UInt8.lt_iff_toNat_lt.2 h
 simp[Op.bytesLess,this]
theorem zid{a:UInt8}{x y:Str}:Op.bytesLess (a::x) (a::y)=Op.bytesLess x y:=by
 have:¬a<a:=fun h=>absurd (UInt8.lt_iff_toNat_lt.1 h) (Nat.lt_irrefl _)
 simp[Op.bytesLess,this]
theorem ziG{d:Nat}(h:d<10):(UInt8.ofNat (48+d)).toNat=48+d:=by
 rw[UInt8.toNat_ofNat'];omega
theorem zt7{a b c d e:Nat}(ha:a<10)(hb:b<10)(hc:c<10)(hd:d<10)(he:e<10)(h:10000*a+1000*b+100*c+10*d+e≤32768):
  (Op.bytesLess [UInt8.ofNat (48+a),UInt8.ofNat (48+b),UInt8.ofNat (48+c),UInt8.ofNat (48+d),UInt8.ofNat (48+e)] [51,50,55,54,56] || [UInt8.ofNat (48+a),UInt8.ofNat (48+b),UInt8.ofNat (48+c),UInt8.ofNat (48+d),UInt8.ofNat (48+e)] == [51,50,55,54,56])=true:=by
 by_cases h1:a<3
 ·rw[zpa (by rw[ziG ha];show 48+a<51;omega)];rfl
 have:a=3:=by omega
 subst this
 by_cases h2:b<2
 ·rw[show UInt8.ofNat (48+3)=51 from rfl,zid,zpa (by rw[ziG hb];show 48+b<50;omega)];rfl
 have:b=2:=by omega
 subst this
 by_cases h3:c<7
 ·rw[show UInt8.ofNat (48+3)=51 from rfl,zid,show UInt8.ofNat (48+2)=50 from rfl,zid,zpa (by rw[ziG hc];show 48+c<55;omega)];rfl
 have:c=7:=by omega
 subst this
 by_cases h4:d<6
 ·rw[show UInt8.ofNat (48+3)=51 from rfl,zid,show UInt8.ofNat (48+2)=50 from rfl,zid,show UInt8.ofNat (48+7)=55 from rfl,zid,zpa (by rw[ziG hd];show 48+d<54;omega)];rfl
 have:d=6:=by omega
 subst this
 by_cases h5:e<8
 ·rw[show UInt8.ofNat (48+3)=51 from rfl,zid,show UInt8.ofNat (48+2)=50 from rfl,zid,show UInt8.ofNat (48+7)=55 from rfl,zid,show UInt8.ofNat (48+6)=54 from rfl,zid,zpa (by rw[ziG he];show 48+e<56;omega)];rfl
 have:e=8:=by omega
 subst this
 decide
theorem zcQ{u:Nat}(h:10≤u):Go.Lib.decDigits u=Go.Lib.decDigits (u / 10)++[UInt8.ofNat (48+u % 10)]:=by
 rw[Go.Lib.decDigits,dif_neg (by omega)]
theorem zec{u:Nat}(h:u<10):Go.Lib.decDigits u=[UInt8.ofNat (48+u)]:=by
 rw[Go.Lib.decDigits,dif_pos h]
theorem zrz{u:Nat}(h:10000≤u)(h2:u<100000):Go.Lib.decDigits u=[UInt8.ofNat (48+u / 10 / 10 / 10 / 10),UInt8.ofNat (48+u / 10 / 10 / 10 % 10),UInt8.ofNat (48+u / 10 / 10 % 10),UInt8.ofNat (48+u / 10 % 10),UInt8.ofNat (48+u % 10)]:=by
 rw[zcQ (by omega),zcQ (u:=u / 10) (by omega),zcQ (u:=u / 10 / 10) (by omega),zcQ (u:=u / 10 / 10 / 10) (by omega),zec (by omega)]
 rfl
theorem zrA(u:Nat)(h:1≤u):∃c w,Go.Lib.decDigits u=c::w/\c≠48:=by
 induction u using Nat.strongRecOn with
 | _ u ih=>
   by_cases h1:u<10
   ·rw[zec h1]
    refine⟨_,_,rfl,fun hc=>?_⟩
    have:=congrArg UInt8.toNat hc
    rw[ziG h1]at this
    have h48:(48:UInt8).toNat=48:=rfl
    omega
   ·rw[zcQ (by omega)]
    obtain⟨c,w,h2,h3⟩:=ih (u / 10) (by omega) (by omega)
    exact⟨c,w++[UInt8.ofNat (48+u % 10)],by rw[h2];rfl,h3⟩
theorem ztN{u:Nat}:(u<10000->(Go.Lib.decDigits u).length≤4):=by
 intro h
 by_cases h1:u<10
 ·rw[zec h1];simp
 rw[zcQ (by omega)]
 by_cases h2:u / 10<10
 ·rw[zec h2];simp
 rw[zcQ (u:=u / 10) (by omega)]
 by_cases h3:u / 10 / 10<10
 ·rw[zec h3];simp
 rw[zcQ (u:=u / 10 / 10) (by omega),zec (u:=u / 10 / 10 / 10) (by omega)];simp
theorem zqU{u:Nat}(h:u≤32768):zeI 2 (Go.Lib.decDigits u):=by
 have hall:=zkm u
 by_cases h0:u=0
 ·subst h0
  rw[zec (by omega)]
  exact .inr (.inl ⟨_,_,rfl,by decide,by decide⟩)
 obtain⟨c,w,h1,h2⟩:=zrA u (by omega)
 refine .inr (.inl ⟨c,w,h1,hall,?_⟩)
 have hz:((c.toNat:Int) == 48)=false:=by
  rw[beq_eq_false_iff_ne]
  intro hc
  exact h2 (UInt8.toNat_inj.1 (by have h48:(48:UInt8).toNat=48:=rfl
                                  omega))
 have e2:(decide (5<((Go.Lib.decDigits u).length:Int)) || (((Go.Lib.decDigits u).length:Int) == 5 && !(Op.bytesLess (Go.Lib.decDigits u) [51,50,55,54,56] || Go.Lib.decDigits u == [51,50,55,54,56])))=false:=by
  by_cases h4:u<10000
  ·have:=ztN h4
   rw[qcK]
   refine⟨decide_eq_false (by omega),?_⟩
   rw[qcD]
   left
   rw[beq_eq_false_iff_ne];omega
  ·rw[zrz (by omega) (by omega),zt7 (by omega) (by omega) (by omega) (by omega) (by omega) (by omega)]
   rfl
 unfold zc0
 refine(if_neg ?_).trans (if_neg (by rw[e2];simp))
 intro hc
 simp only[qau]at hc
 have h3:=hc.2
 rw[h1]at h3
 exact absurd (show((c.toNat:Int) == 48)=true from h3) (by rw[hz];simp)
theorem zfK{s:Str}(h:ident s=true):zeI 1 s:=by
 cases s with
 | nil=>cases h
 | cons c r=>
   simp only[ident,qau,decide_eq_true_eq,qbs,qaw]at h
   obtain⟨⟨⟨h1,h2⟩,h3⟩,h4⟩:=h
   refine .inl ⟨c,r,rfl,h2,h4,?_⟩
   rw[zcK,if_neg (by simp;omega),if_neg (by rw[h3];simp)]
theorem zdU{p:UInt8->Bool}:∀ {l:Str} {c:UInt8},c∈l.takeWhile p->p c=true
 | [],_,h=>by cases h
 | x::l,c,h=>by
   rw[qbb]at h
   split at h
   ·rename_i hx
    rcases qa2.1 h with rfl|h
    ·exact hx
    ·exact zdU h
   ·cases h
theorem zsu{s:Str}(h:(zea s).2=0):zeI 5 s:=by
 refine .inr (.inr (.inl ⟨rfl,?_⟩))
 unfold zea at h
 split at h
 ·cases h
 have hb:∀c:UInt8,bit c=true->zau (c.toNat:Int)=true:=by
  intro c hc
  unfold bit at hc
  simp only[qbv,beq_iff_eq,decide_eq_true_eq]at hc
  rcases hc with h|h
  ·have h':(c.toNat:Int)=48:=by simpa using h
   simp[zau,h']
  ·have h':(c.toNat:Int)=49:=by simpa using h
   simp[zau,h']
 split at h
 ·rename_i r hr
  split at h
  ·rename_i hq
   have hs:s=s.takeWhile bit++(40::(r.takeWhile bit++[41])):=by
    conv=>lhs;rw[<-qa5 (p:=bit) (l:=s)]
    have hd:s.dropWhile bit=s.drop (s.takeWhile bit).length:=by
     conv=>rhs;arg 2;rw[<-qa5 (p:=bit) (l:=s)]
     rw[qbQ]
    have hr2:r.dropWhile bit=r.drop (r.takeWhile bit).length:=by
     conv=>rhs;arg 2;rw[<-qa5 (p:=bit) (l:=r)]
     rw[qbQ]
    rw[hd,hr]
    congr 2
    conv=>lhs;rw[<-qa5 (p:=bit) (l:=r)]
    rw[hr2,hq.1]
   rw[hs]
   intro d hd
   rcases qbw.1 hd with hd|hd
   ·exact hb d (zdU hd)
   ·rcases qa2.1 hd with rfl|hd
    ·decide
    ·rcases qbw.1 hd with hd|hd
     ·exact hb d (zdU hd)
     ·rw[qbg]at hd
      subst hd;decide
  ·cases h
 ·cases h
end Go.Proofs.YthmbhfgflijapaaGreatDoor
namespace Go.Proofs.YthmbhfgflijapaaGreatDoor
open Go Go.TL
attribute [local irreducible] TR TO Then zag RetK Sound zab Kf GG zaK
inductive PR (α:Type) where
 | ok (v:α) (i:Nat)
 | er (k:Nat) (c:Int)
def PR.bind{α β:Type}:PR α->(α->Nat->PR β)->PR β
 | .ok v i,f=>f v i
 | .er k c,_=>.er k c
structure Rd where
 K:List (Int×Str)
 es:List En
def Rd.isAt(R:Rd)(i:Nat)(s:Str):Bool:=match R.K[i]? with
 | some t=>(decide (t.1=3) || decide (t.1=4)) && decide (t.2=s)
 | none=>false
def Rd.kind(R:Rd)(i:Nat)(k:Int):Bool:=match R.K[i]? with
 | some t=>decide (t.1=k)
 | none=>false
def Rd.txt(R:Rd)(i:Nat):Str:=match R.K[i]? with
 | some t=>t.2
 | none=>[]
def Rd.must(R:Rd):List Str->Nat->PR Unit
 | [],i=>.ok () i
 | s::ss,i=>if R.isAt i s=true then R.must ss (i+1) else .er i 5
def Rd.id(R:Rd)(i:Nat):PR Str:=if R.kind i 1=true then .ok (R.txt i) (i+1) else .er i 5
def idxOf(s:Str):Nat->List Str->Option Nat
 | _,[]=>none
 | k,t::l=>if t=s then some k else idxOf s (k+1) l
def zbi(s:Str):Nat->List En->Option (Nat×Nat)
 | _,[]=>none
 | k,u::l=>match idxOf s 0 u.tags with
   | some j=>some (3+k,j)
   | none=>zbi s (k+1) l
def Rd.tag(R:Rd)(s:Str):Option (Nat×Nat):=zbi s 0 R.es
def Rd.aTag(R:Rd)(i:Nat):PR (Nat×Nat):=
 if R.isAt i [116,114,117,101]=true then .ok (1,1) (i+1) else if R.isAt i [102,97,108,115,101]=true then .ok (1,0) (i+1) else
 (R.id i).bind fun s j=>match R.tag s with
   | some tv=>.ok tv j
   | none=>.er (j-1) 6
def toI(x:Int):I64:=if h:-9223372036854775808≤x/\x≤9223372036854775807 then⟨x,h⟩ else⟨0,by decide⟩
def Rd.sampling(R:Rd)(i:Nat):PR OnC:=
 (R.aTag i).bind fun tv i=>(R.must [[40]] i).bind fun _ i=>(R.id i).bind fun s i=>(R.must [[41]] i).bind fun _ i=>.ok ⟨s,toI tv.1,toI tv.2⟩ i
def numV(s:Str):Int:=s.foldl (fun n c=>10*n+((c.toNat:Int)-48)) 0
def mkE(k o t v:Int)(s:Str)(l:List Ex):Ex:=.mk (toI k) (toI o) (toI t) (toI v) s l
def zhF(n:Nat)(s:Str):Option Int:=
 if n=0 then(if s=[111,114] then some 4 else if s=[120,111,114] then some 5 else none)
 else if n=1 then(if s=[97,110,100] then some 3 else none)
 else if n=3 then(if s=[61] then some 11 else if s=[60,62] then some 12 else if s=[60] then some 13 else if s=[60,61] then some 14 else if s=[62] then some 15 else if s=[62,61] then some 16 else none)
 else if n=4 then(if s=[43] then some 6 else if s=[45] then some 7 else none)
 else(if s=[42] then some 8 else if s=[47] then some 9 else if s=[109,111,100] then some 10 else none)
def Rd.oper(R:Rd)(n i:Nat):Option Int:=if(R.kind i 3 || R.kind i 4)=true then zhF n (R.txt i) else none
def Rd.neg(R:Rd)(i:Nat):Bool:=R.isAt i [45] && R.kind (i+1) 2
def Rd.ops(R:Rd)(f:Nat->PR Ex)(n:Nat):Nat->Ex->Nat->PR Ex
 | 0,a,i=>.ok a i
 | m+1,a,i=>match R.oper n i with
   | none=>.ok a i
   | some op=>(f (i+1)).bind fun b j=>if n=3 then .ok (mkE 3 op 0 0 [] [a,b]) j else R.ops f n m (mkE 3 op 0 0 [] [a,b]) j
def Rd.whens(R:Rd):Nat->Ex->Nat->PR Ex
 | 0,e,i=>.ok e i
 | m+1,e,i=>if R.isAt i [119,104,101,110]=true then(R.sampling (i+1)).bind fun o j=>R.whens m (.mk (toI 8) (toI 0) o.t o.tag o.name [e]) j else .ok e i
def Rd.args(R:Rd)(f:Nat->PR Ex):Nat->List Ex->Nat->PR (List Ex)
 | 0,l,i=>.ok l i
 | m+1,l,i=>if R.isAt i [44]=true then(f (i+1)).bind fun b j=>R.args f m (l++[b]) j else .ok l i
def Rd.call(R:Rd)(f g:Nat->PR Ex)(s:Str)(i:Nat):PR Ex:=
 (if R.isAt i [41]=true then .ok [] (i+1) else(f i).bind fun a j=>(R.args f R.K.length [a] j).bind fun l j=>(R.must [[41]] j).bind fun _ j=>.ok l j:PR (List Ex)).bind fun l j=>
 if R.isAt j [101,118,101,114,121]=true then(g (j+1)).bind fun a j=>.ok (mkE 10 0 0 1 s (l++[a])) j else .ok (mkE 10 0 0 0 s l) j
def Rd.wanted(R:Rd)(t v:Nat)(known:Bool)(i:Nat):PR Unit:=
 if R.isAt i [116,114,117,101]=true then(if known=true/\t≠1\/v≠1 then .er i 5 else .ok () i)
 else if R.isAt i [102,97,108,115,101]=true then(if known=true/\t≠1\/v=1\/known=false then .er i 5 else .ok () i)
 else if R.kind i 1=false then .er i 5
 else match R.tag (R.txt i) with
  | some uw=>if known=true/\(uw.1≠t\/uw.2≠v)\/known=false/\uw.2≠0 then .er i 5 else .ok () i
  | none=>if known=true then .er i 5 else .ok () i
def Rd.size(R:Rd)(t:Nat):Nat:=if t=1 then 2 else if t=2 then 65536 else match R.es[t-3]? with
 | some u=>u.tags.length
 | none=>0
def Rd.branch(R:Rd)(f:Nat->PR Ex)(t v:Nat)(known:Bool)(i:Nat):PR (Nat×Ex):=
 (R.must [[40]] i).bind fun _ i=>(R.wanted t v known i).bind fun _ _=>(R.aTag i).bind fun tv j=>
 if known=true/\tv.1≠t then .er i 5 else(R.must [[45,62]] j).bind fun _ j=>(f j).bind fun e j=>(R.must [[41]] j).bind fun _ j=>.ok (tv.1,e) j
def Rd.branches(R:Rd)(f:Nat->PR Ex)(t size:Nat):Nat->Nat->List Ex->Nat->PR (List Ex)
 | 0,_,l,i=>.ok l i
 | m+1,k,l,i=>if size≤k then .ok l i else
   (R.branch f t (if t=1 then 1-k else k) true i).bind fun te j=>R.branches f t size m (k+1) (l.set (if t=1 then 1-k else k) te.2) j
def noE:Ex:=mkE 0 0 0 0 [] []
def Rd.merge(R:Rd)(f:Nat->PR Ex)(i:Nat):PR Ex:=
 (R.id i).bind fun s i=>(R.branch f 0 (if R.isAt (i+1) [116,114,117,101]=true then 1 else 0) false i).bind fun te j=>
 (R.branches f te.1 (R.size te.1) (R.size te.1) 1 ((List.replicate (R.size te.1) noE).set (if R.isAt (i+1) [116,114,117,101]=true then 1 else 0) te.2) j).bind fun l j=>
 .ok (mkE 9 0 te.1 0 s l) j
def Rd.ident(R:Rd)(f g:Nat->PR Ex)(i:Nat):PR Ex:=
 (R.id i).bind fun s j=>if R.isAt j [40]=true then R.call f g s (j+1) else match R.tag s with
   | some tv=>.ok (mkE 1 0 tv.1 tv.2 [] []) j
   | none=>.ok (mkE 2 0 0 0 s []) j
def Rd.prim(R:Rd)(f g:Nat->PR Ex)(i:Nat):PR Ex:=
 if R.neg i=true then .ok (mkE 1 0 2 (-numV (R.txt (i+1))) [] []) (i+2)
 else if R.isAt i [45]=true then .er (i+1) 5
 else if R.kind i 2=true then(if 32767<numV (R.txt i) then .er i 14 else .ok (mkE 1 0 2 (numV (R.txt i)) [] []) (i+1))
 else if R.kind i 5=true then .ok (mkE 11 0 0 0 (R.txt i) []) (i+1)
 else if R.isAt i [116,114,117,101]=true then .ok (mkE 1 0 1 1 [] []) (i+1)
 else if R.isAt i [102,97,108,115,101]=true then .ok (mkE 1 0 1 0 [] []) (i+1)
 else if R.isAt i [40]=true then(f (i+1)).bind fun e j=>(R.must [[41]] j).bind fun _ j=>.ok e j
 else if R.isAt i [105,102]=true then(f (i+1)).bind fun c j=>(R.must [[116,104,101,110]] j).bind fun _ j=>(f j).bind fun a j=>(R.must [[101,108,115,101]] j).bind fun _ j=>(f j).bind fun b j=>.ok (mkE 4 0 0 0 [] [c,a,b]) j
 else if R.isAt i [109,101,114,103,101]=true then R.merge f (i+1)
 else R.ident f g i
inductive G where
 | expr
 | level (n:Nat)
 | unary
 | prim
def pF(R:Rd):Nat->G->Nat->PR Ex
 | 0,_,i=>.er i 5
 | m+1,.expr,i=>(pF R m (.level 0) i).bind fun a j=>
   if R.isAt j [45,62]=true then(pF R m .expr (j+1)).bind fun b k=>.ok (mkE 6 0 0 0 [] [a,b]) k
   else if R.isAt j [102,98,121]=true then(pF R m .expr (j+1)).bind fun b k=>.ok (mkE 7 0 0 0 [] [a,b]) k
   else .ok a j
 | m+1,.level n,i=>
   if n=2 then(if R.isAt i [110,111,116]=true then(pF R m (.level 2) (i+1)).bind fun a j=>.ok (mkE 3 1 0 0 [] [a]) j else pF R m (.level 3) i)
   else if n=6 then pF R m .unary i
   else(pF R m (.level (n+1)) i).bind fun a j=>R.ops (pF R m (.level (n+1))) n R.K.length a j
 | m+1,.unary,i=>
   if R.neg i=false/\R.isAt i [45]=true then(pF R m .unary (i+1)).bind fun a j=>.ok (mkE 3 2 0 0 [] [a]) j
   else if R.neg i=false/\R.isAt i [112,114,101]=true then(pF R m .unary (i+1)).bind fun a j=>.ok (mkE 5 0 0 0 [] [a]) j
   else(pF R m .prim i).bind fun e j=>R.whens R.K.length e j
 | m+1,.prim,i=>R.prim (pF R m .expr) (pF R m .prim) i
def Rd.expr(R:Rd)(i:Nat):PR Ex:=pF R (10*R.K.length+10) .expr i
end Go.Proofs.YthmbhfgflijapaaGreatDoor
