import Derived.Test.YtdicfgideclbdaaGreatDoorPk22
import Derived.Test.YtdicfgideclbdaaGreatDoorPk26
set_option maxHeartbeats 64000000
set_option linter.all false
namespace Go.Proofs.YtdicfgideclbdaaGreatDoor
open Go Go.TL
attribute [local irreducible] TR TO Then zal RetK Sound zab Kf GG zaR
theorem zhx(p:Int->Bool):∀(l:Str),∀c∈zao p l,p c.toNat=true
 | [],c,h=>by cases h
 | x::l,c,h=>by
   unfold zao at h;split at h
   ·rcases qa9.1 h with rfl|h
    ·assumption
    ·exact zhx p l c h
   ·cases h
end Go.Proofs.YtdicfgideclbdaaGreatDoor
namespace Go.Proofs.YtdicfgideclbdaaGreatDoor
open Go Go.TL
variable {p:Int->Bool}{c:UInt8}{r:Str}
theorem znt(c x:UInt8)(r:Str):zbh (c::r) [x]=(c == x):=by simp[zbh]
theorem zkg(c d x y:UInt8)(r:Str):zbh (c::d::r) [x,y]=(c == x && d == y):=by simp[zbh]
theorem zuD(c x y:UInt8):zbh [c] [x,y]=false:=by simp[zbh]
theorem zp0(h:p c.toNat=true):behind p (c::r)=behind p r:=by simp[behind,zao,h]
theorem zrl(h:p c.toNat=false):behind p (c::r)=c::r:=by simp[behind,zao,h]
theorem zkI(h:blank c.toNat=true):skipped (c::r)=skipped r:=by
 rw[zcA (c::r),zcA r,zp0 h]
theorem zga(h:blank c.toNat=false)(h2:zbh (c::r) [45,45]=false):skipped (c::r)=c::r:=by
 rw[zcA (c::r),zrl h,oH (by simp[h2])]
end Go.Proofs.YtdicfgideclbdaaGreatDoor
namespace Go.Proofs.YtdicfgideclbdaaGreatDoor
open Go Go.TL
attribute [local irreducible] TR TO Then zal RetK Sound zab Kf GG zaR
def zax(t:Tok):Str:=if(t.1 == 5)=true then[39]++t.2.1++[39] else t.2.1
end Go.Proofs.YtdicfgideclbdaaGreatDoor
namespace Go.Proofs.YtdicfgideclbdaaGreatDoor
open Go Go.TL
def zaq(s:Str)(i:Nat):Nat:=s.length-(skipped (s.drop i)).length
theorem zl2{s:Str}{i:Nat}(hi:i≤s.length):i≤zaq s i/\zaq s i≤s.length:=by
 have h:=zix (s.drop i);rw[qa3]at h;unfold zaq;omega
theorem zbr(n:Nat)(s:Str)(i:Nat)(out:List Tok):zdk (n+1) s i out=
  (if zaq s i=s.length then(out,0,0)
   else if((zae (s.drop (zaq s i))).1.2.2 != 0)=true then([],(zaq s i:Int),(zae (s.drop (zaq s i))).1.2.2)
   else zdk n s (zaq s i+(zae (s.drop (zaq s i))).2) (out++[((zae (s.drop (zaq s i))).1.1,(zae (s.drop (zaq s i))).1.2.1,(zaq s i:Int))])):=rfl
theorem zeR{s:Str}{i:Nat}(hi:i≤s.length)(h1:zaq s i≠s.length)(h2:((zae (s.drop (zaq s i))).1.2.2 != 0)=false):
  i<zaq s i+(zae (s.drop (zaq s i))).2/\zaq s i+(zae (s.drop (zaq s i))).2≤s.length:=by
 obtain⟨g1,g2⟩:=zl2 hi;have hl:=ziG (l:=s.drop (zaq s i)) oF h2;rw[qa3]at hl;omega
theorem zs9(s:Str):∀(n i:Nat) (out:List Tok),s.length-i<n->i≤s.length->
  zdk n s i out=(if(zdk n s i []).2.2=0 then(out++(zdk n s i []).1,(zdk n s i []).2.1,0) else zdk n s i []):=by
 intro n
 induction n with
 | zero=>intro i out h;omega
 | succ n ih=>
   intro i out hn hi;by_cases h1:zaq s i=s.length
   ·rw[zbr,zbr,oG h1,oG h1];simp
   ·cases h2:((zae (s.drop (zaq s i))).1.2.2 != 0) with
    | true=>
      have h3:¬(zae (s.drop (zaq s i))).1.2.2=0:=by simpa using h2
      rw[zbr,zbr,oH h1,oH h1,oG h2,oG h2,oH h3]
    | false=>
      obtain⟨g1,g2⟩:=zeR hi h1 h2
      have e:∀out,zdk (n+1) s i out=zdk n s (zaq s i+(zae (s.drop (zaq s i))).2) (out++[((zae (s.drop (zaq s i))).1.1,(zae (s.drop (zaq s i))).1.2.1,(zaq s i:Int))]):=fun out=>by
       rw[zbr,oH h1,oH (by rw[h2];simp)]
      rw[e,e,ih _ (out++_) oA g2,ih _ ([]++_) oA g2];by_cases h3:(zdk n s (zaq s i+(zae (s.drop (zaq s i))).2) []).2.2=0
      ·simp[h3]
      ·simp[h3]
def toks(s:Str)(i:Nat):List Tok×Int×Int:=zdk (s.length-i+1) s i []
theorem zqP(s:Str):∀(n m i:Nat) (out:List Tok),s.length-i<n->s.length-i<m->i≤s.length->zdk n s i out=zdk m s i out:=by
 intro n
 induction n with
 | zero=>intro m i out h;omega
 | succ n ih=>
   intro m i out hn hm hi;obtain⟨m,rfl⟩:∃k,m=k+1:=⟨m-1,oA⟩;rw[zbr,zbr];by_cases h1:zaq s i=s.length
   ·rw[oG h1,oG h1]
   ·rw[oH h1,oH h1];cases h2:((zae (s.drop (zaq s i))).1.2.2 != 0) with
    | true=>rfl
    | false=>
      obtain⟨g1,g2⟩:=zeR hi h1 h2;exact ih m _ _ oA oA g2
theorem ztb{s:Str}(h:s.length≤65536):scan s=toks s 0:=oH oA
theorem zvn{s:Str}{i:Nat}(h:zaq s i=s.length):toks s i=([],0,0):=by
 rw[toks,zbr,oG h]
theorem zvo{s:Str}{i:Nat}(h:zaq s i≠s.length)(h2:((zae (s.drop (zaq s i))).1.2.2 != 0)=true):toks s i=([],(zaq s i:Int),(zae (s.drop (zaq s i))).1.2.2):=by
 rw[toks,zbr,oH h,oG h2]
theorem ztF{s:Str}{i:Nat}(hi:i≤s.length)(h:zaq s i≠s.length)(h2:((zae (s.drop (zaq s i))).1.2.2 != 0)=false):
  toks s i=(if(toks s (zaq s i+(zae (s.drop (zaq s i))).2)).2.2=0 then
   (((zae (s.drop (zaq s i))).1.1,(zae (s.drop (zaq s i))).1.2.1,(zaq s i:Int))::(toks s (zaq s i+(zae (s.drop (zaq s i))).2)).1,(toks s (zaq s i+(zae (s.drop (zaq s i))).2)).2.1,0)
   else toks s (zaq s i+(zae (s.drop (zaq s i))).2)):=by
 obtain⟨g1,g2⟩:=zeR hi h h2
 have e:toks s i=zdk (s.length-i) s (zaq s i+(zae (s.drop (zaq s i))).2) ([]++[((zae (s.drop (zaq s i))).1.1,(zae (s.drop (zaq s i))).1.2.1,(zaq s i:Int))]):=by
  rw[toks,zbr,oH h,oH (by rw[h2];simp)]
 have f:zdk (s.length-i) s (zaq s i+(zae (s.drop (zaq s i))).2) []=toks s (zaq s i+(zae (s.drop (zaq s i))).2):=zqP s _ _ _ _ oA oA g2;rw[e,zs9 s _ _ _ oA g2,f];rfl
theorem zg0{c:UInt8}(h:letter c.toNat=true):blank c.toNat=false/\c≠45/\inner c.toNat=true:=by
 refine⟨?_,?_,?_⟩
 ·cases hb:blank c.toNat with
  | false=>rfl
  | true=>
    exfalso;simp[letter,blank]at h hb;omega
 ·rintro rfl;revert h;decide
 ·simp[inner,h]
end Go.Proofs.YtdicfgideclbdaaGreatDoor
namespace Go.Proofs.YtdicfgideclbdaaGreatDoor
open Go Go.TL
attribute [local irreducible] TR TO Then zal RetK Sound zab Kf GG zaR
theorem znT(s:Str):∀(n i:Nat) (out:List Tok),i≤s.length->out.length≤i->(zdk n s i out).1.length≤s.length:=by
 intro n
 induction n with
 | zero=>intro i out _ _;simp[zdk]
 | succ n ih=>
   intro i out hi ho;rw[zbr];by_cases h1:zaq s i=s.length
   ·rw[oG h1];simp only;omega
   ·rw[oH h1];cases h2:((zae (s.drop (zaq s i))).1.2.2 != 0) with
    | true=>simp
    | false=>
      obtain⟨g1,g2⟩:=zeR hi h1 h2;exact ih _ _ g2 oF
theorem zqQ(s:Str):(scan s).1.length≤65536:=by
 unfold scan;split
 ·simp
 ·have:=znT s (s.length+1) 0 [] (qaN _) (qag _)
  omega
end Go.Proofs.YtdicfgideclbdaaGreatDoor
namespace Go.Proofs.YtdicfgideclbdaaGreatDoor
open Go Go.TL
variable {l x r R:Str}{k:Int}{c:UInt8}
theorem zcC{p:Int->Bool}:∀ {w R:Str},(∀c∈w,p c.toNat=true)->(∀c r,R=c::r->p c.toNat=false)->zao p (w++R)=w
 | [],R,_,hR=>by
   cases R with
   | nil=>rfl
   | cons c r=>simp[zao,hR c r rfl]
 | c::w,R,hw,hR=>by
   rw[qaZ,zao,oG (hw c qah),zcC (fun x hx=>hw x (qaj _ hx)) hR]
def zb0(k:Int)(x:Str):Prop:=
 (∃c w,x=c::w/\letter c.toNat=true/\(∀d∈x,inner d.toNat=true)/\zcy x=(k,x,0))\/
 (∃c w,x=c::w/\(∀d∈x,digit d.toNat=true)/\zc9 x=(k,x,0))\/
 (k=5/\∀d∈x,zau d.toNat=true)\/(k=4/\x∈zcj)
theorem zov(l:Str):∀(all:List Str) (b:Str),all.foldl (ze7 l) b=b\/(all.foldl (ze7 l) b∈all/\zbh l (all.foldl (ze7 l) b)=true)
 | [],b=>.inl rfl
 | x::all,b=>by
   rw[qb1];rcases zov l all (ze7 l b x)with h|h
   ·rw[h];unfold ze7;split
    ·rename_i hx;simp only[qar]at hx;exact .inr ⟨qah,hx.2⟩
    ·exact .inl rfl
   ·exact .inr ⟨qaj _ h.1,h.2⟩
theorem znu(h:zbh l x=true):l.take x.length=x:=by
 simp only[zbh,qar,beq_iff_eq]at h;exact h.2
theorem zpm{w:Str}(h:zc9 w=(k,x,0)):k=2/\x=w:=by
 have key:∀(a b:Bool),(if a=true then((0:Int),([]:Str),(5:Int)) else if b=true then(0,[],14) else(2,w,0))=(k,x,0)->k=2/\x=w:=by
  intro a b h;cases a <;> cases b <;> simp at h
  exact⟨h.1.symm,h.2.symm⟩
 exact key _ _ h
theorem zku{w:Str}(h:zcy w=(k,x,0)):(k=3\/k=1)/\x=w:=by
 unfold zcy at h;split at h
 ·simp at h
 ·split at h <;> simp at h
  ·exact⟨.inl h.1.symm,h.2.symm⟩
  ·exact⟨.inr h.1.symm,h.2.symm⟩
theorem zvm{n:Nat}(hr:r≠ [])(h:zae r=((k,x,0),n))(p:Int):zb0 k x/\r.take n=zax (k,x,p)/\n=(zax (k,x,p)).length:=by
 match r,hr with
 | c::r,_=>
   unfold zae at h;simp only at h;split at h
   ·rename_i hc;simp only[qbt]at h;obtain⟨h1,h2⟩:=h;obtain⟨hk,hx⟩:=zku h1;have ht:=zeh inner (c::r);have ha:=zhx inner (c::r);have hs:zao inner (c::r)=c::zao inner r:=by rw[zao,oG (zg0 hc).2.2]
    have htx:zax (k,x,p)=x:=by
     unfold zax;rw[oH];rcases hk with rfl|rfl <;> simp
    rw[htx,hx,<-h2];rw[hx]at h1;exact⟨.inl ⟨c,zao inner r,hs,hc,ha,h1⟩,ht.symm,rfl⟩
   ·split at h
    ·rename_i hd;simp only[qbt]at h;obtain⟨h1,h2⟩:=h;obtain⟨rfl,hx⟩:=zpm h1;have ht:=zeh digit (c::r);have ha:=zhx digit (c::r);have hs:zao digit (c::r)=c::zao digit r:=by rw[zao,oG hd]
     have htx:zax (2,x,p)=x:=by simp[zax]
     rw[htx,hx,<-h2];rw[hx]at h1;exact⟨.inr (.inl ⟨c,zao digit r,hs,ha,h1⟩),ht.symm,rfl⟩
    ·split at h
     ·rename_i hq;simp only[qbt]at h;obtain⟨h1,h2⟩:=h;unfold zdg at h1;split at h1
      ·rename_i hh;simp only[qbt]at h1;obtain⟨rfl,hx,_⟩:=h1
       have hc:c=39:=by
        have:(c.toNat:Int)=39:=by simpa using hq
        apply UInt8.toNat_inj.1;show c.toNat=39;omega
       unfold zdf at h2;rw[oG hh]at h2;have htx:zax (5,x,p)=39::x++[39]:=by simp[zax]
       rw[htx,<-hx,<-h2];refine⟨.inr (.inr (.inl ⟨rfl,zhx zau r⟩)),?_,oC⟩;have ht:=zeh zau r
       have hb:behind zau r=39::(behind zau r).drop 1:=by
        cases hbb:behind zau r with
        | nil=>rw[hbb]at hh;cases hh
        | cons b q=>
          rw[hbb]at hh
          have:(b.toNat:Int)=39:=by simpa [zff]using hh
          have:b=39:=by
           apply UInt8.toNat_inj.1;show b.toNat=39;omega
          rw[this];rfl
       have hrr:r=zao zau r++behind zau r:=by
        conv=>lhs;rw[<-qaY (zao zau r).length r]
        rw[<-ht];rfl
       rw[hc];generalize zao zau r=a at*;rw[hrr,hb];simp[List.take_append];exact qaJ oA
      ·simp at h1
     ·simp only[qbt]at h;obtain⟨h1,h2⟩:=h;unfold zg1 at h1;split at h1
      ·simp at h1
      ·rename_i hb;simp only[qbt]at h1;obtain⟨rfl,hx,_⟩:=h1;have htx:zax (4,x,p)=x:=by simp[zax]
       rw[htx];subst hx;rcases zov (c::r) zcj []with hbm|hbm
       ·exfalso
        have:best (c::r) zcj=[]:=hbm
        rw[this]at hb;exact hb rfl
       ·have hpre:zbh (c::r) (best (c::r) zcj)=true:=hbm.2;have hmem:best (c::r) zcj∈zcj:=hbm.1;refine⟨.inr (.inr (.inr ⟨rfl,hmem⟩)),?_,h2.symm⟩;rw[<-h2];exact znu hpre
def Sep(R:Str):Prop:=R=[]\/∃R',R=32::R'
theorem Sep.no(h:Sep R){p:Int->Bool}(hp:p 32=false):∀c r,R=c::r->p c.toNat=false:=by
 intro c r e;rcases h with h|⟨R',h⟩
 ·rw[h]at e;cases e
 ·rw[h]at e;cases e;exact hp
set_option maxRecDepth 100000 in
theorem zmA  (hx:x∈zcj) (hR:Sep R):∃c r,x++R=c::r/\letter c.toNat=false/\digit c.toNat=false/\((c.toNat:Int) == 39)=false/\blank c.toNat=false/\zbh (x++R) [45,45]=false/\best (x++R) zcj=x/\x≠ []:=by
 rcases hR with rfl|⟨R',rfl⟩ <;> simp only[zcj,qa9,qbU,or_false]at hx <;>
  rcases hx with rfl|rfl|rfl|rfl|rfl|rfl|rfl|rfl|rfl|rfl|rfl|rfl|rfl|rfl|rfl|rfl|rfl <;>
  refine⟨_,_,rfl,oB,oB,oB,oB,?_,?_,oB⟩ <;>
  first
   | decide
   | (simp[zbh];done)
   | (simp only[best,zcj,List.foldl,ze7,qaZ,qaO,znt,zkg,qal,qae];simp)
theorem znh(h:digit c.toNat=true):letter c.toNat=false/\blank c.toNat=false/\c≠45/\c≠39:=by
 refine⟨?_,?_,?_,?_⟩
 ·cases hb:letter c.toNat with
  | false=>rfl
  | true=>exfalso;simp[letter,digit]at h hb;omega
 ·cases hb:blank c.toNat with
  | false=>rfl
  | true=>exfalso;simp[blank,digit]at h hb;omega
 ·rintro rfl;revert h;decide
 ·rintro rfl;revert h;decide
theorem zkH(h:blank c.toNat=false)(h2:c≠45):skipped (c::r)=c::r:=by
 refine zga h ?_;cases r with
 | nil=>exact zuD _ _ _
 | cons d r=>rw[zkg];simp[h2]
theorem zoc(h:zb0 k x)(hR:Sep R)(p:Int):zae (zax (k,x,p)++R)=((k,x,0),(zax (k,x,p)).length)/\skipped (zax (k,x,p)++R)=zax (k,x,p)++R/\zax (k,x,p)≠ []:=by
 rcases h with ⟨c,w,hx,hc,ha,hn⟩|⟨c,w,hx,ha,hn⟩|⟨rfl,ha⟩|⟨rfl,hm⟩
 ·obtain⟨hk,_⟩:=zku hn
  have htx:zax (k,x,p)=x:=by
   unfold zax;rw[oH];rcases hk with rfl|rfl <;> simp
  rw[htx];have hs:zao inner (x++R)=x:=zcC ha (hR.no oB);exact zwu
 ·obtain⟨rfl,_⟩:=zpm hn;have htx:zax (2,x,p)=x:=by simp[zax]
  rw[htx];have hs:zao digit (x++R)=x:=zcC ha (hR.no oB);exact zwh
 ·exact zwd
 ·have htx:zax (4,x,p)=x:=by simp[zax]
  rw[htx];obtain⟨c,r,he,g1,g2,g3,g4,g5,g6,g7⟩:=zmA hm hR;exact zwl
def lexF:Nat->Str->List (Int×Str×Nat)×Nat×Int
 | 0,_=>([],0,0)
 | n+1,l=>
   if skipped l=[] then([],0,0)
   else if(zae (skipped l)).1.2.2≠0 then([],(skipped l).length,(zae (skipped l)).1.2.2)
   else if(lexF n ((skipped l).drop (zae (skipped l)).2)).2.2=0 then(((zae (skipped l)).1.1,(zae (skipped l)).1.2.1,(skipped l).length)::(lexF n ((skipped l).drop (zae (skipped l)).2)).1,0,0)
   else lexF n ((skipped l).drop (zae (skipped l)).2)
theorem zn2:skipped []=[]:=by
 rw[zcA,oH oB];rfl
theorem zfj(l:Str):∃k,k≤l.length/\skipped l=l.drop k:=by
 induction hn:l.length using Nat.strongRecOn generalizing l with
 | _ n ih=>
   subst hn;rw[zcA];have h1:=zcB blank l;split
   ·rename_i h;obtain⟨r,hr⟩:=zea h;have h2:=@zhK r;have h3:=zgm blank l;have h4:=zcB (fun c=>c != 10) (behind blank l);rw[<-hr]at h2;obtain⟨k,hk,he⟩:=ih _ oA (behind (fun c=>c != 10) (behind blank l)) rfl;refine⟨(zao blank l).length+((zao (fun c=>c != 10) (behind blank l)).length+k),?_,?_⟩
    ·simp only[behind,qa3]at hk h4⊢;omega
    ·rw[he];simp only[behind,qbV,qa0]
   ·exact⟨_,h1,rfl⟩
theorem zrP{s:Str}{i:Nat}(hi:i≤s.length):s.drop (zaq s i)=skipped (s.drop i):=by
 obtain⟨k,hk,he⟩:=zfj (s.drop i);unfold zaq;rw[he,qbV,qa3];simp only[qa3]at hk;congr 1;omega
theorem zdR(n:Nat)(l:Str):lexF (n+1) l=
  (if skipped l=[] then([],0,0)
  else if(zae (skipped l)).1.2.2≠0 then([],(skipped l).length,(zae (skipped l)).1.2.2)
  else if(lexF n ((skipped l).drop (zae (skipped l)).2)).2.2=0 then(((zae (skipped l)).1.1,(zae (skipped l)).1.2.1,(skipped l).length)::(lexF n ((skipped l).drop (zae (skipped l)).2)).1,0,0)
  else lexF n ((skipped l).drop (zae (skipped l)).2)):=rfl
def placed(s:Str)(q:List (Int×Str×Nat)×Nat×Int):List Tok×Int×Int:=
 (q.1.map fun a=>(a.1,a.2.1,((s.length-a.2.2:Nat):Int)),if q.2.2=0 then 0 else((s.length-q.2.1:Nat):Int),q.2.2)
theorem ztG(s:Str):∀(n i:Nat),i≤s.length->s.length-i<n->toks s i=placed s (lexF n (s.drop i)):=by
 intro n
 induction n with
 | zero=>intro i hi hn;omega
 | succ n ih=>
   intro i hi hn;have hd:=zrP hi;obtain⟨g1,g2⟩:=zl2 hi;have hlen:(skipped (s.drop i)).length=s.length-zaq s i:=by rw[<-hd,qa3]
   rw[zdR];by_cases h1:zaq s i=s.length
   ·rw[zvn h1,oG (qaF oA)];simp[placed]
   ·rw[oH (fun e=>by rw[e]at hlen;simp at hlen;omega),<-hd];cases h2:((zae (s.drop (zaq s i))).1.2.2 != 0) with
    | true=>
      have h3:(zae (s.drop (zaq s i))).1.2.2≠0:=by simpa using h2
      rw[zvo h1 h2,oG h3];simp only[placed,qaD,oH h3,qa3];rw[show s.length-(s.length-zaq s i)=zaq s i from oA]
    | false=>
      have h3:¬(zae (s.drop (zaq s i))).1.2.2≠0:=by simpa using h2
      obtain⟨r1,r2⟩:=zeR hi h1 h2
      have:=ih (zaq s i+(zae (s.drop (zaq s i))).2) r2 oA
      rw[ztF hi h1 h2,oH h3,this,qbV];generalize lexF n (s.drop (zaq s i+(zae (s.drop (zaq s i))).2))=q;by_cases h4:q.2.2=0
      ·rw[oG h4,oG (show(placed s q).2.2=0 from h4)];simp only[placed,qaf,oG h4,qa3,if_true];rw[show s.length-(s.length-zaq s i)=zaq s i from oA]
      ·rw[oH h4,oH (show ¬(placed s q).2.2=0 from h4)]
theorem zmn{s:Str}(h:s.length≤65536):scan s=placed s (lexF (s.length+1) s):=by
 rw[ztb h,ztG s (s.length+1) 0 (qaN _) oA];rfl
theorem zxX:∀(n:Nat) (l:Str),(∀a∈(lexF n l).1,zb0 a.1 a.2.1/\a.2.2≤l.length)/\((lexF n l).1.map fun a=>(zax (a.1,a.2.1,0)).length).sum≤l.length/\(lexF n l).1.length≤((lexF n l).1.map fun a=>(zax (a.1,a.2.1,0)).length).sum/\
  ((lexF n l).2.2≠0->(lexF n l).1=[]/\0<(lexF n l).2.1/\(lexF n l).2.1≤l.length):=by
 intro n
 induction n with
 | zero=>intro l;simp[lexF]
 | succ n ih=>
   intro l;rw[zdR];obtain⟨k,hk,he⟩:=zfj l;have hsl:(skipped l).length≤l.length:=by rw[he,qa3];omega
   by_cases h1:skipped l=[]
   ·rw[oG h1];simp
   ·rw[oH h1];by_cases h2:(zae (skipped l)).1.2.2≠0
    ·rw[oG h2];refine⟨oC,oC,oC,fun _=>⟨rfl,qbj.2 h1,hsl⟩⟩
    ·rw[oH h2];have h2':(zae (skipped l)).1.2.2=0:=by simpa using h2
     obtain⟨t1,t2,t3⟩:=zvm (k:=(zae (skipped l)).1.1) (x:=(zae (skipped l)).1.2.1) (n:=(zae (skipped l)).2) h1 (by rw[<-h2']) 0;obtain⟨_,_,tne⟩:=zoc t1 (.inl rfl) 0;have hpos:=qbj.2 tne
     have htl:(zae (skipped l)).2≤(skipped l).length:=by
      have:=oJ List.length t2
      rw[qba,<-t3]at this;omega
     obtain⟨i1,i2,i3,i4⟩:=ih ((skipped l).drop (zae (skipped l)).2);rw[qa3]at i2 i4;generalize lexF n ((skipped l).drop (zae (skipped l)).2)=q at i1 i2 i3 i4;by_cases h4:q.2.2=0
     ·rw[oG h4];refine⟨fun a ha=>?_,?_,?_,fun h=>oI rfl h⟩
      ·rcases qa9.1 ha with rfl|ha
       ·exact⟨t1,hsl⟩
       ·obtain⟨j1,j2⟩:=i1 a ha;rw[qa3]at j2;exact⟨j1,oA⟩
      ·simp only[qaf,qaG];omega
      ·simp only[qaf,qaG,qae];omega
     ·rw[oH h4];obtain⟨j1,j2,j3⟩:=i4 h4;refine⟨by rw[j1];simp,by rw[j1];simp,by rw[j1];simp,fun _=>⟨j1,j2,oA⟩⟩
theorem zqx(h:blank c.toNat=true):∀n,lexF n (c::l)=lexF n l
 | 0=>rfl
 | n+1=>by rw[zdR,zdR,zkI h]
end Go.Proofs.YtdicfgideclbdaaGreatDoor
