import Derived.Lib.ItoaNum
import Derived.Test.YtdicfgideclbdaaGreatDoorAk13
import Derived.Test.YtdicfgideclbdaaGreatDoorAk22
import Derived.Test.YtdicfgideclbdaaGreatDoorAk23
set_option maxHeartbeats 64000000
set_option linter.all false
namespace Go.Proofs.YtdicfgideclbdaaGreatDoor
open Go Go.TL
variable {c a:UInt8}{R x A y:Str}{k:Int}{Ka:List (Int×Str)}{d u:Nat}
def Fol(k:Int)(x R:Str):Prop:=∀c r,R=c::r->((k=1\/k=3)->inner c.toNat=false)/\(k=2->digit c.toNat=false)/\(k=4->(x=[45]->c≠45/\c≠62)/\(x=[60]\/x=[62]->c≠61/\c≠62))
def sepL:List UInt8:=[10,32,40,41,44,58,59]
def Hd(R:Str):Prop:=∀c r,R=c::r->c∈sepL
theorem Hd.cons{r:Str}(h:c∈sepL):Hd (c::r):=fun c' r' e=>by cases e;exact h
theorem Hd.fol(h:Hd R)(k:Int)(x:Str):Fol k x R:=by
 intro c r e
 have:=h c r e
 simp only[sepL,qa5,qbW,or_false]at this;rcases this with rfl|rfl|rfl|rfl|rfl|rfl|rfl <;> exact⟨fun _=>oB,fun _=>oB,fun _=>⟨fun _=>oB,fun _=>oB⟩⟩
set_option maxRecDepth 100000 in
theorem zvc  (hx:x∈zck) (hR:Fol 4 x R):∃c r,x++R=c::r/\letter c.toNat=false/\digit c.toNat=false/\((c.toNat:Int) == 39)=false/\blank c.toNat=false/\zbj (x++R) [45,45]=false/\best (x++R) zck=x/\x≠ []:=by
 cases R with
 | nil=>exact zmH hx (.inl rfl)
 | cons c r=>
   obtain⟨h1,h2⟩:=(hR c r rfl).2.2 rfl;clear hR;simp only[zck,qa5,qbW,or_false]at hx;rcases hx with rfl|rfl|rfl|rfl|rfl|rfl|rfl|rfl|rfl|rfl|rfl|rfl|rfl|rfl|rfl|rfl|rfl
   case inr.inr.inr.inr.inr.inr.inr.inr.inr.inr.inr.inr.inr.inr.inl=>
    obtain⟨g1,g2⟩:=h1 rfl;refine⟨_,_,rfl,oB,oB,oB,oB,?_,?_,oB⟩
    ·simp[zbj,g1]
    ·exact zwbz
   case inr.inr.inr.inr.inr.inr.inr.inr.inr.inr.inr.inl=>
    obtain⟨g1,g2⟩:=h2 (.inl rfl);refine⟨_,_,rfl,oB,oB,oB,oB,?_,?_,oB⟩
    ·simp[zbj]
    ·exact zwbz
   case inr.inr.inr.inr.inr.inr.inr.inr.inr.inr.inr.inr.inl=>
    obtain⟨g1,g2⟩:=h2 (.inr rfl);refine⟨_,_,rfl,oB,oB,oB,oB,?_,?_,oB⟩
    ·simp[zbj]
    ·exact zwbz
   all_goals
    clear h1 h2;refine⟨_,_,rfl,oB,oB,oB,oB,?_,?_,oB⟩ <;>
    first
     | (simp[zbj];done)
     | (simp only[best,zck,List.foldl,zfg,qaZ,qaP,znA,zkv,qal,qae];simp)
theorem zq1(h:zbQ k x)(hR:Fol k x R)(p:Int):zae (zar (k,x,p)++R)=((k,x,0),(zar (k,x,p)).length)/\skipped (zar (k,x,p)++R)=zar (k,x,p)++R/\zar (k,x,p)≠ []:=by
 rcases h with ⟨c,w,hx,hc,ha,hn⟩|⟨c,w,hx,ha,hn⟩|⟨rfl,ha⟩|⟨rfl,hm⟩
 ·obtain⟨hk,_⟩:=zkK hn
  have htx:zar (k,x,p)=x:=by
   unfold zar;rw[oH];rcases hk with rfl|rfl <;> simp
  rw[htx];have hs:zao inner (x++R)=x:=zcE ha (fun c r e=>(hR c r e).1 oA);exact zww
 ·obtain⟨rfl,_⟩:=zpr hn;have htx:zar (2,x,p)=x:=by simp[zar]
  rw[htx];have hs:zao digit (x++R)=x:=zcE ha (fun c r e=>(hR c r e).2.1 rfl);exact zwj
 ·exact zwd
 ·have htx:zar (4,x,p)=x:=by simp[zar]
  rw[htx];obtain⟨c,r,he,g1,g2,g3,g4,g5,g6,g7⟩:=zvc hm hR;exact zwn
def Lx(l:Str)(K:List (Int×Str)):Prop:=∀n,l.length<n->(lexF n l).1.map (fun a=>(a.1,a.2.1))=K/\(lexF n l).2=(0,0)
theorem Lx.nil:Lx [] []:=by
 intro n hn;obtain⟨n,rfl⟩:∃m,n=m+1:=⟨n-1,by simp at hn;omega⟩;rw[zcM,oG ziI];exact⟨rfl,rfl⟩
theorem Lx.blank{c:UInt8}{l:Str}{K:List (Int×Str)}(hc:blank c.toNat=true)(h:Lx l K):Lx (c::l) K:=by
 intro n hn;rw[zjH hc];exact h n (by simp at hn;omega)
theorem Lx.tok{K:List (Int×Str)}(h:zbQ k x)(hR:Fol k x R)(hL:Lx R K):Lx (zar (k,x,0)++R) ((k,x)::K):=by
 intro n hn;obtain⟨n,rfl⟩:∃m,n=m+1:=⟨n-1,oA⟩;obtain⟨a1,a2,a3⟩:=zq1 h hR 0;rw[qab]at hn;have hpos:=qbf.2 a3;obtain⟨i1,i2⟩:=hL n oA;rw[zcM,a2,oH (by simp[a3]),a1,oH oC,qbT,oG (by rw[i2])];exact⟨by simp[i1],rfl⟩
def LxP(T:Str)(Ks:List (Int×Str)):Prop:=∀R K,Hd R->Lx R K->Lx (T++R) (Ks++K)
theorem LxP.tok{k:Int}{x:Str}(h:zbQ k x):LxP (zar (k,x,0)) [(k,x)]:=fun R K hR hL=>Lx.tok h (hR.fol k x) hL
theorem LxP.app{B:Str}{Kb:List (Int×Str)}(hA:LxP A Ka)(hB:LxP B Kb)(h:∃c r,B=c::r/\c∈sepL):LxP (A++B) (Ka++Kb):=by
 intro R K hR hL;rw[qay,qay];refine hA (B++R) _ ?_ (hB R K hR hL);obtain⟨c,r,rfl,hc⟩:=h;exact Hd.cons hc
theorem LxP.blank{c:UInt8}{A:Str}{Ka:List (Int×Str)}(hc:Go.Proofs.YtdicfgideclbdaaGreatDoor.blank c.toNat=true)(hA:LxP A Ka):LxP (c::A) Ka:=fun R K hR hL=>Lx.blank hc (hA R K hR hL)
theorem LxP.sym(h:x∈zck)(hf:∀R,Hd R->Fol 4 x (A++R))(hA:LxP A Ka):LxP (x++A) ((4,x)::Ka):=by
 intro R K hR hL
 have:=Lx.tok (k:=4) (x:=x) (.inr (.inr (.inr ⟨rfl,h⟩))) (hf R hR) (hA R K hR hL)
 rw[qay];simpa [zar]using this
theorem LxP.emp:LxP [] []:=fun R K _ hL=>hL
theorem LxP.br(hA:LxP A Ka):LxP (40::A) ((4,[40])::Ka):=
 LxP.sym (x:=[40]) oB (fun R _ c r _=>⟨fun h=>oA,fun h=>oA,fun _=>⟨fun h=>by simp at h,fun h=>by simp at h⟩⟩) hA
theorem LxP.cl(hA:LxP A Ka):LxP (41::A) ((4,[41])::Ka):=
 LxP.sym (x:=[41]) oB (fun R _ c r _=>⟨fun h=>oA,fun h=>oA,fun _=>⟨fun h=>by simp at h,fun h=>by simp at h⟩⟩) hA
theorem LxP.comma(hA:LxP A Ka):LxP (44::A) ((4,[44])::Ka):=
 LxP.sym (x:=[44]) oB (fun R _ c r _=>⟨fun h=>oA,fun h=>oA,fun _=>⟨fun h=>by simp at h,fun h=>by simp at h⟩⟩) hA
theorem LxP.minus(h1:c≠45)(h2:c≠62)(hA:LxP (c::A) Ka):LxP (45::c::A) ((4,[45])::Ka):=
 LxP.sym (x:=[45]) oB (fun R _ c' r e=>by
  cases e;exact⟨fun h=>oA,fun h=>oA,fun _=>⟨fun _=>⟨h1,h2⟩,fun h=>by simp at h⟩⟩) hA
theorem zlE(u:Nat):∀c∈Go.Lib.decDigits u,digit c.toNat=true:=by
 induction u using Nat.strongRecOn with
 | _ u ih=>
   have key:∀d:Nat,d<10->digit ((UInt8.ofNat (48+d)).toNat:Int)=true:=by
    intro d hd;rw[UInt8.toNat_ofNat']
    have:(48+d) % 2 ^ 8=48+d:=oA
    rw[this];simp[digit];omega
   by_cases h:u<10
   ·rw[Go.Lib.decDigits,dif_pos h];intro c hc;rw[qbl]at hc;rw[hc];exact key u h
   ·rw[Go.Lib.decDigits,dif_neg h];intro c hc;rcases qbe.1 hc with hc|hc
    ·exact ih _ oA c hc
    ·rw[qbl]at hc;rw[hc];exact key _ oA
theorem zrr{b:UInt8}(h:a.toNat<b.toNat):Op.bytesLess (a::x) (b::y)=true:=by
 have:a<b:=UInt8.lt_iff_toNat_lt.2 h
 simp[Op.bytesLess,this]
theorem zi1:Op.bytesLess (a::x) (a::y)=Op.bytesLess x y:=by
 have:¬a<a:=fun h=>oI (UInt8.lt_iff_toNat_lt.1 h) (Nat.lt_irrefl _)
 simp[Op.bytesLess,this]
theorem zjv(h:d<10):(UInt8.ofNat (48+d)).toNat=48+d:=by
 rw[UInt8.toNat_ofNat'];omega
theorem zxH{a b c e:Nat}(ha:a<10)(hb:b<10)(hc:c<10)(hd:d<10)(he:e<10)(h:10000*a+1000*b+100*c+10*d+e≤32768):
  (Op.bytesLess [UInt8.ofNat (48+a),UInt8.ofNat (48+b),UInt8.ofNat (48+c),UInt8.ofNat (48+d),UInt8.ofNat (48+e)] [51,50,55,54,56] || [UInt8.ofNat (48+a),UInt8.ofNat (48+b),UInt8.ofNat (48+c),UInt8.ofNat (48+d),UInt8.ofNat (48+e)] == [51,50,55,54,56])=true:=by
 by_cases h1:a<3
 ·rw[zrr (by rw[zjv ha];show 48+a<51;omega)];rfl
 have:a=3:=oA
 subst this;by_cases h2:b<2
 ·rw[show UInt8.ofNat (48+3)=51 from rfl,zi1,zrr (by rw[zjv hb];show 48+b<50;omega)];rfl
 have:b=2:=oA
 subst this;by_cases h3:c<7
 ·rw[show UInt8.ofNat (48+3)=51 from rfl,zi1,show UInt8.ofNat (48+2)=50 from rfl,zi1,zrr (by rw[zjv hc];show 48+c<55;omega)];rfl
 have:c=7:=oA
 subst this;by_cases h4:d<6
 ·rw[show UInt8.ofNat (48+3)=51 from rfl,zi1,show UInt8.ofNat (48+2)=50 from rfl,zi1,show UInt8.ofNat (48+7)=55 from rfl,zi1,zrr (by rw[zjv hd];show 48+d<54;omega)];rfl
 have:d=6:=oA
 subst this;by_cases h5:e<8
 ·rw[show UInt8.ofNat (48+3)=51 from rfl,zi1,show UInt8.ofNat (48+2)=50 from rfl,zi1,show UInt8.ofNat (48+7)=55 from rfl,zi1,show UInt8.ofNat (48+6)=54 from rfl,zi1,zrr (by rw[zjv he];show 48+e<56;omega)];rfl
 have:e=8:=oA
 subst this;decide
theorem zcX(h:10≤u):Go.Lib.decDigits u=Go.Lib.decDigits (u / 10)++[UInt8.ofNat (48+u % 10)]:=by
 rw[Go.Lib.decDigits,dif_neg oA]
theorem zeE(h:u<10):Go.Lib.decDigits u=[UInt8.ofNat (48+u)]:=by
 rw[Go.Lib.decDigits,dif_pos h]
theorem zuj(h:10000≤u)(h2:u<100000):Go.Lib.decDigits u=[UInt8.ofNat (48+u / 10 / 10 / 10 / 10),UInt8.ofNat (48+u / 10 / 10 / 10 % 10),UInt8.ofNat (48+u / 10 / 10 % 10),UInt8.ofNat (48+u / 10 % 10),UInt8.ofNat (48+u % 10)]:=by
 rw[zcX oA,zcX (u:=u / 10) oA,zcX (u:=u / 10 / 10) oA,zcX (u:=u / 10 / 10 / 10) oA,zeE oA];rfl
theorem zuk(u:Nat)(h:1≤u):∃c w,Go.Lib.decDigits u=c::w/\c≠48:=by
 induction u using Nat.strongRecOn with
 | _ u ih=>
   by_cases h1:u<10
   ·rw[zeE h1];refine⟨_,_,rfl,fun hc=>?_⟩
    have:=oJ UInt8.toNat hc
    rw[zjv h1]at this;have h48:(48:UInt8).toNat=48:=rfl;omega
   ·rw[zcX oA];obtain⟨c,w,h2,h3⟩:=ih (u / 10) oA oA;exact⟨c,w++[UInt8.ofNat (48+u % 10)],by rw[h2];rfl,h3⟩
theorem zxk:(u<10000->(Go.Lib.decDigits u).length≤4):=by
 intro h;by_cases h1:u<10
 ·rw[zeE h1];simp
 rw[zcX oA];by_cases h2:u / 10<10
 ·rw[zeE h2];simp
 rw[zcX (u:=u / 10) oA];by_cases h3:u / 10 / 10<10
 ·rw[zeE h3];simp
 rw[zcX (u:=u / 10 / 10) oA,zeE (u:=u / 10 / 10 / 10) oA];simp
theorem ztB(h:u≤32768):zbQ 2 (Go.Lib.decDigits u):=by
 have hall:=zlE u;by_cases h0:u=0
 ·subst h0;rw[zeE oA];exact .inr (.inl ⟨_,_,rfl,oB,oB⟩)
 obtain⟨c,w,h1,h2⟩:=zuk u oA;refine .inr (.inl ⟨c,w,h1,hall,?_⟩)
 have hz:((c.toNat:Int) == 48)=false:=by
  rw[beq_eq_false_iff_ne];intro hc
  exact h2 (UInt8.toNat_inj.1 (by have h48:(48:UInt8).toNat=48:=rfl
                                  omega))
 have e2:(decide (5<((Go.Lib.decDigits u).length:Int)) || (((Go.Lib.decDigits u).length:Int) == 5 && !(Op.bytesLess (Go.Lib.decDigits u) [51,50,55,54,56] || Go.Lib.decDigits u == [51,50,55,54,56])))=false:=by
  by_cases h4:u<10000
  ·have:=zxk h4
   rw[qcQ];refine⟨decide_eq_false oA,?_⟩;rw[qcN];left;rw[beq_eq_false_iff_ne];omega
  ·rw[zuj oA oA,zxH oA oA oA oA oA oA];rfl
 unfold zdc;refine(oH ?_).trans (oH (by rw[e2];simp));intro hc;simp only[qar]at hc;have h3:=hc.2;rw[h1]at h3;exact oI (show((c.toNat:Int) == 48)=true from h3) (by rw[hz];simp)
theorem zbH{s:Str}(h:ident s=true):zbQ 1 s:=by
 cases s with
 | nil=>cases h
 | cons c r=>
   simp only[ident,qar,decide_eq_true_eq,qbA,qaB]at h;obtain⟨⟨⟨h1,h2⟩,h3⟩,h4⟩:=h;refine .inl ⟨c,r,rfl,h2,h4,?_⟩;rw[zcA,oH oF,oH (by rw[h3];simp)]
theorem zek{p:UInt8->Bool}:∀ {l:Str} {c:UInt8},c∈l.takeWhile p->p c=true
 | [],_,h=>by cases h
 | x::l,c,h=>by
   rw[qbk]at h;split at h
   ·rename_i hx;rcases qa5.1 h with rfl|h
    ·exact hx
    ·exact zek h
   ·cases h
theorem zve{s:Str}(h:(zez s).2=0):zbQ 5 s:=by
 refine .inr (.inr (.inl ⟨rfl,?_⟩));unfold zez at h;split at h
 ·cases h
 have hb:∀c:UInt8,bit c=true->zav (c.toNat:Int)=true:=by
  intro c hc;unfold bit at hc;simp only[qbL,beq_iff_eq,decide_eq_true_eq]at hc;rcases hc with h|h
  ·have h':(c.toNat:Int)=48:=by simpa using h
   simp[zav,h']
  ·have h':(c.toNat:Int)=49:=by simpa using h
   simp[zav,h']
 split at h
 ·rename_i r hr;split at h
  ·rename_i hq
   have hs:s=s.takeWhile bit++(40::(r.takeWhile bit++[41])):=by
    conv=>lhs;rw[<-qbh (p:=bit) (l:=s)]
    have hd:s.dropWhile bit=s.drop (s.takeWhile bit).length:=by
     conv=>rhs;arg 2;rw[<-qbh (p:=bit) (l:=s)]
     rw[qbT]
    have hr2:r.dropWhile bit=r.drop (r.takeWhile bit).length:=by
     conv=>rhs;arg 2;rw[<-qbh (p:=bit) (l:=r)]
     rw[qbT]
    rw[hd,hr];congr 2
    conv=>lhs;rw[<-qbh (p:=bit) (l:=r)]
    rw[hr2,hq.1]
   rw[hs];intro d hd;rcases qbe.1 hd with hd|hd
   ·exact hb d (zek hd)
   ·rcases qa5.1 hd with rfl|hd
    ·decide
    ·rcases qbe.1 hd with hd|hd
     ·exact hb d (zek hd)
     ·rw[qbl]at hd;subst hd;decide
  ·cases h
 ·cases h
end Go.Proofs.YtdicfgideclbdaaGreatDoor
namespace Go.Proofs.YtdicfgideclbdaaGreatDoor
open Go Go.TL
attribute [local irreducible] TR TO Then zaj RetK Sound zac Kf GG zaQ
variable {e a:Ex}{j n0 p m t' v':Nat}{d:Str}{R:Rd}{k o:I64}
abbrev Tk:=Int×Str
variable {L A B:List Tk}{l:List (Ex×List Tk)}{f:Ex->List Tk}
def isL:List Tk->Str->Bool
 | t::_,s=>(decide (t.1=3) || decide (t.1=4)) && decide (t.2=s)
 | [],_=>false
def kiL:List Tk->Int->Bool
 | t::_,k=>decide (t.1=k)
 | [],_=>false
def txL:List Tk->Str
 | t::_=>t.2
 | []=>[]
def opLv(n:Nat)(L:List Tk):Option Int:=if(kiL L 3 || kiL L 4)=true then zir n (txL L) else none
def At(R:Rd)(i:Nat)(L:List Tk):Prop:=R.K.drop i=L
theorem At.get{i:Nat}(h:At R i L):R.K[i]?=L[0]? :=by
 rw[<-h,qbb];rfl
theorem At.isAt{R:Rd}{i:Nat}{L:List Tk}(h:At R i L)(s:Str):R.isAt i s=isL L s:=by
 unfold Rd.isAt;rw[h.get];cases L <;> rfl
theorem At.kind{R:Rd}{i:Nat}{L:List Tk}(h:At R i L)(k:Int):R.kind i k=kiL L k:=by
 unfold Rd.kind;rw[h.get];cases L <;> rfl
theorem At.txt{R:Rd}{i:Nat}{L:List Tk}(h:At R i L):R.txt i=txL L:=by
 unfold Rd.txt;rw[h.get];cases L <;> rfl
theorem At.oper{R:Rd}{i:Nat}{L:List Tk}(h:At R i L)(n:Nat):R.oper n i=opLv n L:=by
 unfold Rd.oper opLv;rw[h.kind,h.kind,h.txt]
theorem At.tl{i:Nat}{t:Tk}(h:At R i (t::L)):At R (i+1) L:=by
 have h2:=oJ (List.drop 1) h;rw[qbX]at h2;exact h2
theorem At.app{R:Rd}:∀ {A:List Tk} {i:Nat} {L:List Tk},At R i (A++L)->At R (i+A.length) L
 | [],_,_,h=>h
 | t::A,i,L,h=>by
   have:=At.app (A:=A) (At.tl h)
   rw[qae,show i+(A.length+1)=i+1+A.length by omega];exact this
theorem At.len{i:Nat}(h:At R i L):L.length≤R.K.length:=by
 rw[<-h,qa4];omega
theorem At.neg{R:Rd}{i:Nat}{t:Tk}{L:List Tk}(h:At R i (t::L)):R.neg i=(isL (t::L) [45] && kiL L 2):=by
 unfold Rd.neg;rw[h.isAt,h.tl.kind]
theorem zc9{T:List Tk}(h:T≠ [])(s:Str):isL (T++L) s=isL T s:=by
 cases T with
 | nil=>exact oI rfl h
 | cons t T=>rfl
abbrev zgM:Tk:=(3,[116,114,117,101])
abbrev zd2:Tk:=(3,[102,97,108,115,101])
abbrev tL:Tk:=(4,[40])
abbrev tR:Tk:=(4,[41])
abbrev tArr:Tk:=(4,[45,62])
abbrev zg9:Tk:=(4,[44])
abbrev zeY:Tk:=(4,[45])
abbrev zk0:Tk:=(3,[119,104,101,110])
abbrev zmK:Tk:=(3,[101,118,101,114,121])
abbrev tIf:Tk:=(3,[105,102])
abbrev ziO:Tk:=(3,[116,104,101,110])
abbrev zqZ:Tk:=(3,[101,108,115,101])
abbrev zgi:Tk:=(3,[109,101,114,103,101])
abbrev tPre:Tk:=(3,[112,114,101])
abbrev tNot:Tk:=(3,[110,111,116])
abbrev tFby:Tk:=(3,[102,98,121])
abbrev zcl:Tk:=(4,[59])
abbrev zoc:Tk:=(3,[99,111,110,116,105,110,117,101])
structure EndO (L:List Tk):Prop where
 every:isL L [101,118,101,114,121]=false
 br:isL L [40]=false
structure EndU (L:List Tk):Prop extends EndO L where
 whn:isL L [119,104,101,110]=false
structure EndE (L:List Tk):Prop extends EndU L where
 op:∀n,opLv n L=none
 arr:isL L [45,62]=false
 fby:isL L [102,98,121]=false
theorem zpt{s:Str}(h:s ∉ ([[111,114],[120,111,114],[97,110,100],[61],[60,62],[60],[60,61],[62],[62,61],[43],[45],[42],[47],[109,111,100]]:List Str))(n:Nat):zir n s=none:=by
 simp only[qa5,qbW,or_false,not_or]at h;obtain⟨h1,h2,h3,h4,h5,h6,h7,h8,h9,h10,h11,h12,h13,h14⟩:=h;unfold zir;simp only[oH h1,oH h2,oH h3,oH h4,oH h5,oH h6,oH h7,oH h8,oH h9,oH h10,oH h11,oH h12,oH h13,oH h14,ite_self]
theorem EndE.cons{t:Tk}(h:t∈([tR,zg9,ziO,zqZ,zcl,zoc]:List Tk)):EndE (t::L):=by
 simp only[qa5,qbW,or_false]at h
 rcases h with rfl|rfl|rfl|rfl|rfl|rfl <;>
  exact⟨⟨⟨rfl,rfl⟩,rfl⟩,fun n=>by(unfold opLv;simp only[txL];split;exact zpt oB n;rfl),rfl,rfl⟩
structure StG (T:List Tk):Prop where
 ne:T≠ []
 mi:isL T [45]=false
 nt:isL T [110,111,116]=false
 pr:isL T [112,114,101]=false
def PE(R:Rd)(e:Ex)(T:List Tk):Prop:=∀n i L,10*T.length+10≤n->At R i (T++L)->EndE L->pF R n .expr i= .ok e (i+T.length)
def PQ(R:Rd)(e:Ex)(T:List Tk):Prop:=StG T/\∀n i L,10*T.length+1≤n->At R i (T++L)->EndE L->pF R n .prim i= .ok e (i+T.length)
def PO(R:Rd)(e:Ex)(T:List Tk):Prop:=StG T/\∀n i L,10*T.length+1≤n->At R i (T++L)->EndO L->pF R n .prim i= .ok e (i+T.length)
theorem PO.pq{T:List Tk}(h:PO R e T):PQ R e T:=⟨h.1,fun n i L hn ha he=>h.2 n i L hn ha he.toEndO⟩
theorem StG.len{T:List Tk}(h:StG T):1≤T.length:=qbf.2 h.ne
theorem At.pos{i:Nat}{T:List Tk}(h:At R i (T++L))(hT:1≤T.length):∃k,R.K.length=k+1:=by
 have:=h.len
 rw[qab]at this;exact⟨R.K.length-1,oA⟩
theorem ztM{T:List Tk}{n i:Nat}(hs:StG T)(ha:At R i (T++L))(h:pF R n .prim i= .ok e j)(hw:R.isAt j [119,104,101,110]=false):pF R (n+1) .unary i= .ok e j:=by
 obtain⟨k,hk⟩:=ha.pos hs.len;have h1:R.isAt i [45]=false:=by rw[ha.isAt,zc9 hs.ne,hs.mi]
 have h2:R.isAt i [112,114,101]=false:=by rw[ha.isAt,zc9 hs.ne,hs.pr]
 rw[pF,oH (by rw[h1];simp),oH (by rw[h2];simp),h,hk];show R.whens (k+1) e j=_;rw[Rd.whens,oH (by rw[hw];simp)]
theorem PO.un{T:List Tk}{n i:Nat}(h:PO R e T)(hn:10*T.length+2≤n)(ha:At R i (T++L))(he:EndU L):pF R n .unary i= .ok e (i+T.length):=by
 obtain⟨m,rfl⟩:∃m,n=m+1:=⟨n-1,oA⟩;exact ztM h.1 ha (h.2 m i L oA ha he.toEndO) (by rw[ha.app.isAt,he.whn])
theorem PQ.un{T:List Tk}{n i:Nat}(h:PQ R e T)(hn:10*T.length+2≤n)(ha:At R i (T++L))(he:EndE L):pF R n .unary i= .ok e (i+T.length):=by
 obtain⟨m,rfl⟩:∃m,n=m+1:=⟨n-1,oA⟩;exact ztM h.1 ha (h.2 m i L oA ha he) (by rw[ha.app.isAt,he.whn])
theorem zhx{R:Rd}{a:Ex}{i j n0 p:Nat}(hp:p≤6)(hK:1≤R.K.length)(hnot:R.isAt i [110,111,116]=false)(h:∀m,n0≤m->pF R m (.level p) i= .ok a j):
  ∀(d q:Nat),q+d=p->(∀k,q≤k->k<p->R.oper k j=none)->∀m,n0+d≤m->pF R m (.level q) i= .ok a j
 | 0,q,hq,_,m,hm=>by
   have:q=p:=oA
   subst this;exact h m oA
 | d+1,q,hq,ho,m,hm=>by
   have ih:=zhx hp hK hnot h d (q+1) oA (fun k h1 h2=>ho k oA h2) (m-1) oA;obtain⟨m,rfl⟩:∃m',m=m'+1:=⟨m-1,oA⟩;rw[Nat.add_sub_cancel]at ih;rw[pF];by_cases h2:q=2
   ·subst h2;rw[oG rfl,oH (by rw[hnot];simp)];exact ih
   ·rw[oH h2,oH oA,ih];obtain⟨k,hk⟩:∃k,R.K.length=k+1:=⟨R.K.length-1,oA⟩;show R.ops _ q R.K.length a j=_;rw[hk,Rd.ops,ho q (qag _) oA]
theorem lev6{i:Nat}(h:∀m,n0≤m->pF R m .unary i= .ok a j):∀m,n0+1≤m->pF R m (.level 6) i= .ok a j:=by
 intro m hm;obtain⟨m,rfl⟩:∃m',m=m'+1:=⟨m-1,oA⟩;rw[pF,oH oB,oG rfl];exact h m oA
theorem zxw{i:Nat}(h:∀m,n0≤m->pF R m (.level 0) i= .ok a j)(h1:R.isAt j [45,62]=false)(h2:R.isAt j [102,98,121]=false):∀m,n0+1≤m->pF R m .expr i= .ok a j:=by
 intro m hm;obtain⟨m,rfl⟩:∃m',m=m'+1:=⟨m-1,oA⟩;rw[pF,h m oA];show(if R.isAt j [45,62]=true then _ else if R.isAt j [102,98,121]=true then _ else _)=_;rw[h1,h2];rfl
theorem zeb{i:Nat}{T:List Tk}(hp:p≤6)(hT:1≤T.length)(ha:At R i (T++L))(he:EndE L)(hnot:p≤2\/isL T [110,111,116]=false)
  (h:∀m,n0≤m->pF R m (.level p) i= .ok a (i+T.length)):∀m,n0+p+1≤m->pF R m .expr i= .ok a (i+T.length):=by
 obtain⟨k,hk⟩:=ha.pos hT;have ho:∀k,R.oper k (i+T.length)=none:=fun k=>by rw[ha.app.oper,he.op]
 have hne:T≠ []:=qbf.1 hT;refine zxw (n0:=n0+p) ?_ (by rw[ha.app.isAt,he.arr]) (by rw[ha.app.isAt,he.fby]);rcases hnot with h2|h2
 ·match p,h2,h with
  | 0,_,h=>exact h
  | 1,_,h=>
    intro m hm;obtain⟨m,rfl⟩:∃m',m=m'+1:=⟨m-1,oA⟩;rw[pF,oH oB,oH oB,h m oA,hk];show R.ops _ 0 (k+1) a _=_;rw[Rd.ops,ho]
  | 2,_,h=>
    intro m hm;obtain⟨m,rfl⟩:∃m',m=m'+2:=⟨m-2,oA⟩;rw[pF,oH oB,oH oB,pF,oH oB,oH oB,h m oA,hk];show(R.ops _ 1 (k+1) a _).bind _=_;rw[Rd.ops,ho];show R.ops _ 0 (k+1) a _=_;rw[Rd.ops,ho]
 ·exact zhx hp oA (by rw[ha.isAt,zc9 hne,h2]) h p 0 oA (fun k _ _=>ho k)
theorem PQ.pe{T:List Tk}(h:PQ R e T):PE R e T:=fun n i L hn ha he=>
 zeb (p:=6) (n0:=10*T.length+3) (qag _) h.1.len ha he (.inr h.1.nt) (lev6 fun m hm=>h.un hm ha he) n oA
theorem PO.pe{R:Rd}{e:Ex}{T:List Tk}(h:PO R e T):PE R e T:=h.pq.pe
theorem PO.lev{T:List Tk}{i q:Nat}(h:PO R e T)(ha:At R i (T++L))(he:EndU L)(hq:q≤6)(ho:∀k,q≤k->opLv k L=none):∀m,10*T.length+9≤m->pF R m (.level q) i= .ok e (i+T.length):=by
 intro m hm;obtain⟨k,hk⟩:=ha.pos h.1.len;exact zhx (p:=6) (n0:=10*T.length+3) (qag _) oA (by rw[ha.isAt,zc9 h.1.ne,h.1.nt]) (lev6 fun m hm=>h.un hm ha he) (6-q) q oA (fun k h1 _=>by rw[ha.app.oper,ho k h1]) m oA
section
theorem zdA{x:I64}{n:Int}(h:x.1=n):toI n=x:=by
 subst h;obtain⟨x,h1,h2⟩:=x;unfold toI;rw[dif_pos ⟨h1,h2⟩]
theorem zcq{t v:I64}{s:Str}{l:List Ex}{a b c d:Int}(h1:k.1=a)(h2:o.1=b)(h3:t.1=c)(h4:v.1=d):mkE a b c d s l= .mk k o t v s l:=by
 unfold mkE;rw[zdA h1,zdA h2,zdA h3,zdA h4]
variable {t v:I64}{s:Str}
theorem rInt(hk:k.1=1)(ho:o.1=0)(ht:t.1=2)(hd:numV d=v.1)(hv:v.1≤32767):PO R (.mk k o t v [] []) [(2,d)]:=by
 refine⟨⟨oC,rfl,rfl,rfl⟩,fun n i L hn ha he=>?_⟩;obtain⟨m,rfl⟩:∃m,n=m+1:=⟨n-1,oA⟩;have ha:At R i ((2,d)::L):=ha;rw[pF,Rd.prim,oH (by rw[ha.neg];simp[isL]),oH (by rw[ha.isAt];simp[isL]),oG (by rw[ha.kind];rfl),ha.txt,oH (by show ¬(32767<numV d);omega)];show PR.ok (mkE 1 0 2 (numV d) [] []) (i+1)=_;rw[zcq hk ho ht hd.symm];rfl
theorem zzR(hk:k.1=1)(ho:o.1=0)(ht:t.1=2)(hd:-numV d=v.1):PE R (.mk k o t v [] []) [zeY,(2,d)]:=by
 intro n i L hn ha he;have ha0:At R i (zeY::(2,d)::L):=ha;have hneg:R.neg i=true:=by rw[ha0.neg];rfl
 refine zeb (p:=6) (n0:=3) (qag _) oC ha he (.inr rfl) (lev6 (n0:=2) fun m hm=>?_) n (by simp at hn;omega);obtain⟨m,rfl⟩:∃m',m=m'+2:=⟨m-2,oA⟩;obtain⟨q,hq⟩:=ha.pos oC;rw[pF,oH (by rw[hneg];simp),oH (by rw[hneg];simp),pF,Rd.prim,oG hneg,ha0.tl.txt,hq];show R.whens (q+1) (mkE 1 0 2 (-numV d) [] []) (i+2)=_;rw[Rd.whens,oH (by rw[show R.isAt (i+2) [119,104,101,110]=false from((At.app (A:=[zeY,(2,d)]) ha).isAt _).trans he.whn];simp),zcq hk ho ht hd.symm];rfl
theorem zBd(hk:k.1=1)(ho:o.1=0)(ht:t.1=1)(hv:v.1=1):PO R (.mk k o t v [] []) [zgM]:=by
 refine⟨⟨oC,rfl,rfl,rfl⟩,fun n i L hn ha he=>?_⟩;obtain⟨m,rfl⟩:∃m,n=m+1:=⟨n-1,oA⟩;have ha:At R i (zgM::L):=ha;rw[pF,Rd.prim,oH (by rw[ha.neg];simp[isL]),oH (by rw[ha.isAt];simp[isL]),oH (by rw[ha.kind];simp[kiL]),oH (by rw[ha.kind];simp[kiL]),oG (by rw[ha.isAt];rfl),zcq hk ho ht hv];rfl
theorem zzP(hk:k.1=1)(ho:o.1=0)(ht:t.1=1)(hv:v.1=0):PO R (.mk k o t v [] []) [zd2]:=by
 refine⟨⟨oC,rfl,rfl,rfl⟩,fun n i L hn ha he=>?_⟩;obtain⟨m,rfl⟩:∃m,n=m+1:=⟨n-1,oA⟩;have ha:At R i (zd2::L):=ha;rw[pF,Rd.prim,oH (by rw[ha.neg];simp[isL]),oH (by rw[ha.isAt];simp[isL]),oH (by rw[ha.kind];simp[kiL]),oH (by rw[ha.kind];simp[kiL]),oH (by rw[ha.isAt];simp[isL]),oG (by rw[ha.isAt];rfl),zcq hk ho ht hv];rfl
theorem zBf(hk:k.1=11)(ho:o.1=0)(ht:t.1=0)(hv:v.1=0):PO R (.mk k o t v s []) [(5,s)]:=by
 refine⟨⟨oC,rfl,rfl,rfl⟩,fun n i L hn ha he=>?_⟩;obtain⟨m,rfl⟩:∃m,n=m+1:=⟨n-1,oA⟩;have ha:At R i ((5,s)::L):=ha;rw[pF,Rd.prim,oH (by rw[ha.neg];simp[isL]),oH (by rw[ha.isAt];simp[isL]),oH (by rw[ha.kind];simp[kiL]),oG (by rw[ha.kind];rfl),ha.txt];show PR.ok (mkE 11 0 0 0 s []) (i+1)=_;rw[zcq hk ho ht hv];rfl
theorem zem{i:Nat}(ha:At R i ((1,s)::L)):pF R (m+1) .prim i=if isL L [40]=true then R.call (pF R m .expr) (pF R m .prim) s (i+1+1) else match R.tag s with
  | some tv=>.ok (mkE 1 0 tv.1 tv.2 [] []) (i+1)
  | none=>.ok (mkE 2 0 0 0 s []) (i+1):=by
 rw[pF,Rd.prim,oH (by rw[ha.neg];simp[isL])];iterate 8 rw[oH (by first|(rw[ha.isAt];simp[isL];done)|(rw[ha.kind];simp[kiL];done))]
 rw[Rd.ident,Rd.id,oG (by rw[ha.kind];rfl),ha.txt];show(if R.isAt (i+1) [40]=true then R.call _ _ s (i+1+1) else _)=_;rw[ha.tl.isAt];rfl
theorem rTag(hk:k.1=1)(ho:o.1=0)(ht:t.1=t')(hv:v.1=v')(hs:R.tag s=some (t',v')):PO R (.mk k o t v [] []) [(1,s)]:=by
 refine⟨⟨oC,rfl,rfl,rfl⟩,fun n i L hn ha he=>?_⟩;obtain⟨m,rfl⟩:∃m,n=m+1:=⟨n-1,oA⟩;rw[zem (L:=L) ha,oH (by rw[he.br];simp),hs];show PR.ok (mkE 1 0 t' v' [] []) (i+1)=_;rw[zcq hk ho ht hv];rfl
theorem rVar(hk:k.1=2)(ho:o.1=0)(ht:t.1=0)(hv:v.1=0)(hs:R.tag s=none):PO R (.mk k o t v s []) [(1,s)]:=by
 refine⟨⟨oC,rfl,rfl,rfl⟩,fun n i L hn ha he=>?_⟩;obtain⟨m,rfl⟩:∃m,n=m+1:=⟨n-1,oA⟩;rw[zem (L:=L) ha,oH (by rw[he.br];simp),hs];show PR.ok (mkE 2 0 0 0 s []) (i+1)=_;rw[zcq hk ho ht hv];rfl
theorem zcz{t:Tk}{i:Nat}{w:Str}(ha:At R i (t::L))(hw:isL (t::L) w=true):R.must [w] i= .ok () (i+1):=by
 rw[Rd.must,oG (by rw[ha.isAt,hw]),Rd.must]
theorem rBr{T:List Tk}(h:PE R e T):PO R e (tL::(T++[tR])):=by
 refine⟨⟨oC,rfl,rfl,rfl⟩,fun n i L hn ha he=>?_⟩;obtain⟨m,rfl⟩:∃m,n=m+1:=⟨n-1,oA⟩;have ha:At R i (tL::(T++(tR::L))):=by simpa using ha
 have h1:=h m (i+1) (tR::L) (by simp at hn;omega) ha.tl (EndE.cons oC);rw[pF,Rd.prim,oH (by rw[ha.neg];simp[isL])];iterate 5 rw[oH (by first|(rw[ha.isAt];simp[isL];done)|(rw[ha.kind];simp[kiL];done))]
 rw[oG (by rw[ha.isAt];rfl),h1];show(R.must [[41]] (i+1+T.length)).bind _=_;rw[zcz (t:=tR) (L:=L) ha.tl.app rfl];show PR.ok e (i+1+T.length+1)=_;congr 1;simp;omega
theorem rNot(h:PO R a A)(hk:k.1=3)(ho:o.1=1)(ht:t.1=0)(hv:v.1=0):PE R (.mk k o t v [] [a]) (tNot::A):=by
 intro n i L hn ha he;refine zeb (p:=2) (n0:=10*A.length+10) oB oC ha he (.inl (qag _)) (fun m hm=>?_) n (by simp at hn;omega);obtain⟨m,rfl⟩:∃m',m=m'+1:=⟨m-1,oA⟩;have ha:At R i (tNot::(A++L)):=ha;rw[pF,oG rfl,oG (by rw[ha.isAt];rfl),h.lev ha.tl he.toEndU oB (fun k _=>he.op k) m oA];show PR.ok (mkE 3 1 0 0 [] [a]) _=_;rw[zcq hk ho ht hv];congr 1;simp;omega
theorem rNeg(h:PO R a A)(h2:kiL A 2=false)(hk:k.1=3)(ho:o.1=2)(ht:t.1=0)(hv:v.1=0):PE R (.mk k o t v [] [a]) (zeY::A):=by
 intro n i L hn ha he;refine zeb (p:=6) (n0:=10*A.length+4) (qag _) oC ha he (.inr rfl) (lev6 (n0:=10*A.length+3) fun m hm=>?_) n (by simp at hn;omega);obtain⟨m,rfl⟩:∃m',m=m'+1:=⟨m-1,oA⟩;have ha:At R i (zeY::(A++L)):=ha
 have hneg:R.neg i=false:=by
  rw[ha.neg]
  have:kiL (A++L) 2=kiL A 2:=by
   have:=h.1.ne
   cases A with
   | nil=>exact oI rfl this
   | cons x A=>rfl
  rw[this,h2];simp
 rw[pF,oG ⟨hneg,by rw[ha.isAt];rfl⟩,h.un oA ha.tl he.toEndU];show PR.ok (mkE 3 2 0 0 [] [a]) _=_;rw[zcq hk ho ht hv];congr 1;simp;omega
theorem rPre(h:PO R a A)(hk:k.1=5)(ho:o.1=0)(ht:t.1=0)(hv:v.1=0):PE R (.mk k o t v [] [a]) (tPre::A):=by
 intro n i L hn ha he;refine zeb (p:=6) (n0:=10*A.length+4) (qag _) oC ha he (.inr rfl) (lev6 (n0:=10*A.length+3) fun m hm=>?_) n (by simp at hn;omega);obtain⟨m,rfl⟩:∃m',m=m'+1:=⟨m-1,oA⟩;have ha:At R i (tPre::(A++L)):=ha;have hneg:R.neg i=false:=by rw[ha.neg];simp[isL]
 rw[pF,oH (by rw[ha.isAt];simp[isL]),oG ⟨hneg,by rw[ha.isAt];rfl⟩,h.un oA ha.tl he.toEndU];show PR.ok (mkE 5 0 0 0 [] [a]) _=_;rw[zcq hk ho ht hv];congr 1;simp;omega
structure OpW (w:Tk) (p:Nat) (o:Int):Prop where
 lv:p=0\/p=1\/p=3\/p=4\/p=5
 me:∀L,opLv p (w::L)=some o
 no:∀q L,q<6->p<q->opLv q (w::L)=none\/q=2
 u:∀L,EndU (w::L)
theorem rBin{b:Ex}{w:Tk}(ha':PO R a A)(hb':PO R b B)(hw:OpW w p o.1)(hk:k.1=3)(ht:t.1=0)(hv:v.1=0):PE R (.mk k o t v [] [a,b]) (A++w::B):=by
 intro n i L hn ha he;have hp6:p<6:=by have:=hw.lv;omega
 have hp2:p≠2:=by have:=hw.lv;omega
 have h1:1≤(A++w::B).length:=oF
 obtain⟨q,hq⟩:∃q,R.K.length=q+2:=by
  have:=ha.len
  have:=ha'.1.len
  simp only[qab,qae]at*;exact⟨R.K.length-2,oA⟩
 have ha2:At R i (A++(w::(B++L))):=by simpa using ha
 have hl:(A++w::B).length=A.length+1+B.length:=oF
 refine zeb (p:=p) (n0:=10*A.length+10*B.length+10) oA h1 ha he (.inr (by rw[zc9 ha'.1.ne,ha'.1.nt])) (fun m hm=>?_) n (by rw[hl]at hn;omega);obtain⟨m,rfl⟩:∃m',m=m'+1:=⟨m-1,oA⟩
 have hq':∀k,p+1≤k->k<6->R.oper k (i+A.length)=none\/k=2:=fun k h1 h2=>by
  rw[ha2.app.oper];exact hw.no k (B++L) h2 oA
 have hA:pF R m (.level (p+1)) i= .ok a (i+A.length):=by
  have h6:=lev6 (n0:=10*A.length+2) fun m hm=>ha'.un (R:=R) (L:=w::(B++L)) hm ha2 (hw.u _)
  have hnot:R.isAt i [110,111,116]=false:=by rw[ha2.isAt,zc9 ha'.1.ne,ha'.1.nt]
  have hst:∀q n0,q≠2->q<6->R.oper q (i+A.length)=none->(∀m,n0≤m->pF R m (.level (q+1)) i= .ok a (i+A.length))->∀m,n0+1≤m->pF R m (.level q) i= .ok a (i+A.length):=by
   intro q' n0 h1 h2 h3 h4;exact zhx (p:=q'+1) oA oA hnot h4 1 q' rfl (fun k g1 g2=>(show q'=k by omega) ▸ h3)
  have hst2:∀n0,(∀m,n0≤m->pF R m (.level 3) i= .ok a (i+A.length))->∀m,n0+1≤m->pF R m (.level 2) i= .ok a (i+A.length):=by
   intro n0 h4 m hm;obtain⟨m,rfl⟩:∃m',m=m'+1:=⟨m-1,oA⟩;rw[pF,oG rfl,oH (by rw[hnot];simp)];exact h4 m oA
  have hno:∀k,p+1≤k->k<6->k≠2->R.oper k (i+A.length)=none:=fun k h1 h2 h3=>(hq' k h1 h2).resolve_right h3
  have e6:=h6;rcases hw.lv with h|h|h|h|h <;> subst h
  ·exact hst 1 _ oB oB (hno 1 oB oB oB) (hst2 _ (hst 3 _ oB oB (hno 3 oB oB oB) (hst 4 _ oB oB (hno 4 oB oB oB) (hst 5 _ oB oB (hno 5 oB oB oB) e6)))) m oA
  ·exact hst2 _ (hst 3 _ oB oB (hno 3 oB oB oB) (hst 4 _ oB oB (hno 4 oB oB oB) (hst 5 _ oB oB (hno 5 oB oB oB) e6))) m oA
  ·exact hst 4 _ oB oB (hno 4 oB oB oB) (hst 5 _ oB oB (hno 5 oB oB oB) e6) m oA
  ·exact hst 5 _ oB oB (hno 5 oB oB oB) e6 m oA
  ·exact e6 m oA
 have hB:pF R m (.level (p+1)) (i+A.length+1)= .ok b (i+A.length+1+B.length):=
  hb'.lev ha2.app.tl he.toEndU oA (fun k _=>he.op k) m oA
 have hend:∀k,R.oper k (i+A.length+1+B.length)=none:=fun k=>by rw[ha2.app.tl.app.oper,he.op]
 rw[pF,oH hp2,oH oA,hA];show R.ops _ p R.K.length a (i+A.length)=_;rw[hq,Rd.ops,ha2.app.oper,hw.me];show(pF R m (.level (p+1)) (i+A.length+1)).bind _=_;rw[hB];show(if p=3 then PR.ok (mkE 3 o.1 0 0 [] [a,b]) (i+A.length+1+B.length) else R.ops _ p (q+1) (mkE 3 o.1 0 0 [] [a,b]) (i+A.length+1+B.length))=_;rw[Rd.ops,hend,ite_self,zcq hk rfl ht hv,hl];congr 1;omega
theorem rSeq{b:Ex}{w:Tk}(ha':PO R a A)(hb':PO R b B)(hw:w=tArr/\k.1=6\/w=tFby/\k.1=7)(ho:o.1=0)(ht:t.1=0)(hv:v.1=0):PE R (.mk k o t v [] [a,b]) (A++w::B):=by
 intro n i L hn ha he;have ha2:At R i (A++(w::(B++L))):=by simpa using ha
 have hl:(A++w::B).length=A.length+1+B.length:=oF
 rw[hl]at hn⊢;obtain⟨m,rfl⟩:∃m',n=m'+1:=⟨n-1,oA⟩
 have hu:EndU (w::(B++L)):=by
  rcases hw with ⟨rfl,_⟩|⟨rfl,_⟩ <;> exact⟨⟨rfl,rfl⟩,rfl⟩
 have hno:∀k,opLv k (w::(B++L))=none:=fun k=>by
  rcases hw with ⟨rfl,_⟩|⟨rfl,_⟩ <;> (unfold opLv;simp only[txL];split;exact zpt oB k;rfl)
 have hB:=hb'.pe m (i+A.length+1) L oA ha2.app.tl he;rw[pF,ha'.lev ha2 hu oB (fun k _=>hno k) m oA];show(if R.isAt (i+A.length) [45,62]=true then(pF R m .expr (i+A.length+1)).bind _ else if R.isAt (i+A.length) [102,98,121]=true then(pF R m .expr (i+A.length+1)).bind _ else _)=_;rw[ha2.app.isAt,ha2.app.isAt,hB];rcases hw with ⟨rfl,hk⟩|⟨rfl,hk⟩
 ·rw[oG (show isL (tArr::(B++L)) [45,62]=true from rfl)];show PR.ok (mkE 6 0 0 0 [] [a,b]) _=_;rw[zcq hk ho ht hv];congr 1;omega
 ·rw[oH (by simp[isL]),oG (show isL (tFby::(B++L)) [102,98,121]=true from rfl)];show PR.ok (mkE 7 0 0 0 [] [a,b]) _=_;rw[zcq hk ho ht hv];congr 1;omega
theorem rIf{c b:Ex}{C:List Tk}(hc:PE R c C)(ha':PE R a A)(hb':PE R b B)(hk:k.1=4)(ho:o.1=0)(ht:t.1=0)(hv:v.1=0):PQ R (.mk k o t v [] [c,a,b]) (tIf::(C++ziO::(A++zqZ::B))):=by
 refine⟨⟨oC,rfl,rfl,rfl⟩,fun n i L hn ha he=>?_⟩;obtain⟨m,rfl⟩:∃m,n=m+1:=⟨n-1,oA⟩;have ha:At R i (tIf::(C++(ziO::(A++(zqZ::(B++L)))))):=by simpa using ha
 simp only[qae,qab]at hn;have h1:=hc m _ _ oA ha.tl (EndE.cons oC);have h2:=ha' m _ _ oA ha.tl.app.tl (EndE.cons oC);have h3:=hb' m _ _ oA ha.tl.app.tl.app.tl he;rw[pF,Rd.prim,oH (by rw[ha.neg];simp[isL])];iterate 6 rw[oH (by first|(rw[ha.isAt];simp[isL];done)|(rw[ha.kind];simp[kiL];done))]
 rw[oG (by rw[ha.isAt];rfl),h1];show(R.must [[116,104,101,110]] _).bind _=_;rw[zcz ha.tl.app rfl];show(pF R m .expr _).bind _=_;rw[h2];show(R.must [[101,108,115,101]] _).bind _=_;rw[zcz ha.tl.app.tl.app rfl];show(pF R m .expr _).bind _=_;rw[h3];show PR.ok (mkE 4 0 0 0 [] [c,a,b]) _=_;rw[zcq hk ho ht hv];congr 1
 simp only[qae,qab];omega
end
section
variable {t v:I64}{s:Str}
inductive TagW (R:Rd):Nat->Nat->Tk->Prop where
 | tt:TagW R 1 1 zgM
 | ff:TagW R 1 0 zd2
 | id {t v:Nat} (s:Str) (ht:3≤t) (h:R.tag s=some (t,v)):TagW R t v (1,s)
theorem TagW.aTag{t v:Nat}{w:Tk}(h:TagW R t v w){i:Nat}{L:List Tk}(ha:At R i (w::L)):R.aTag i= .ok (t,v) (i+1):=by
 cases h with
 | tt=>rw[Rd.aTag,oG (by rw[ha.isAt];rfl)]
 | ff=>rw[Rd.aTag,oH (by rw[ha.isAt];simp[isL]),oG (by rw[ha.isAt];rfl)]
 | id s ht h=>
   rw[Rd.aTag,oH (by rw[ha.isAt];simp[isL]),oH (by rw[ha.isAt];simp[isL]),Rd.id,oG (by rw[ha.kind];rfl),ha.txt]
   show(match R.tag s with
    | some tv=>PR.ok tv (i+1)
    | none=>PR.er (i+1-1) 6)=_
   rw[h]
theorem TagW.known{t v:Nat}{w:Tk}(h:TagW R t v w){i:Nat}(ha:At R i (w::L)):R.wanted t v true i= .ok () i:=by
 cases h with
 | tt=>rw[Rd.wanted,oG (by rw[ha.isAt];rfl),oH oC]
 | ff=>rw[Rd.wanted,oH (by rw[ha.isAt];simp[isL]),oG (by rw[ha.isAt];rfl),oH oC]
 | id s ht h=>
   rw[Rd.wanted,oH (by rw[ha.isAt];simp[isL]),oH (by rw[ha.isAt];simp[isL]),oH (by rw[ha.kind];simp[kiL]),ha.txt]
   show(match R.tag s with
    | some uw=>if true=true/\(uw.1≠t\/uw.2≠v)\/true=false/\uw.2≠0 then PR.er i 5 else PR.ok () i
    | none=>if true=true then PR.er i 5 else PR.ok () i)=_
   rw[h];simp only;rw[oH oC]
theorem TagW.first{t v:Nat}{w:Tk}(h:TagW R t v w)(hv:t=1/\v=1\/t≠1/\v=0){i:Nat}(ha:At R i (w::L)):
  R.wanted 0 (if R.isAt i [116,114,117,101]=true then 1 else 0) false i= .ok () i/\(if R.isAt i [116,114,117,101]=true then 1 else 0)=v:=by
 cases h with
 | tt=>
   have h1:R.isAt i [116,114,117,101]=true:=by rw[ha.isAt];rfl
   refine⟨?_,by rw[h1];rfl⟩;rw[h1,Rd.wanted,oG h1,oH oC]
 | ff=>simp at hv
 | id s ht h=>
   have hv0:v=0:=oA
   subst hv0;have h1:R.isAt i [116,114,117,101]=false:=by rw[ha.isAt];simp[isL]
   rw[Rd.wanted,oH (by rw[h1];simp),oH (by rw[ha.isAt];simp[isL]),oH (by rw[ha.kind];simp[kiL]),ha.txt,h1];refine⟨?_,rfl⟩
   show(match R.tag s with
    | some uw=>if false=true/\(uw.1≠0\/uw.2≠_)\/false=false/\uw.2≠0 then PR.er i 5 else PR.ok () i
    | none=>if false=true then PR.er i 5 else PR.ok () i)=_
   rw[h];simp only;rw[oH oC]
theorem ziz{t v:Nat}{w:Tk}(h:TagW R t v w){i:Nat}(ha:At R i (w::tL::(1,s)::tR::L)):R.sampling i= .ok ⟨s,toI t,toI v⟩ (i+4):=by
 rw[Rd.sampling,h.aTag ha];show(R.must [[40]] (i+1)).bind _=_;rw[zcz ha.tl rfl];show(R.id (i+1+1)).bind _=_;rw[Rd.id,oG (by rw[ha.tl.tl.kind];rfl),ha.tl.tl.txt];show(R.must [[41]] (i+1+1+1)).bind _=_;rw[zcz ha.tl.tl.tl rfl];rfl
theorem zBe{w:Tk}(h:PO R a A)(hw:TagW R t' v' w)(hk:k.1=8)(ho:o.1=0)(ht:t.1=t')(hv:v.1=v'):PE R (.mk k o t v s [a]) (A++[zk0,w,tL,(1,s),tR]):=by
 intro n i L hn ha he;have h1:1≤(A++[zk0,w,tL,(1,s),tR]).length:=oC
 have ha2:At R i (A++(zk0::w::tL::(1,s)::tR::L)):=by simpa using ha
 have hl:(A++[zk0,w,tL,(1,s),tR]).length=A.length+5:=oC
 obtain⟨q,hq⟩:∃q,R.K.length=q+2:=by
  have:=ha.len
  rw[qab,hl]at this;exact⟨R.K.length-2,oA⟩
 refine zeb (p:=6) (n0:=10*A.length+3) (qag _) h1 ha he (.inr (by rw[zc9 h.1.ne,h.1.nt])) (lev6 (n0:=10*A.length+2) fun m hm=>?_) n (by rw[hl]at hn;omega);obtain⟨m,rfl⟩:∃m',m=m'+1:=⟨m-1,oA⟩;have g1:R.isAt i [45]=false:=by rw[ha2.isAt,zc9 h.1.ne,h.1.mi]
 have g2:R.isAt i [112,114,101]=false:=by rw[ha2.isAt,zc9 h.1.ne,h.1.pr]
 rw[pF,oH (by rw[g1];simp),oH (by rw[g2];simp),h.2 m i _ oA ha2 ⟨rfl,rfl⟩];show R.whens R.K.length a (i+A.length)=_;rw[hq,Rd.whens,oG (by rw[ha2.app.isAt];rfl),ziz hw ha2.app.tl];show R.whens (q+1) (.mk (toI 8) (toI 0) (toI t') (toI v') s [a]) (i+A.length+1+4)=_;rw[Rd.whens,oH (by rw[ha2.app.tl.tl.tl.tl.tl.isAt,he.whn];simp),zdA hk,zdA ho,zdA ht,zdA hv,hl];exact oJ _ oA
def ArgW(R:Rd)(x:Ex×List Tk):Prop:=PE R x.1 x.2/\x.2≠ []/\isL x.2 [41]=false
def zgr(l:List (Ex×List Tk)):List Tk:=(l.map fun x=>zg9::x.2).flatten
def zhf:List (Ex×List Tk)->List Tk
 | []=>[]
 | x::l=>x.2++zgr l
theorem ze3(x:Ex×List Tk)(l:List (Ex×List Tk)):zgr (x::l)=zg9::(x.2++zgr l):=by simp[zgr]
theorem zlw:∀l:List (Ex×List Tk),l.length≤(zgr l).length
 | []=>qaM _
 | x::l=>by
   have:=zlw l
   rw[ze3];simp;omega
theorem zlv(h:EndE L):EndE (zgr l++L):=by
 cases l with
 | nil=>exact h
 | cons x l=>rw[ze3];exact EndE.cons oC
theorem zri:∀(l:List (Ex×List Tk)) (l0:List Ex) (i n m:Nat) (L:List Tk),(∀x∈l,ArgW R x)->10*(zgr l).length+10≤n->l.length≤m->At R i (zgr l++(tR::L))->
  R.args (pF R n .expr) m l0 i= .ok (l0++l.map Prod.fst) (i+(zgr l).length)
 | [],l0,i,n,m,L,_,_,_,ha=>by
   have ha:At R i (tR::L):=ha;cases m with
   | zero=>simp[Rd.args,zgr]
   | succ m=>rw[Rd.args,oH (by rw[ha.isAt];simp[isL])];simp[zgr]
 | x::l,l0,i,n,m,L,hx,hn,hm,ha=>by
   rw[ze3]at hn ha⊢;obtain⟨m,rfl⟩:∃m',m=m'+1:=⟨m-1,by simp at hm;omega⟩;have ha:At R i (zg9::(x.2++(zgr l++(tR::L)))):=by simpa using ha
   simp only[qae,qab]at hn hm⊢;have h1:=(hx x qah).1 n (i+1) _ oA ha.tl (zlv (EndE.cons oC));have h2:=zri l (l0++[x.1]) (i+1+x.2.length) n m L (fun y hy=>hx y (qai _ hy)) oA oA ha.tl.app;rw[Rd.args,oG (by rw[ha.isAt];rfl),h1];show R.args _ m (l0++[x.1]) _=_;exact zwdw
theorem zo2{i n:Nat}(hx:∀x∈l,ArgW R x)(hn:10*(zhf l).length+10≤n)(ha:At R i (zhf l++(tR::L))):
  (if R.isAt i [41]=true then .ok [] (i+1) else(pF R n .expr i).bind fun a j=>(R.args (pF R n .expr) R.K.length [a] j).bind fun l j=>(R.must [[41]] j).bind fun _ j=>.ok l j:PR (List Ex))= .ok (l.map Prod.fst) (i+(zhf l).length+1):=by
 cases l with
 | nil=>
   have ha:At R i (tR::L):=ha;rw[oG (by rw[ha.isAt];rfl)];rfl
 | cons x l=>
   rw[zhf]at hn ha⊢;rw[qay]at ha;obtain⟨g1,g2,g3⟩:=hx x qah;simp only[qab]at hn⊢
   have hk:l.length≤R.K.length:=by
    have:=ha.len
    have:=zlw l
    simp only[qab]at *;omega
   rw[oH (by rw[ha.isAt,zc9 g2,g3];simp),g1 n i _ oA ha (zlv (EndE.cons oC))];show(R.args _ R.K.length [x.1] _).bind _=_;rw[zri l [x.1] _ n R.K.length L (fun y hy=>hx y (qai _ hy)) oA hk ha.app];show(R.must [[41]] _).bind _=_;rw[zcz ha.app.app rfl];show PR.ok ([x.1]++l.map Prod.fst) _=_;simp only[qaf,qb4];congr 1;omega
theorem zBc(hx:∀x∈l,ArgW R x)(hk:k.1=10)(ho:o.1=0)(ht:t.1=0)(hv:v.1=0):PO R (.mk k o t v s (l.map Prod.fst)) ((1,s)::tL::(zhf l++[tR])):=by
 refine⟨⟨oC,rfl,rfl,rfl⟩,fun n i L hn ha he=>?_⟩;obtain⟨m,rfl⟩:∃m,n=m+1:=⟨n-1,oA⟩;have ha:At R i ((1,s)::tL::(zhf l++(tR::L))):=by simpa using ha
 simp only[qae,qab,qal]at hn⊢;rw[zem ha,oG (show isL (tL::_) [40]=true from rfl),Rd.call,zo2 hx oA ha.tl.tl];show(if R.isAt _ [101,118,101,114,121]=true then _ else PR.ok (mkE 10 0 0 0 s (l.map Prod.fst)) _)=_;rw[oH (by rw[ha.tl.tl.app.tl.isAt,he.every];simp),zcq hk ho ht hv];congr 1;omega
theorem zzO{b:Ex}(hx:∀x∈l,ArgW R x)(hb:PO R b B)(hk:k.1=10)(ho:o.1=0)(ht:t.1=0)(hv:v.1=1):
  PO R (.mk k o t v s (l.map Prod.fst++[b])) ((1,s)::tL::(zhf l++tR::zmK::B)):=by
 refine⟨⟨oC,rfl,rfl,rfl⟩,fun n i L hn ha he=>?_⟩;obtain⟨m,rfl⟩:∃m,n=m+1:=⟨n-1,oA⟩;have ha:At R i ((1,s)::tL::(zhf l++(tR::zmK::(B++L)))):=by simpa using ha
 simp only[qae,qab]at hn⊢;rw[zem ha,oG (show isL (tL::_) [40]=true from rfl),Rd.call,zo2 hx oA ha.tl.tl];show(if R.isAt _ [101,118,101,114,121]=true then(pF R m .prim _).bind _ else _)=_;rw[oG (by rw[ha.tl.tl.app.tl.isAt];rfl),hb.2 m _ L oA ha.tl.tl.app.tl.tl he];show PR.ok (mkE 10 0 0 1 s (l.map Prod.fst++[b])) _=_;rw[zcq hk ho ht hv];congr 1;omega
def brTk(x:Tk×List Tk):List Tk:=tL::x.1::tArr::(x.2++[tR])
theorem zfL{w:Tk}{n i t v:Nat}{known:Bool}(h:PE R e A)(hn:10*A.length+10≤n)(ha:At R i (brTk (w,A)++L))(hw:TagW R t' v' w)
  (hwa:R.wanted t v known (i+1)= .ok () (i+1))(hkn:known=true->t=t'):R.branch (pF R n .expr) t v known i= .ok (t',e) (i+(brTk (w,A)).length):=by
 have ha:At R i (tL::w::tArr::(A++(tR::L))):=by simpa [brTk]using ha
 rw[Rd.branch,zcz ha rfl];show(R.wanted t v known (i+1)).bind _=_;rw[hwa];show(R.aTag (i+1)).bind _=_;rw[hw.aTag ha.tl];show(if known=true/\t'≠t then _ else(R.must [[45,62]] (i+1+1)).bind _)=_;rw[oH (fun hc=>hc.2 (hkn hc.1).symm),zcz ha.tl.tl rfl];show(pF R n .expr _).bind _=_;rw[h n _ _ hn ha.tl.tl.tl (EndE.cons oC)];show(R.must [[41]] _).bind _=_;rw[zcz ha.tl.tl.tl.app rfl];show PR.ok (t',e) _=_;congr 1;simp[brTk];omega
abbrev Brn:=Ex×Tk×List Tk
def zdG(l:List Brn):List Tk:=(l.map fun x=>brTk x.2).flatten
theorem zp8(x:Brn)(l:List Brn):zdG (x::l)=brTk x.2++zdG l:=by simp[zdG]
theorem zhV(e:Ex)(w:Tk)(A:List Tk)(l:List Brn):zdG ((e,w,A)::l)=brTk (w,A)++zdG l:=zp8 _ _
theorem zhX{t size n:Nat}(ht:t≠1):∀(l:List Brn) (pre:List Ex) (i m:Nat) (L:List Tk),(∀x∈l,PE R x.1 x.2.2)->(∀j (h:j<l.length),TagW R t (pre.length+j) l[j].2.1)->pre.length+l.length=size->
  10*(zdG l).length+10≤n->l.length≤m->At R i (zdG l++L)->
  R.branches (pF R n .expr) t size m pre.length (pre++List.replicate l.length noE) i= .ok (pre++l.map Prod.fst) (i+(zdG l).length)
 | [],pre,i,m,L,_,_,hs,_,_,ha=>by
   cases m with
   | zero=>simp[Rd.branches,zdG]
   | succ m=>
     simp at hs;rw[Rd.branches,oG oA];simp[zdG]
 | (e1,w1,A1)::l,pre,i,m,L,hx,hw,hs,hn,hm,ha=>by
   rw[zhV]at hn ha⊢;simp only[qae,qab]at hs hn hm⊢;obtain⟨m,rfl⟩:∃m',m=m'+1:=⟨m-1,oA⟩;rw[qay]at ha;have hb:(brTk (w1,A1)).length=A1.length+4:=by simp[brTk]
   have hw0:TagW R t pre.length w1:=by have:=hw 0 oC;simpa using this
   have ha1:At R (i+1) (w1::tArr::(A1++[tR]++(zdG l++L))):=by
    have:At R i (tL::(w1::tArr::(A1++[tR]++(zdG l++L)))):=by simpa [brTk]using ha
    exact this.tl
   have hx1:PE R e1 A1:=hx _ qah;have h1:=zfL (v:=pre.length) (known:=true) hx1 (n:=n) oA ha hw0 (hw0.known ha1) (fun _=>rfl)
   have h2:=zhX (n:=n) (size:=size) ht l (pre++[e1]) (i+(brTk (w1,A1)).length) m L (fun y hy=>hx y (qai _ hy)) (fun j h=>by
    have:=hw (j+1) oF
    rw[qab,qb2];simpa [qa1,qck 1 j]using this) oF oA oA ha.app
   rw[Rd.branches,oH oA,oH ht,h1];show R.branches _ t size m (pre.length+1) _ _=_
   have hset:(pre++List.replicate (l.length+1) noE).set pre.length e1=(pre++[e1])++List.replicate l.length noE:=by
    rw[qbS _ _ (qag _),qb6];simp[qbN]
   show R.branches _ t size m (pre.length+1) ((pre++List.replicate (l.length+1) noE).set pre.length e1) _=_;rw[hset];rw[qab,qb2]at h2;exact zwdw
theorem ziu{i:Nat}{s:Str}(ha:At R i (zgi::(1,s)::L)):pF R (m+1) .prim i=(R.branch (pF R m .expr) 0 (if R.isAt (i+2+1) [116,114,117,101]=true then 1 else 0) false (i+2)).bind fun te j=>
  (R.branches (pF R m .expr) te.1 (R.size te.1) (R.size te.1) 1 ((List.replicate (R.size te.1) noE).set (if R.isAt (i+2+1) [116,114,117,101]=true then 1 else 0) te.2) j).bind fun l j=>.ok (mkE 9 0 te.1 0 s l) j:=by
 rw[pF,Rd.prim,oH (by rw[ha.neg];simp[isL])];iterate 7 rw[oH (by first|(rw[ha.isAt];simp[isL];done)|(rw[ha.kind];simp[kiL];done))]
 rw[oG (by rw[ha.isAt];rfl),Rd.merge,Rd.id,oG (by rw[ha.tl.kind];rfl),ha.tl.txt];rfl
theorem zzQ{e1:Ex}{w1:Tk}{A1:List Tk}{l:List Brn}(ht1:t'≠1)(hsz:R.size t'=((e1,w1,A1)::l).length)(hx:∀y∈(e1,w1,A1)::l,PE R y.1 y.2.2)(hw:∀j (h:j<((e1,w1,A1)::l).length),TagW R t' j ((e1,w1,A1)::l)[j].2.1)
  (hk:k.1=9)(ho:o.1=0)(ht:t.1=t')(hv:v.1=0):PQ R (.mk k o t v s (((e1,w1,A1)::l).map Prod.fst)) (zgi::(1,s)::zdG ((e1,w1,A1)::l)):=by
 refine⟨⟨oC,rfl,rfl,rfl⟩,fun n i L hn ha he=>?_⟩;obtain⟨m,rfl⟩:∃m,n=m+1:=⟨n-1,oA⟩;rw[zhV]at ha hn⊢;have ha:At R i (zgi::(1,s)::(brTk (w1,A1)++(zdG l++L))):=by simpa using ha
 simp only[qae,qab]at hn⊢;have hb:(brTk (w1,A1)).length=A1.length+4:=by simp[brTk]
 have hw0:TagW R t' 0 w1:=hw 0 oC
 have ha1:At R (i+2+1) (w1::tArr::(A1++[tR]++(zdG l++L))):=by
  have:At R (i+2) (tL::(w1::tArr::(A1++[tR]++(zdG l++L)))):=by simpa [brTk]using ha.tl.tl
  exact this.tl
 obtain⟨f1,f2⟩:=hw0.first (.inr ⟨ht1,rfl⟩) ha1;have h1:=zfL (known:=false) (show PE R e1 A1 from hx _ qah) (n:=m) oA (show At R (i+2) _ from ha.tl.tl) hw0 f1 (fun h=>by cases h)
 have h2:=zhX (n:=m) (size:=R.size t') ht1 l [e1] (i+2+(brTk (w1,A1)).length) (R.size t') L (fun y hy=>hx y (qai _ hy)) (fun j h=>by
   have:=hw (j+1) oF
   simpa [qck 1 j]using this) (by rw[hsz];simp;omega) oA (by rw[hsz];simp) (show At R (i+2+(brTk (w1,A1)).length) _ from At.app (i:=i+2) ha.tl.tl)
 rw[ziu ha,h1];show(R.branches _ t' (R.size t') (R.size t') 1 ((List.replicate (R.size t') noE).set _ e1) _).bind _=_;rw[f2]
 have hset:(List.replicate (R.size t') noE).set 0 e1=[e1]++List.replicate l.length noE:=by
  rw[hsz];simp[qbN]
 rw[hset];have h2':R.branches (pF R m .expr) t' (R.size t') (R.size t') 1 ([e1]++List.replicate l.length noE) (i+2+(brTk (w1,A1)).length)=_:=h2;rw[h2'];show PR.ok (mkE 9 0 t' 0 s ([e1]++l.map Prod.fst)) _=_;rw[zcq hk ho ht hv];simp only[qaf,qb4];congr 1;omega
theorem zx3{b:Ex}(ha':PE R a A)(hb':PE R b B)(hk:k.1=9)(ho:o.1=0)(ht:t.1=1)(hv:v.1=0):PQ R (.mk k o t v s [b,a]) (zgi::(1,s)::(brTk (zgM,A)++brTk (zd2,B))):=by
 refine⟨⟨oC,rfl,rfl,rfl⟩,fun n i L hn ha he=>?_⟩;obtain⟨m,rfl⟩:∃m,n=m+1:=⟨n-1,oA⟩;have ha:At R i (zgi::(1,s)::(brTk (zgM,A)++(brTk (zd2,B)++L))):=by simpa using ha
 simp only[qae,qab]at hn⊢;have hA:(brTk (zgM,A)).length=A.length+4:=by simp[brTk]
 have hB:(brTk (zd2,B)).length=B.length+4:=by simp[brTk]
 have ha1:At R (i+2+1) (zgM::tArr::(A++[tR]++(brTk (zd2,B)++L))):=by
  have:At R (i+2) (tL::(zgM::tArr::(A++[tR]++(brTk (zd2,B)++L)))):=by simpa [brTk]using ha.tl.tl
  exact this.tl
 have ha3:At R (i+2+(brTk (zgM,A)).length) (brTk (zd2,B)++L):=At.app (i:=i+2) ha.tl.tl
 have ha4:At R (i+2+(brTk (zgM,A)).length+1) (zd2::tArr::(B++[tR]++L)):=by
  have:At R (i+2+(brTk (zgM,A)).length) (tL::(zd2::tArr::(B++[tR]++L))):=by simpa [brTk]using ha3
  exact this.tl
 obtain⟨f1,f2⟩:=(TagW.tt (R:=R)).first (.inl ⟨rfl,rfl⟩) ha1
 have h1:=zfL (known:=false) ha' (n:=m) oA (show At R (i+2) _ from ha.tl.tl) .tt f1 (fun h=>by cases h);have h2:=zfL (t:=1) (v:=0) (known:=true) hb' (n:=m) oA ha3 .ff (TagW.ff.known ha4) (fun _=>rfl);rw[ziu ha,h1,f2];show(R.branches _ 1 2 2 1 [noE,a] _).bind _=_;rw[Rd.branches,oH oB];show((R.branch _ 1 0 true _).bind _).bind _=_;rw[h2];show(R.branches _ 1 2 1 2 [b,a] _).bind _=_;rw[Rd.branches,oG oB];show PR.ok (mkE 9 0 1 0 s [b,a]) _=_;rw[zcq hk ho ht hv];congr 1;omega
end
theorem zuM(A:Str)(c:UInt8):numV (A++[c])=10*numV A+((c.toNat:Int)-48):=by
 unfold numV;rw[qbJ];rfl
theorem zpq(u:Nat):numV (Go.Lib.decDigits u)=u:=by
 induction u using Nat.strongRecOn with
 | _ u ih=>
   by_cases h:u<10
   ·rw[Go.Lib.decDigits,dif_pos h];show 10*0+(((UInt8.ofNat (48+u)).toNat:Int)-48)=u;rw[UInt8.toNat_ofNat'];omega
   ·rw[Go.Lib.decDigits,dif_neg h,zuM,ih (u / 10) oA,UInt8.toNat_ofNat'];omega
def zhn(e:Ex):Bool:=decide (e.kind.1=2\/e.kind.1=11\/e.kind.1=10\/e.kind.1=1/\(e.t.1≠2\/0≤e.v.1))
def tkO(f:Ex->List Tk)(e:Ex):List Tk:=if zhn e=true then f e else tL::(f e++[tR])
def opTk(o:Int):Tk:=
 if o=3 then(3,[97,110,100]) else if o=4 then(3,[111,114]) else if o=5 then(3,[120,111,114]) else if o=6 then(4,[43]) else if o=7 then(4,[45]) else if o=8 then(4,[42]) else if o=9 then(4,[47])
 else if o=10 then(3,[109,111,100]) else if o=11 then(4,[61]) else if o=12 then(4,[60,62]) else if o=13 then(4,[60]) else if o=14 then(4,[60,61]) else if o=15 then(4,[62]) else(4,[62,61])
def zj3(f:Ex->List Tk)(o:Int):List Ex->List Tk
 | [a]=>if o=1 then tNot::tkO f a else if a.kind.1=1/\a.t.1=2 then zeY::tL::(f a++[tR]) else zeY::tkO f a
 | [a,b]=>tkO f a++opTk o::tkO f b
 | _=>[]
def tgTk(es:List En)(t v:Int):Tk:=if t=1 then(if v=1 then zgM else zd2) else(1,((zaL es t).1.tags[v.toNat]?).getD [])
def vlTk(es:List En)(t v:Int):List Tk:=if t=2 then(if v<0 then[zeY,(2,Go.Lib.decDigits v.natAbs)] else[(2,Go.Lib.decDigits v.toNat)]) else[tgTk es t v]
def brL(es:List En)(f:Ex->List Tk)(t:Int)(args:List Ex):List Brn:=
 if t=1 then(match args with
  | [b,a]=>[(a,zgM,f a),(b,zd2,f b)]
  | _=>[])
 else args.zipIdx.map fun x=>(x.1,tgTk es t x.2,f x.1)
def zpP(f:Ex->List Tk)(v:Int)(nm:Str)(args:List Ex):List Tk:=
 if v=1 then(1,nm)::tL::(zhf ((args.take (args.length-1)).map fun x=>(x,f x))++tR::zmK::((args[args.length-1]?).map (tkO f)).getD [])
 else(1,nm)::tL::(zhf (args.map fun x=>(x,f x))++[tR])
def tkE(es:List En)(f:Ex->List Tk)(e:Ex):List Tk:=
 if e.kind.1=1 then vlTk es e.t.1 e.v.1
 else if e.kind.1=3 then zj3 f e.op.1 e.args
 else if e.kind.1=4 then(match e.args with|[a,b,c]=>tIf::(f a++ziO::(f b++zqZ::f c))|_=>[])
 else if e.kind.1=5 then(match e.args with|[a]=>tPre::tkO f a|_=>[])
 else if e.kind.1=6 then(match e.args with|[a,b]=>tkO f a++tArr::tkO f b|_=>[])
 else if e.kind.1=7 then(match e.args with|[a,b]=>tkO f a++tFby::tkO f b|_=>[])
 else if e.kind.1=8 then(match e.args with|[a]=>tkO f a++[zk0,tgTk es e.t.1 e.v.1,tL,(1,e.name),tR]|_=>[])
 else if e.kind.1=9 then zgi::(1,e.name)::zdG (brL es f e.t.1 e.args)
 else if e.kind.1=10 then zpP f e.v.1 e.name e.args
 else if e.kind.1=11 then[(5,e.name)]
 else[(1,e.name)]
def tkF(es:List En):Nat->Ex->List Tk
 | 0,_=>[]
 | m+1,e=>tkE es (tkF es m) e
structure NdW (R:Rd) (e:Ex):Prop where
 kind:1≤e.kind.1/\e.kind.1≤11
 op:e.kind.1≠3->e.op.1=0
 o3:e.kind.1=3->1≤e.op.1/\e.op.1≤16/\(e.args.length:Int)=opdI e.op.1
 t0:e.kind.1≠1->e.kind.1≠8->e.kind.1≠9->e.t.1=0
 v0:e.kind.1≠1->e.kind.1≠8->e.kind.1≠10->e.v.1=0
 nm:e.kind.1=1\/e.kind.1=3\/e.kind.1=4\/e.kind.1=5\/e.kind.1=6\/e.kind.1=7->e.name=[]
 a0:e.kind.1=1\/e.kind.1=2\/e.kind.1=11->e.args=[]
 k4:e.kind.1=4->e.args.length=3
 k5:e.kind.1=5\/e.kind.1=8->e.args.length=1
 k6:e.kind.1=6\/e.kind.1=7->e.args.length=2
 c1:e.kind.1=1->(e.t.1=2/\-32768≤e.v.1/\e.v.1≤32767)\/e.t.1≠2/\∃t' v':Nat,e.t.1=t'/\e.v.1=v'/\TagW R t' v' (tgTk R.es e.t.1 e.v.1)
 var:e.kind.1=2->R.tag e.name=none
 c8:e.kind.1=8->∃t' v':Nat,e.t.1=t'/\e.v.1=v'/\TagW R t' v' (tgTk R.es e.t.1 e.v.1)
 c9:e.kind.1=9->(e.t.1=1/\e.args.length=2)\/∃t':Nat,e.t.1=t'/\t'≠1/\R.size t'=e.args.length/\1≤e.args.length/\∀j,j<e.args.length->TagW R t' j (tgTk R.es t' j)
 c10:e.kind.1=10->(e.v.1=0\/e.v.1=1)/\e.v.1≤e.args.length
theorem opW1{w:Tk}{o:Int}(hp:p=0\/p=1\/p=3\/p=4\/p=5)(hk:w.1=3\/w.1=4)(h3:zir p w.2=some o)(h4:∀q,q<6->p<q->zir q w.2=none\/q=2)(h5:w.2 ∉ ([[101,118,101,114,121],[40],[119,104,101,110]]:List Str)):OpW w p o:=by
 obtain⟨a,b⟩:=w;simp only[qa5,qbW,or_false,not_or]at h5;obtain⟨g1,g2,g3⟩:=h5
 have hk':∀L,(kiL ((a,b)::L) 3 || kiL ((a,b)::L) 4)=true:=fun L=>by
  simp only[kiL];rcases hk with rfl|rfl <;> rfl
 refine⟨hp,fun L=>?_,fun q L hq6 hq=>?_,fun L=>⟨⟨?_,?_⟩,?_⟩⟩
 ·unfold opLv;rw[oG (hk' L)];exact h3
 ·rcases h4 q hq6 hq with h|h
  ·left;unfold opLv;rw[oG (hk' L)];exact h
  ·exact .inr h
 ·simp[isL];intro _;exact g1
 ·simp[isL];intro _;exact g2
 ·simp[isL];intro _;exact g3
theorem opW{o:Int}(h1:3≤o)(h2:o≤16):∃p,OpW (opTk o) p o:=by
 have:o=3\/o=4\/o=5\/o=6\/o=7\/o=8\/o=9\/o=10\/o=11\/o=12\/o=13\/o=14\/o=15\/o=16:=oA
 rcases this with rfl|rfl|rfl|rfl|rfl|rfl|rfl|rfl|rfl|rfl|rfl|rfl|rfl|rfl
 ·exact⟨1,opW1 oB oB oB oB oB⟩
 iterate 2 exact⟨0,opW1 oB oB oB oB oB⟩
 iterate 2 exact⟨4,opW1 oB oB oB oB oB⟩
 iterate 3 exact⟨5,opW1 oB oB oB oB oB⟩
 iterate 6 exact⟨3,opW1 oB oB oB oB oB⟩
structure zt0 (R:Rd) (e:Ex) (T O:List Tk):Prop where
 pe:PE R e T
 po:PO R e O
 ne:T≠ []
 cl:isL T [41]=false
 nu:e.kind.1=1/\e.t.1=2\/kiL O 2=false
theorem zga(h:PO R e (f e))(hc:isL (f e) [41]=false)(hn:e.kind.1=1/\e.t.1=2\/kiL (f e) 2=false):zt0 R e (f e) (tkO f e):=by
 unfold tkO;split
 ·exact⟨h.pe,h,h.1.ne,hc,hn⟩
 ·exact⟨h.pe,rBr h.pe,h.1.ne,hc,.inr rfl⟩
theorem zcj(h:PE R e (f e))(hp:zhn e=false)(hn:f e≠ [])(hc:isL (f e) [41]=false):zt0 R e (f e) (tkO f e):=by
 unfold tkO;rw[oH (by rw[hp];simp)];exact⟨h,rBr h,hn,hc,.inr rfl⟩
section
variable {es:List En}{f:Ex->List Tk}{e:Ex}
theorem tkE1(h:e.kind.1=1):tkE es f e=vlTk es e.t.1 e.v.1:=by
 rw[tkE,oG h]
theorem tkE2(h:e.kind.1=2):tkE es f e=[(1,e.name)]:=by
 rw[tkE];(iterate 10 rw[oH (by rw[h];decide)])
theorem tkE3(h:e.kind.1=3):tkE es f e=zj3 f e.op.1 e.args:=by
 rw[tkE,oH (by rw[h];decide),oG h]
theorem tkE4(h:e.kind.1=4):tkE es f e=(match e.args with|[a,b,c]=>tIf::(f a++ziO::(f b++zqZ::f c))|_=>[]):=by
 rw[tkE,oH (by rw[h];decide),oH (by rw[h];decide),oG h];all_goals rfl
theorem tkE5(h:e.kind.1=5):tkE es f e=(match e.args with|[a]=>tPre::tkO f a|_=>[]):=by
 rw[tkE];(iterate 3 rw[oH (by rw[h];decide)]);rw[oG h]
 all_goals rfl
theorem tkE6(h:e.kind.1=6):tkE es f e=(match e.args with|[a,b]=>tkO f a++tArr::tkO f b|_=>[]):=by
 rw[tkE];(iterate 4 rw[oH (by rw[h];decide)]);rw[oG h]
 all_goals rfl
theorem tkE7(h:e.kind.1=7):tkE es f e=(match e.args with|[a,b]=>tkO f a++tFby::tkO f b|_=>[]):=by
 rw[tkE];(iterate 5 rw[oH (by rw[h];decide)]);rw[oG h]
 all_goals rfl
theorem tkE8(h:e.kind.1=8):tkE es f e=(match e.args with|[a]=>tkO f a++[zk0,tgTk es e.t.1 e.v.1,tL,(1,e.name),tR]|_=>[]):=by
 rw[tkE];(iterate 6 rw[oH (by rw[h];decide)]);rw[oG h]
 all_goals rfl
theorem tkE9(h:e.kind.1=9):tkE es f e=zgi::(1,e.name)::zdG (brL es f e.t.1 e.args):=by
 rw[tkE];(iterate 7 rw[oH (by rw[h];decide)]);rw[oG h]
theorem zAd(h:e.kind.1=10):tkE es f e=zpP f e.v.1 e.name e.args:=by
 rw[tkE];(iterate 8 rw[oH (by rw[h];decide)]);rw[oG h]
theorem zAe(h:e.kind.1=11):tkE es f e=[(5,e.name)]:=by
 rw[tkE];(iterate 9 rw[oH (by rw[h];decide)]);rw[oG h]
theorem zwU{t v:Int}(h:t=2)(hv:v<0):vlTk es t v=[zeY,(2,Go.Lib.decDigits v.natAbs)]:=by unfold vlTk;rw[oG h,oG hv]
theorem zwV{t v:Int}(h:t=2)(hv:¬v<0):vlTk es t v=[(2,Go.Lib.decDigits v.toNat)]:=by unfold vlTk;rw[oG h,oH hv]
theorem zwW{t v:Int}(h:t≠2):vlTk es t v=[tgTk es t v]:=by unfold vlTk;rw[oH h]
theorem zpu{o:Int}(h:o=1):zj3 f o [a]=tNot::tkO f a:=oG h
theorem zmi{o:Int}(h:o≠1)(h2:a.kind.1=1/\a.t.1=2):zj3 f o [a]=zeY::tL::(f a++[tR]):=(oH h).trans (oG h2)
theorem zmj{o:Int}(h:o≠1)(h2:¬(a.kind.1=1/\a.t.1=2)):zj3 f o [a]=zeY::tkO f a:=(oH h).trans (oH h2)
theorem zfB{n:Int}(h:e.kind.1=n)(hn:n≠1)(h2:n≠2)(h3:n≠11)(h4:n≠10):zhn e=false:=by
 unfold zhn;rw[h];simp[hn,h2,h3,h4]
theorem zvU{T:List Tk}(hs:StG T)(hc:isL T [41]=false)(L:List Tk):isL (T++L) [41]=false:=by rw[zc9 hs.ne,hc]
theorem zwQ(h:isL (f e) [41]=false):isL (tkO f e) [41]=false:=by
 unfold tkO;split
 ·exact h
 ·rfl
theorem zpv {R:Rd}:∀(m:Nat) (e:Ex),wEx e≤m->(∀x∈flat e,NdW R x)->zt0 R e (tkF R.es m e) (tkO (tkF R.es m) e)
 | 0,e,h,_=>oI (zcG e) oA
 | m+1,e,h,hN=>by
   have ih:∀x∈e.args,zt0 R x (tkF R.es m x) (tkO (tkF R.es m) x):=fun x hx=>zpv m x (by
    rw[zgk]at h
    have:=ziN wEx hx
    omega) (fun y hy=>hN y (by
     rw[zb2];refine qai _ ?_;unfold flats;exact qbR.2 ⟨flat x,qaL.2 ⟨x,hx,rfl⟩,hy⟩))
   have hn:NdW R e:=hN e (by rw[zb2];exact qah);clear hN h;have hF:tkF R.es (m+1) e=tkE R.es (tkF R.es m) e:=rfl;generalize tkF R.es (m+1)=g at*;generalize tkF R.es m=f at*;obtain⟨k,o,t,v,s,args⟩:=e;obtain⟨nk,nop,no3,nt0,nv0,nnm,na0,nk4,nk5,nk6,nc1,nvar,nc8,nc9,nc10⟩:=hn;dsimp only[Ex.kind,Ex.op,Ex.t,Ex.v,Ex.name,Ex.args]at*;have hk:k.1=1\/k.1=2\/k.1=3\/k.1=4\/k.1=5\/k.1=6\/k.1=7\/k.1=8\/k.1=9\/k.1=10\/k.1=11:=oA
   rcases hk with hk|hk|hk|hk|hk|hk|hk|hk|hk|hk|hk
   ·rw[tkE1 (e:=.mk k o t v s args) hk]at hF;have hs:=nnm oA;have hA:=na0 oA;subst hs hA;have ho:=nop oA;rcases nc1 hk with ⟨ht,hv1,hv2⟩|⟨ht,t',v',h1,h2,hw⟩
    ·by_cases hv:v.1<0
     ·replace hF:=hF.trans (zwU (es:=R.es) (t:=t.1) (v:=v.1) ht hv);refine zcj (f:=g) ?_ ?_ (by rw[hF];simp) (by rw[hF];rfl)
      ·rw[hF];exact zzR hk ho ht (by rw[zpq];omega)
      ·refine decide_eq_false ?_;show ¬(k.1=2\/k.1=11\/k.1=10\/k.1=1/\(t.1≠2\/0≤v.1));omega
     ·replace hF:=hF.trans (zwV (es:=R.es) (t:=t.1) (v:=v.1) ht hv);refine zga (f:=g) ?_ (by rw[hF];rfl) (.inl ⟨hk,ht⟩);rw[hF];exact rInt hk ho ht (by rw[zpq];omega) hv2
    ·replace hF:=hF.trans (zwW (es:=R.es) (t:=t.1) (v:=v.1) ht);generalize tgTk R.es t.1 v.1=w at*;refine zga (f:=g) ?_ ?_ ?_ <;> rw[hF]
     ·cases hw with
      | tt=>exact zBd hk ho h1 h2
      | ff=>exact zzP hk ho h1 h2
      | id s h3 h4=>exact rTag hk ho h1 h2 h4
     ·cases hw <;> rfl
     ·right;cases hw <;> rfl
   ·rw[tkE2 (e:=.mk k o t v s args) hk]at hF;have hA:=na0 oA;subst hA;refine zga (f:=g) ?_ ?_ ?_ <;> rw[hF]
    ·exact rVar hk (nop oA) (nt0 oA oA oA) (nv0 oA oA oA) (nvar hk)
    ·rfl
    ·exact .inr rfl
   ·rw[tkE3 (e:=.mk k o t v s args) hk]at hF;have hs:=nnm oA;subst hs;have ht:=nt0 oA oA oA;have hv:=nv0 oA oA oA;obtain⟨o1,o2,o3⟩:=no3 hk;have hp:zhn (.mk k o t v [] args)=false:=zfB hk oB oB oB oB;unfold opdI at o3;dsimp only[Ex.op,Ex.args]at hF
    match args,ih,o3,hF,hp with
    | [],_,o3,_,_=>exfalso;split at o3 <;> simp at o3
    | [a],ih,o3,hF,hp=>
      have ia:=ih a oC;by_cases h1:o.1=1
      ·replace hF:=hF.trans (zpu h1);refine zcj (f:=g) ?_ hp ?_ ?_ <;> rw[hF]
       ·exact rNot ia.po hk h1 ht hv
       ·simp
       ·rfl
      ·have h2:o.1=2:=by
        split at o3
        ·omega
        ·simp at o3
       by_cases h3:a.kind.1=1/\a.t.1=2
       ·replace hF:=hF.trans (zmi h1 h3);refine zcj (f:=g) ?_ hp ?_ ?_ <;> rw[hF]
        ·exact rNeg (rBr ia.pe) rfl hk h2 ht hv
        ·simp
        ·rfl
       ·replace hF:=hF.trans (zmj h1 h3);refine zcj (f:=g) ?_ hp ?_ ?_ <;> rw[hF]
        ·exact rNeg ia.po (ia.nu.resolve_left h3) hk h2 ht hv
        ·simp
        ·rfl
    | [a,b],ih,o3,hF,hp=>
      have ia:=ih a oC;have ib:=ih b oC
      have h3:3≤o.1:=by
       split at o3
       ·simp at o3
       ·omega
      obtain⟨p,hw⟩:=opW h3 o2;unfold zj3 at hF;refine zcj (f:=g) ?_ hp ?_ ?_ <;> rw[hF]
      ·exact rBin ia.po ib.po hw hk ht hv
      ·simp
      ·exact zvU ia.po.1 (zwQ ia.cl) _
    | _::_::_::_,_,o3,_,_=>exfalso;simp at o3;split at o3 <;> omega
   ·rw[tkE4 (e:=.mk k o t v s args) hk]at hF;have hs:=nnm oA;subst hs;have ht:=nt0 oA oA oA;have hv:=nv0 oA oA oA;have hl:=nk4 hk;have hp:zhn (.mk k o t v [] args)=false:=zfB hk oB oB oB oB;dsimp only[Ex.args]at hF
    match args,ih,hl,hF,hp with
    | [c,a,b],ih,_,hF,hp=>
      dsimp only at hF;refine zcj (f:=g) ?_ hp ?_ ?_ <;> rw[hF]
      ·exact(rIf (ih c oC).pe (ih a oC).pe (ih b oC).pe hk (nop oA) ht hv).pe
      ·simp
      ·rfl
   ·rw[tkE5 (e:=.mk k o t v s args) hk]at hF;have hs:=nnm oA;subst hs;have ht:=nt0 oA oA oA;have hv:=nv0 oA oA oA;have hl:=nk5 (.inl hk);have hp:zhn (.mk k o t v [] args)=false:=zfB hk oB oB oB oB;dsimp only[Ex.args]at hF
    match args,ih,hl,hF,hp with
    | [a],ih,_,hF,hp=>
      dsimp only at hF;refine zcj (f:=g) ?_ hp ?_ ?_ <;> rw[hF]
      ·exact rPre (ih a oC).po hk (nop oA) ht hv
      ·simp
      ·rfl
   ·rw[tkE6 (e:=.mk k o t v s args) hk]at hF;have hs:=nnm oA;subst hs;have ht:=nt0 oA oA oA;have hv:=nv0 oA oA oA;have hl:=nk6 (.inl hk);have hp:zhn (.mk k o t v [] args)=false:=zfB hk oB oB oB oB;dsimp only[Ex.args]at hF
    match args,ih,hl,hF,hp with
    | [a,b],ih,_,hF,hp=>
      dsimp only at hF;refine zcj (f:=g) ?_ hp ?_ ?_ <;> rw[hF]
      ·exact rSeq (ih a oC).po (ih b oC).po (.inl ⟨rfl,hk⟩) (nop oA) ht hv
      ·simp
      ·exact zwez
   ·rw[tkE7 (e:=.mk k o t v s args) hk]at hF;have hs:=nnm oA;subst hs;have ht:=nt0 oA oA oA;have hv:=nv0 oA oA oA;have hl:=nk6 (.inr hk);have hp:zhn (.mk k o t v [] args)=false:=zfB hk oB oB oB oB;dsimp only[Ex.args]at hF
    match args,ih,hl,hF,hp with
    | [a,b],ih,_,hF,hp=>
      dsimp only at hF;refine zcj (f:=g) ?_ hp ?_ ?_ <;> rw[hF]
      ·exact rSeq (ih a oC).po (ih b oC).po (.inr ⟨rfl,hk⟩) (nop oA) ht hv
      ·simp
      ·exact zwez
   ·rw[tkE8 (e:=.mk k o t v s args) hk]at hF;have hl:=nk5 (.inr hk);have hp:zhn (.mk k o t v s args)=false:=zfB hk oB oB oB oB;obtain⟨t',v',h1,h2,hw⟩:=nc8 hk;dsimp only[Ex.args,Ex.t,Ex.v,Ex.name]at hF
    match args,ih,hl,hF,hp with
    | [a],ih,_,hF,hp=>
      dsimp only at hF;refine zcj (f:=g) ?_ hp ?_ ?_ <;> rw[hF]
      ·exact zBe (ih a oC).po hw hk (nop oA) h1 h2
      ·simp
      ·exact zwez
   ·rw[tkE9 (e:=.mk k o t v s args) hk]at hF;have hv:=nv0 oA oA oA;have ho:=nop oA;have hp:zhn (.mk k o t v s args)=false:=zfB hk oB oB oB oB;dsimp only[Ex.args,Ex.t,Ex.name]at hF;refine zcj (f:=g) ?_ hp ?_ ?_ <;> rw[hF]
    ·rcases nc9 hk with ⟨ht,hl⟩|⟨t',ht,ht1,hsz,hl,hw⟩
     ·unfold brL;rw[oG ht]
      match args,ih,hl with
      | [b,a],ih,_=>
        have:=(zx3 (s:=s) (ih a oC).pe (ih b oC).pe hk ho ht hv).pe
        simpa [zdG]using this
     ·unfold brL;rw[oH oA]
      match args,ih,hl,hsz,hw with
      | x::l,ih,_,hsz,hw=>
        have hm:((x::l).zipIdx.map fun y=>((y.1,tgTk R.es t.1 y.2,f y.1):Brn)).map Prod.fst=x::l:=by
         rw[qa0];show(x::l).zipIdx.map Prod.fst=x::l;simp
        have hall:∀y∈((x::l).zipIdx.map fun y=>((y.1,tgTk R.es t.1 y.2,f y.1):Brn)),PE R y.1 y.2.2:=by
         intro y hy;obtain⟨z,hz,rfl⟩:=qaL.1 hy;exact(ih z.1 (List.fst_mem_of_mem_zipIdx hz)).pe
        have hwl:∀j (h:j<((x::l).zipIdx.map fun y=>((y.1,tgTk R.es t.1 y.2,f y.1):Brn)).length),TagW R t' j ((x::l).zipIdx.map fun y=>((y.1,tgTk R.es t.1 y.2,f y.1):Brn))[j].2.1:=by
         intro j h;have h':j<(x::l).length:=by simpa using h
         have e9:((x::l).zipIdx.map fun y=>((y.1,tgTk R.es t.1 y.2,f y.1):Brn))[j].2.1=tgTk R.es t.1 (j:Int):=by simp only[qcb,List.getElem_zipIdx,qaV]
         rw[e9,ht];exact hw j h'
        have hlen:((x::l).zipIdx.map fun y=>((y.1,tgTk R.es t.1 y.2,f y.1):Brn)).length=(x::l).length:=oC
        generalize hq:((x::l).zipIdx.map fun y=>((y.1,tgTk R.es t.1 y.2,f y.1):Brn))=q at*
        match q,hm,hall,hwl,hlen with
        | (e1,w1,A1)::q,hm,hall,hwl,hlen=>
          have:=(zzQ (s:=s) ht1 (hsz.trans hlen.symm) hall hwl hk ho ht hv).pe
          rw[hm]at this;exact this
    ·simp
    ·rfl
   ·rw[zAd (e:=.mk k o t v s args) hk]at hF;have ht:=nt0 oA oA oA;have ho:=nop oA;obtain⟨hv,hvl⟩:=nc10 hk;dsimp only[Ex.args,Ex.v,Ex.name]at hF;unfold zpP at hF;refine zga (f:=g) ?_ ?_ ?_ <;> rw[hF]
    ·rcases hv with hv|hv
     ·rw[oH oA]
      have:=zBc (R:=R) (s:=s) (l:=args.map fun x=>(x,f x)) (fun y hy=>by
       obtain⟨z,hz,rfl⟩:=qaL.1 hy;exact⟨(ih z hz).pe,(ih z hz).ne,(ih z hz).cl⟩) hk ho ht hv
      have hm:(args.map fun x=>(x,f x)).map Prod.fst=args:=by rw[qa0];exact qcG _
      rw[hm]at this;exact this
     ·rw[oG hv];have hpos:args.length-1<args.length:=oA
      rw[qad hpos];show PO R _ ((1,s)::tL::(zhf _++tR::zmK::tkO f args[args.length-1]))
      have:=zzO (R:=R) (s:=s) (l:=(args.take (args.length-1)).map fun x=>(x,f x)) (fun y hy=>by
       obtain⟨z,hz,rfl⟩:=qaL.1 hy;have hz:=qaS hz;exact⟨(ih z hz).pe,(ih z hz).ne,(ih z hz).cl⟩) (ih _ (qak hpos)).po hk ho ht hv
      have hm:((args.take (args.length-1)).map fun x=>(x,f x)).map Prod.fst=args.take (args.length-1):=by rw[qa0];exact qcG _
      have hm2:args.take (args.length-1)++[args[args.length-1]]=args:=by
       rw[List.take_append_getElem hpos,qaJ oA]
      rw[hm,hm2]at this;exact this
    ·split <;> rfl
    ·right;split <;> rfl
   ·rw[zAe (e:=.mk k o t v s args) hk]at hF;have hA:=na0 oA;subst hA;refine zga (f:=g) ?_ ?_ ?_ <;> rw[hF]
    ·exact zBf hk (nop oA) (nt0 oA oA oA) (nv0 oA oA oA)
    ·rfl
    ·exact .inr rfl
end
end Go.Proofs.YtdicfgideclbdaaGreatDoor
