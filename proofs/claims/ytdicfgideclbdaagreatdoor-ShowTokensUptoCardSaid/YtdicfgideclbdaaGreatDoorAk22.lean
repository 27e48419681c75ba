import Derived.Test.YtdicfgideclbdaaGreatDoorAk11
import Derived.Test.YtdicfgideclbdaaGreatDoorAk21
set_option maxHeartbeats 64000000
set_option linter.all false
namespace Go.Proofs.YtdicfgideclbdaaGreatDoor
open Go Go.TL
attribute [local irreducible] TR TO Then zaj RetK Sound zac Kf GG zaQ
def blank(c:Int):Bool:=c == 32 || c == 9 || c == 10 || c == 13
theorem zne (c:Int):Pure Tryz.prog 50 [u8 c] (.b (blank c)):=by
 refine so Tryz.func50 ?_;repeat' (first|refine wg2 ?_ ?_|refine wg ?_|exact wgc|intro hc)
 all_goals refine RetK.pure rfl ?_ rfl
 all_goals exact Le.of_eq (by simp_all [blank,pack])
def zao(p:Int->Bool):Str->Str
 | []=>[]
 | c::r=>if p c.toNat then c::zao p r else[]
theorem zcD(p:Int->Bool):∀l,(zao p l).length≤l.length
 | []=>qag _
 | c::r=>by unfold zao;split <;> simp;exact zcD p r
theorem zeo(p:Int->Bool):∀l,zao p l=l.take (zao p l).length
 | []=>rfl
 | c::r=>by
   unfold zao;split
   ·simp only[qae,qaO];rw[<-zeo p r]
   ·rfl
abbrev scanner (s:Str)(k:Nat):Heap:=[.cells [.s s,.i k]]
theorem zd0 (fid:FuncId) (p:Int->Bool) (hp:∀c,Pure Tryz.prog fid [u8 c] (.b (p c))) (s:Str) (hs:s.length≤1000000) (i:Nat) (hi:i≤s.length):
  Sound Tryz.prog 49 [.ref 0 0,.fn fid []] (scanner s i) (fun r H'=>r= .ret (.s (zao p (s.drop i)))/\H'=scanner s (i+(zao p (s.drop i)).length)):=by
 refine so Tryz.func49 ?_;repeat' (first|refine wg2 ?_ ?_|refine wg ?_|exact wgc|intro hc)
 refine TR.zbk (ι:=Nat) (fun k=>i≤k/\k≤s.length/\zao p (s.drop i)=(s.take k).drop i++zao p (s.drop k)) (fun k=>s.length-k) (fun k=>[(0,.ref 0 0),(1,.fn fid []),(5,.i i)]) (fun k=>scanner s k) i ⟨qag _,hi,?_⟩ ⟨rfl,rfl,rfl,trivial⟩ rfl ?_
 ·have h0:(s.take i).drop i=[]:=qbO oF;rw[h0];rfl
 rintro k ⟨h1,h2,h3⟩;by_cases hlt:k<s.length
 ·have hx:=qad hlt;repeat' (first|refine wg2 ?_ ?_|refine wg ?_|exact wgc|(apply TO.zes (hp _);(iterate 3 exact rfl);exact⟨.t _,trivial⟩)|intro hc)
  ·refine zac.next (k+1) ⟨oA,hlt,?_⟩ oA ⟨rfl,rfl,rfl,trivial⟩ rfl;rw[h3,qaN hlt,qaE hlt,qcn oF];simp[zao,hc]
  ·have:zao p (s.drop k)=[]:=by rw[qaN hlt];simp[zao,hc]
   exact zws
 ·repeat' (first|refine wg2 ?_ ?_|refine wg ?_|exact wgc|(apply TO.zes (hp _);(iterate 3 exact rfl);exact⟨.t _,trivial⟩)|intro hc)
  have:zao p (s.drop k)=[]:=by rw[qbO oA];rfl
  exact zws
def zbj(a b:Str):Bool:=decide (b.length≤a.length) && a.take b.length == b
theorem zfX (a b:Str):Pure Tryz.prog 107 [.s a,.s b] (.b (zbj a b)):=by
 refine so Tryz.func107 ?_;by_cases h:b.length≤a.length
 ·repeat' (first|refine wg2 ?_ ?_|refine wg ?_|exact wgc|intro hc)
  all_goals exact zwdf
 ·repeat' (first|refine wg2 ?_ ?_|refine wg ?_|exact wgc|intro hc)
  all_goals exact zwdf
theorem zeP (a b:Str):Pure Tryz.prog 51 [.s a,.s b] (.b (zbj a b)):=by
 refine so Tryz.func51 ?_;repeat' (first|refine wg2 ?_ ?_|refine wg ?_|exact wgc|(apply TO.zes (zfX _ _);(iterate 3 exact rfl);exact⟨.t _,.t _,trivial⟩)|intro hc)
 all_goals try(refine RetK.pure rfl ?_ rfl;exact Le.of_eq (by simp_all [pack,zfX] <;> omega))
theorem zn7 (c:Int):Pure Tryz.prog 52 [u8 c] (.b (c != 10)):=by
 refine so Tryz.func52 ?_;repeat' (first|refine wg2 ?_ ?_|refine wg ?_|exact wgc|intro hc)
 all_goals exact zwdf
def zav(c:Int):Bool:=c == 48 || c == 49 || c == 40 || c == 41
theorem zok (c:Int):Pure Tryz.prog 110 [u8 c] (.b (zav c)):=by
 refine so Tryz.func110 ?_;repeat' (first|refine wg2 ?_ ?_|refine wg ?_|exact wgc|intro hc)
 all_goals try(refine RetK.pure rfl ?_ rfl;exact Le.of_eq (by simp_all [pack,zav] <;> omega))
def behind(p:Int->Bool)(l:Str):Str:=l.drop (zao p l).length
theorem zgq(p:Int->Bool)(l:Str):(behind p l).length≤l.length:=by simp[behind]
theorem zeg{l:Str}(h:zbj l [45,45]=true):∃r,l=45::45::r:=by
 match l,h with
 | a::b::r,h=>simp[zbj]at h;exact⟨r,by rw[h.1,h.2]⟩
 | [a],h=>simp[zbj]at h
 | [],h=>simp[zbj]at h
theorem zhS{r:Str}:(behind (fun c=>c != 10) (45::45::r)).length<(45::45::r:Str).length:=by
 have:(zao (fun c=>c != 10) (45::45::r)).length=(zao (fun c=>c != 10) r).length+2:=by simp[zao]
 simp[behind,this];omega
def skipped(l:Str):Str:=
 if h:zbj (behind blank l) [45,45]=true then skipped (behind (fun c=>c != 10) (behind blank l)) else behind blank l
termination_by l.length
decreasing_by
 obtain⟨r,hr⟩:=zeg h;have h1:=zgq blank l;rw[hr]at h1⊢
 have:=@zhS r
 omega
theorem zcC(l:Str):skipped l=if zbj (behind blank l) [45,45]=true then skipped (behind (fun c=>c != 10) (behind blank l)) else behind blank l:=by
 rw[skipped];split <;> rfl
theorem ziH(l:Str):(skipped l).length≤l.length:=by
 induction hn:l.length using Nat.strongRecOn generalizing l with
 | _ n ih=>
   subst hn;rw[zcC];have h1:=zgq blank l;split
   ·rename_i h;obtain⟨r,hr⟩:=zeg h
    have:=@zhS r
    rw[hr]at h1⊢;have h2:=ih _ oA (behind (fun c=>c != 10) (45::45::r)) rfl;omega
   ·exact h1
theorem zfr(p:Int->Bool)(s:Str)(k:Nat):s.drop (k+(zao p (s.drop k)).length)=behind p (s.drop k):=by
 rw[behind,qbX]
theorem zkY(p:Int->Bool)(s:Str)(k:Nat)(hk:k≤s.length):k+(zao p (s.drop k)).length≤s.length:=by
 have:=zcD p (s.drop k)
 rw[qa4]at this;omega
theorem zqV (s:Str) (hs:s.length≤1000000) (i:Nat) (hi:i≤s.length):
  Sound Tryz.prog 19 [.ref 0 0] (scanner s i) (fun r H'=>r= .ret (.tup [])/\H'=scanner s (s.length-(skipped (s.drop i)).length)):=by
 refine so Tryz.func19 ?_;repeat' (first|refine wg2 ?_ ?_|refine wg ?_|exact wgc|intro hc)
 refine TR.zbk (ι:=Nat) (fun k=>k≤s.length/\skipped (s.drop k)=skipped (s.drop i)) (fun k=>s.length-k) (fun k=>[(0,.ref 0 0)]) (fun k=>scanner s k) i ⟨hi,rfl⟩ ⟨rfl,trivial⟩ rfl ?_;rintro k ⟨h1,h3⟩;obtain⟨a,ha⟩:∃a,a=zao blank (s.drop k):=⟨_,rfl⟩;have ha1:=zkY blank s k h1;have ha2:=zfr blank s k;rw[<-ha]at ha1 ha2;obtain⟨b,hb⟩:∃b,b=zao (fun c=>c != 10) (s.drop (k+a.length)):=⟨_,rfl⟩;have hb1:=zkY (fun c=>c != 10) s (k+a.length) ha1;have hb2:=zfr (fun c=>c != 10) s (k+a.length);rw[<-hb]at hb1 hb2;have hS1:=zd0 50 blank zne s hs k h1;rw[<-ha]at hS1;have hS2:=zd0 52 (fun c=>c != 10) zn7 s hs (k+a.length) ha1;rw[<-hb]at hS2;have he:=zcC (s.drop k);repeat' (first|refine wg2 ?_ ?_|refine wg ?_|exact wgc|(apply TO.zcm [0] (v':=.s a) (H':=scanner s (k+a.length)) (hS1);(iterate 3 exact rfl);exact Les.refl _;exact rfl;exact Hands.one rfl rfl;exact rfl;exact rfl)|(apply TO.zcm [0] (v':=.s b) (H':=scanner s (k+a.length+b.length)) (hS2);(iterate 3 exact rfl);exact Les.refl _;exact rfl;exact Hands.one rfl rfl;exact rfl;exact rfl)|(apply TO.zes (zeP _ _);(iterate 3 exact rfl);exact⟨.t _,.t _,trivial⟩)|intro hc)
 ·have hlt:0<b.length:=by
   rw[hb,ha2];rw[ha2]at hc;obtain⟨r,hr⟩:=zeg hc;rw[hr];simp[zao]
  refine zac.next (k+a.length+b.length) ⟨hb1,?_⟩ oA ⟨rfl,trivial⟩ rfl;rw[<-h3,he,hb2,<-ha2,oG hc]
 ·refine RetK.keep 1 rfl (Le.refl _) rfl rfl rfl rfl rfl ⟨rfl,?_⟩;rw[<-ha2,oH (by simp[hc])]at he;rw[<-h3,he,qa4,show s.length-(s.length-(k+a.length))=k+a.length from oA];rfl
abbrev tokV (k:Int)(x:Str)(p:Int):SV:=.ag [.i k,.s x,.i p]
abbrev tokR (a:Int×Str×Int):SV:=.tup [tokV a.1 a.2.1 0,.i a.2.2]
def zcA(w:Str):Int×Str×Int:=if 40<(w.length:Int) then(0,[],3) else if keyword w then(3,w,0) else(1,w,0)
def zdc(w:Str):Int×Str×Int:=
 if decide (1<(w.length:Int)) && (match w with|c::_=>((c.toNat:Int) == 48)|[]=>false) then(0,[],5)
 else if decide (5<(w.length:Int)) || ((w.length:Int) == 5 && !(Op.bytesLess w [51,50,55,54,56] || w == [51,50,55,54,56])) then(0,[],14) else(2,w,0)
theorem zqG (s:Str) (hs:s.length≤1000000) (i:Nat) (hi:i≤s.length):
  Sound Tryz.prog 54 [.ref 0 0] (scanner s i) (fun r H'=>r= .ret (tokR (zcA (zao inner (s.drop i))))/\H'=scanner s (i+(zao inner (s.drop i)).length)):=by
 refine so Tryz.func54 ?_;have hS1:=zd0 108 inner zif s hs i hi;generalize zao inner (s.drop i)=a at hS1⊢;repeat' (first|refine wg2 ?_ ?_|refine wg ?_|exact wgc|(apply TO.zcm [0] (v':=.s a) (H':=[.cells [.s s,.i ((i+a.length:Nat):Int)],.cells [.i 0,.s [],.i 0]]) (hS1);(iterate 3 exact rfl);exact Les.refl _;exact rfl;exact Hands.one rfl rfl;exact rfl;exact rfl)|(apply TO.zes (zch _);(iterate 3 exact rfl);exact⟨.t _,trivial⟩)|intro hc)
 all_goals(refine RetK.keep 1 rfl (Le.of_eq (oJ tokR (a₁:=(_,_,_)) (a₂:=zcA a) ?_)) rfl rfl rfl rfl rfl ⟨rfl,?_⟩ <;> first|rfl|(simp_all [zcA];done)|(simp only[zcA];(repeat' split) <;> first|rfl|(exfalso;simp_all;done)|(exfalso;simp_all <;> omega)))
theorem zmd (s:Str) (hs:s.length≤1000000) (i:Nat) (hi:i≤s.length):
  Sound Tryz.prog 56 [.ref 0 0] (scanner s i) (fun r H'=>r= .ret (tokR (zdc (zao digit (s.drop i))))/\H'=scanner s (i+(zao digit (s.drop i)).length)):=by
 refine so Tryz.func56 ?_;have hS1:=zd0 55 digit zft s hs i hi;have hl:=zkY digit s i hi;generalize zao digit (s.drop i)=a at hS1 hl⊢;cases a with
 | nil=>
   repeat' (first|refine wg2 ?_ ?_|refine wg ?_|exact wgc|(apply TO.zcm [0] (v':=.s []) (H':=[.cells [.s s,.i ((i+([]:Str).length:Nat):Int)],.cells [.i 0,.s [],.i 0]]) (hS1);(iterate 3 exact rfl);exact Les.refl _;exact rfl;exact Hands.one rfl rfl;exact rfl;exact rfl)|(apply TO.zes (zch _);(iterate 3 exact rfl);exact⟨.t _,trivial⟩)|intro hc)
   all_goals(refine RetK.keep 1 rfl (Le.of_eq (oJ tokR (a₁:=(_,_,_)) (a₂:=zdc _) ?_)) rfl rfl rfl rfl rfl ⟨rfl,?_⟩ <;> first|rfl|(simp_all [zdc];done)|(simp only[zdc];(repeat' split) <;> first|rfl|(exfalso;simp_all;done)|(exfalso;simp_all <;> omega)))
 | cons c r=>
   repeat' (first|refine wg2 ?_ ?_|refine wg ?_|exact wgc|(apply TO.zcm [0] (v':=.s (c::r)) (H':=[.cells [.s s,.i ((i+(c::r).length:Nat):Int)],.cells [.i 0,.s [],.i 0]]) (hS1);(iterate 3 exact rfl);exact Les.refl _;exact rfl;exact Hands.one rfl rfl;exact rfl;exact rfl)|(apply TO.zes (zch _);(iterate 3 exact rfl);exact⟨.t _,trivial⟩)|intro hc)
   all_goals(refine RetK.keep 1 rfl (Le.of_eq (oJ tokR (a₁:=(_,_,_)) (a₂:=zdc _) ?_)) rfl rfl rfl rfl rfl ⟨rfl,?_⟩ <;> first|rfl|(simp_all [zdc];done)|(simp only[zdc];(repeat' split) <;> first|rfl|(exfalso;simp_all;done)|(exfalso;simp_all <;> omega)))
def zfm(n:Int):Str->Bool
 | c::_=>(c.toNat:Int) == n
 | []=>false
theorem znC{n:Int}{s:Str}{k:Nat}(h:k<s.length):zfm n (s.drop k)=((s[k].toNat:Int) == n):=by
 rw[qaN h];rfl
def zdk(w q:Str):Int×Str×Int:=if zfm 39 q then(5,w,0) else(0,[],5)
def zdj(w q:Str):Nat:=if zfm 39 q then w.length+2 else w.length+1
theorem zvq{w q:Str}{i:Nat}(h:zfm 39 q=true):zdk w q=(5,w,0)/\i+zdj w q=i+1+w.length+1:=by
 simp only[zdk,zdj,h,if_true];exact⟨trivial,oA⟩
theorem ztW{w q:Str}{i:Nat}(h:zfm 39 q=false):zdk w q=(0,[],5)/\i+zdj w q=i+1+w.length:=by
 simp only[zdk,zdj,h];exact⟨rfl,oF⟩
theorem zq7 (s:Str) (hs:s.length≤1000000) (i:Nat) (hi:i<s.length):
  Sound Tryz.prog 57 [.ref 0 0] (scanner s i) (fun r H'=>r= .ret (tokR (zdk (zao zav (s.drop (i+1))) (behind zav (s.drop (i+1)))))/\H'=scanner s (i+zdj (zao zav (s.drop (i+1))) (behind zav (s.drop (i+1))))):=by
 refine so Tryz.func57 ?_;have hS1:=zd0 110 zav zok s hs (i+1) hi;have hl:=zkY zav s (i+1) hi;rw[<-zfr zav s (i+1)];generalize zao zav (s.drop (i+1))=a at hS1 hl⊢;by_cases he:i+1+a.length<s.length
 ·have hx:=qad he;have hh:=znC (n:=39) he;generalize s[i+1+a.length]=c at hx hh;repeat' (first|refine wg2 ?_ ?_|refine wg ?_|exact wgc|(apply TO.zcm [0] (v':=.s a) (H':=[.cells [.s s,.i ((i+1+a.length:Nat):Int)],.cells [.i 0,.s [],.i 0]]) (hS1);(iterate 3 exact rfl);exact Les.refl _;exact rfl;exact Hands.one rfl rfl;exact rfl;exact rfl)|intro hc)
  ·obtain⟨e1,e2⟩:=ztW (w:=a) (i:=i) (hh.trans (by simpa using hc));exact zwen
  ·obtain⟨e1,e2⟩:=zvq (w:=a) (i:=i) (hh.trans (by simpa using hc));exact zwen
 ·have hh:zfm 39 (s.drop (i+1+a.length))=false:=by rw[qbO oA];rfl
  repeat' (first|refine wg2 ?_ ?_|refine wg ?_|exact wgc|(apply TO.zcm [0] (v':=.s a) (H':=[.cells [.s s,.i ((i+1+a.length:Nat):Int)],.cells [.i 0,.s [],.i 0]]) (hS1);(iterate 3 exact rfl);exact Les.refl _;exact rfl;exact Hands.one rfl rfl;exact rfl;exact rfl)|intro hc)
  obtain⟨e1,e2⟩:=ztW (w:=a) (i:=i) hh;exact zwen
def zfg(l b x:Str):Str:=if decide ((b.length:Int)<x.length) && zbj l x then x else b
def best(l:Str)(all:List Str):Str:=all.foldl (zfg l) []
theorem zrp(l:Str)(all:List Str):∀b:Str,b.length≤l.length->(all.foldl (zfg l) b).length≤l.length:=by
 induction all with
 | nil=>exact fun b h=>h
 | cons x all ih=>
   refine fun b h=>ih _ ?_
   unfold zfg;split
   ·rename_i g;simp only[qar,zbj,decide_eq_true_eq]at g;exact g.2.1
   ·exact h
def zg8(b:Str):Int×Str×Int:=if b == [] then(0,[],5) else(4,b,0)
theorem zmI (all:List Str) (hall:all.length≤1000000) (s:Str) (hs:s.length≤1000000) (i:Nat) (hi:i≤s.length):
  Sound Tryz.prog 58 [.ref 0 0,.t (.sl 1 (all.map T.s))] (scanner s i) (fun r H'=>r= .ret (tokR (zg8 (best (s.drop i) all)))/\H'=scanner s (i+(best (s.drop i) all).length)):=by
 refine so Tryz.func58 ?_;repeat' (first|refine wg2 ?_ ?_|refine wg ?_|exact wgc|intro hc)
 refine TR.zbk (ι:=Nat) (fun k=>k≤all.length) (fun k=>all.length-k) (fun k=>[(0,.ref 0 0),(11,.i k),(10,.i (all.map T.s).length),(9,.t (.sl 1 (all.map T.s))),(6,.s (best (s.drop i) (all.take k))),(5,.i 0),(4,.ref 1 0)]) (fun _=>[.cells [.s s,.i i],.cells [.i 0,.s [],.i 0]]) 0 (qaM _) ⟨rfl,rfl,rfl,rfl,rfl,rfl,rfl,trivial⟩ rfl ?_;intro k hk;have hml:(all.map T.s).length=all.length:=qac _;by_cases hlt:k<all.length
 ·have hx:(all.map T.s)[k]?=some (T.s all[k]):=by rw[qan,qad hlt];rfl
  have hb:best (s.drop i) (all.take (k+1))=zfg (s.drop i) (best (s.drop i) (all.take k)) all[k]:=by
   rw[best,qaE hlt,qbJ];rfl
  generalize all[k]=x at hx hb;repeat' (first|refine wg2 ?_ ?_|refine wg ?_|exact wgc|(apply TO.zes (zeP _ _);(iterate 3 exact rfl);exact⟨.t _,.t _,trivial⟩)|intro hc)
  ·refine zac.next (k+1) hlt oA ⟨rfl,rfl,rfl,rfl,?_,rfl,rfl,trivial⟩ rfl;rw[hb,zfg,oG (by simp_all)];rfl
  ·refine zac.next (k+1) hlt oA ⟨rfl,rfl,rfl,rfl,?_,rfl,rfl,trivial⟩ rfl;rw[hb,zfg,oH (by simp_all)];rfl
  ·refine zac.next (k+1) hlt oA ⟨rfl,rfl,rfl,rfl,?_,rfl,rfl,trivial⟩ rfl;rw[hb,zfg,oH (by rw[hc];simp)];rfl
 ·have hkl:k=all.length:=oA
  subst hkl;rw[qap];have hbl:=zrp (s.drop i) all [] (qaM _);rw[<-best,qa4]at hbl;generalize best (s.drop i) all=b at hbl;repeat' (first|refine wg2 ?_ ?_|refine wg ?_|exact wgc|(apply TO.zes (zeP _ _);(iterate 3 exact rfl);exact⟨.t _,.t _,trivial⟩)|intro hc)
  ·have:b=[]:=by simpa using hc
   subst this;exact zwfg
  ·have e1:zg8 b=(4,b,0):=oH (by simp[hc]);rw[e1];exact zwfg
def zck:List Str:=[[40],[41],[58],[59],[44],[61],[124],[45,62],[60,62],[60,61],[62,61],[60],[62],[43],[45],[42],[47]]
def zae(l:Str):(Int×Str×Int)×Nat:=
 match l with
 | []=>((0,[],5),0)
 | c::r=>
   if letter c.toNat then(zcA (zao inner l),(zao inner l).length)
   else if digit c.toNat then(zdc (zao digit l),(zao digit l).length)
   else if(c.toNat:Int) == 39 then(zdk (zao zav r) (behind zav r),zdj (zao zav r) (behind zav r))
   else(zg8 (best l zck),(best l zck).length)
theorem zoh (s:Str) (hs:s.length≤1000000) (i:Nat) (hi:i<s.length):
  Sound Tryz.prog 20 [.ref 0 0] (scanner s i) (fun r H'=>r= .ret (tokR (zae (s.drop i)).1)/\H'=scanner s (i+(zae (s.drop i)).2)):=by
 refine so Tryz.func20 ?_;have hx:=qad hi;have hd:s.drop i=s[i]::s.drop (i+1):=qaN hi;have h1:=zqG s hs i (qb5 hi);have h2:=zmd s hs i (qb5 hi);have h3:=zq7 s hs i hi;have h4:=zmI zck oB s hs i (qb5 hi);have e1:letter s[i].toNat=true->zae (s.drop i)=(zcA (zao inner (s.drop i)),(zao inner (s.drop i)).length):=fun g=>by rw[hd];simp only[zae,g,if_true]
 have e2:letter s[i].toNat=false->digit s[i].toNat=true->zae (s.drop i)=(zdc (zao digit (s.drop i)),(zao digit (s.drop i)).length):=fun g g2=>by rw[hd];simp only[zae,g,g2,if_true];rfl
 have e3:letter s[i].toNat=false->digit s[i].toNat=false->((s[i].toNat:Int) == 39)=true->zae (s.drop i)=(zdk (zao zav (s.drop (i+1))) (behind zav (s.drop (i+1))),zdj (zao zav (s.drop (i+1))) (behind zav (s.drop (i+1)))):=fun g g2 g3=>by rw[hd];simp only[zae,g,g2,g3,if_true];rfl
 have e4:letter s[i].toNat=false->digit s[i].toNat=false->((s[i].toNat:Int) == 39)=false->zae (s.drop i)=(zg8 (best (s.drop i) zck),(best (s.drop i) zck).length):=fun g g2 g3=>by rw[hd];simp only[zae,g,g2,g3,if_true];rfl
 generalize zae (s.drop i)=tk at e1 e2 e3 e4⊢;generalize zcA (zao inner (s.drop i))=t1 at h1 e1;generalize (zao inner (s.drop i)).length=n1 at h1 e1;generalize zdc (zao digit (s.drop i))=t2 at h2 e2;generalize (zao digit (s.drop i)).length=n2 at h2 e2;generalize zdk (zao zav (s.drop (i+1))) (behind zav (s.drop (i+1)))=t3 at h3 e3;generalize zdj (zao zav (s.drop (i+1))) (behind zav (s.drop (i+1)))=n3 at h3 e3;generalize zg8 (best (s.drop i) zck)=t4 at h4 e4;generalize (best (s.drop i) zck).length=n4 at h4 e4;clear hd;generalize s[i]=c at hx e1 e2 e3 e4;repeat' (first|refine wg2 ?_ ?_|refine wg ?_|exact wgc|(apply TO.zes (zdu _);(iterate 3 exact rfl);exact⟨.t _,trivial⟩)|(apply TO.zes (zft _);(iterate 3 exact rfl);exact⟨.t _,trivial⟩)|(apply TO.zcm [0] (v':=tokR t1) (H':=[.cells [.s s,.i ((i+n1:Nat):Int)],.cells [.i 0,.s [],.i 0]]) (h1);(iterate 3 exact rfl);exact Les.refl _;exact rfl;exact Hands.one rfl rfl;exact rfl;exact rfl)|(apply TO.zcm [0] (v':=tokR t2) (H':=[.cells [.s s,.i ((i+n2:Nat):Int)],.cells [.i 0,.s [],.i 0]]) (h2);(iterate 3 exact rfl);exact Les.refl _;exact rfl;exact Hands.one rfl rfl;exact rfl;exact rfl)|(apply TO.zcm [0] (v':=tokR t3) (H':=[.cells [.s s,.i ((i+n3:Nat):Int)],.cells [.i 0,.s [],.i 0]]) (h3);(iterate 3 exact rfl);exact Les.refl _;exact rfl;exact Hands.one rfl rfl;exact rfl;exact rfl)|(apply TO.zcm [0] (v':=tokR t4) (H':=[.cells [.s s,.i ((i+n4:Nat):Int)],.cells [.i 0,.s [],.i 0]]) (h4);(iterate 3 exact rfl);exact Les.refl _;exact rfl;exact Hands.one rfl rfl;exact rfl;exact rfl)|intro hc)
 ·rw[e1 hc];exact RetK.keep 1 rfl (Le.refl _) rfl rfl rfl rfl rfl ⟨rfl,rfl⟩
 ·rw[e2 oE hc];exact RetK.keep 1 rfl (Le.refl _) rfl rfl rfl rfl rfl ⟨rfl,rfl⟩
 ·rw[e3 oE oE hc];exact RetK.keep 1 rfl (Le.refl _) rfl rfl rfl rfl rfl ⟨rfl,rfl⟩
 ·rw[e4 oE oE hc];exact RetK.keep 1 rfl (Le.refl _) rfl rfl rfl rfl rfl ⟨rfl,rfl⟩
abbrev Tok:=Int×Str×Int
abbrev tokT (t:Tok):T:=.ag [.i t.1,.s t.2.1,.i t.2.2]
def zdo:Nat->Str->Nat->List Tok->List Tok×Int×Int
 | 0,_,_,_=>([],0,0)
 | n+1,s,i,out=>
   if s.length-(skipped (s.drop i)).length=s.length then(out,0,0)
   else if((zae (s.drop (s.length-(skipped (s.drop i)).length))).1.2.2 != 0)=true then([],((s.length-(skipped (s.drop i)).length:Nat):Int),(zae (s.drop (s.length-(skipped (s.drop i)).length))).1.2.2)
   else zdo n s (s.length-(skipped (s.drop i)).length+(zae (s.drop (s.length-(skipped (s.drop i)).length))).2)
    (out++[((zae (s.drop (s.length-(skipped (s.drop i)).length))).1.1,(zae (s.drop (s.length-(skipped (s.drop i)).length))).1.2.1,((s.length-(skipped (s.drop i)).length:Nat):Int))])
def scan(s:Str):List Tok×Int×Int:=if 65536<s.length then([],0,3) else zdo (s.length+1) s 0 []
abbrev zzZ (a:List Tok×Int×Int):SV:=.tup [.t (.sl 3 (a.1.map tokT)),.i a.2.1,.i a.2.2]
theorem ziR{l:Str}(hl:l≠ [])(h:((zae l).1.2.2 != 0)=false):0<(zae l).2/\(zae l).2≤l.length:=by
 match l,hl with
 | c::r,_=>
   have g1:=zcD inner (c::r);have g2:=zcD digit (c::r);have g3:=zcD zav r;have g4:=zrp (c::r) zck [] (qaM _);have g5:best (c::r) zck=zck.foldl (zfg (c::r)) []:=rfl;rw[<-g5]at g4;clear g5;revert h;unfold zae;simp only;generalize best (c::r) zck=b at g4⊢;split
   ·rename_i h1;intro _;refine⟨?_,g1⟩
    have:inner c.toNat=true:=by simp[inner,h1]
    simp[zao,this]
   ·split
    ·rename_i h1;intro _;refine⟨?_,g2⟩;simp[zao,h1]
    ·split
     ·intro h
      have hq:zfm 39 (behind zav r)=true:=by
       cases hq:zfm 39 (behind zav r) with
       | true=>rfl
       | false=>simp[zdk,hq]at h
      have hb:(behind zav r)≠ []:=fun e=>by rw[e]at hq;cases hq
      have hl:=qbf.2 hb;simp only[behind,qa4]at hl;simp only[zdj,hq,if_true,qae];omega
     ·intro h;refine⟨?_,g4⟩;simp only[zg8]at h;split at h
      ·simp at h
      ·rename_i hb;exact qbf.2 (fun e=>hb (by rw[e];rfl))
theorem zjW (s:Str):Pure Tryz.prog 8 [.s s] (zzZ (scan s)):=by
 refine so Tryz.func8 ?_;repeat' (first|refine wg2 ?_ ?_|refine wg ?_|exact wgc|intro hc)
 ·refine RetK.pure rfl ?_ rfl
  have:scan s=([],0,3):=oG (by simp at hc;omega)
  rw[this];exact Le.tup ⟨Le.nil 3,Le.refl _,Le.refl _,trivial⟩
 ·refine TR.tail 3 6 rfl ?_;have hlen:s.length≤65536:=by simp at hc;omega
  have hsc:scan s=zdo (s.length+1) s 0 []:=oH oA
  refine TR.zbk (ι:=Nat×Nat×List Tok) (fun x=>x.2.1≤s.length/\s.length-x.2.1<x.1/\x.2.2.length≤x.2.1/\zdo x.1 s x.2.1 x.2.2=scan s) (fun x=>x.1)
   (fun x=>[(0,.s s),(5,.ref 0 0),(6,.sl 3 (x.2.2.map tokT) 1)]) (fun x=>[.cells [.s s,.i x.2.1],.tail (x.2.2.map tokT).length]) (s.length+1,0,[]) ⟨qaM _,oC,qag _,hsc.symm⟩ ⟨rfl,rfl,rfl,trivial⟩ rfl ?_
  clear hc hsc;rintro⟨n,i,out⟩ ⟨hi,hn,ho,he⟩;simp only at hi hn ho he⊢;obtain⟨n,rfl⟩:∃m,n=m+1:=⟨n-1,oA⟩;rw[zdo]at he;have hS:=zqV s oA i hi;have hj1:=ziH (s.drop i);rw[qa4]at hj1;obtain⟨j,hj⟩:∃j,j=s.length-(skipped (s.drop i)).length:=⟨_,rfl⟩;rw[<-hj]at he hS;have hj2:i≤j:=oA
  have hj3:j≤s.length:=oA
  clear hj hj1;have hml:(out.map tokT).length=out.length:=qac _;by_cases hlt:j<s.length
  ·have hT:=zoh s oA j hlt;have hL:=ziR (l:=s.drop j) oF;rw[oH oA]at he;rw[qa4]at hL;generalize zae (s.drop j)=tk at hT hL he;obtain⟨⟨ka,xa,ea⟩,na⟩:=tk;simp only at hT hL he;repeat' (first|refine wg2 ?_ ?_|refine wg ?_|exact wgc|(apply TO.zcm [0] (v':=.tup []) (H':=[.cells [.s s,.i (j:Int)],.tail (out.map tokT).length]) (hS);(iterate 3 exact rfl);exact Les.refl _;exact rfl;exact Hands.one rfl rfl;exact rfl;exact rfl)|(apply TO.zcm [0] (v':=tokR (ka,xa,ea)) (H':=[.cells [.s s,.i ((j+na:Nat):Int)],.tail (out.map tokT).length]) (hT);(iterate 3 exact rfl);exact Les.refl _;exact rfl;exact Hands.one rfl rfl;exact rfl;exact rfl)|intro hc)
   ·refine RetK.pure rfl ?_ rfl;rw[oG hc]at he;rw[<-he];exact Le.tup ⟨Le.nil 3,Le.refl _,Le.refl _,trivial⟩
   ·obtain⟨hL1,hL2⟩:=hL hc;rw[oH (by rw[show(ea != 0)=false from hc];simp)]at he;refine zac.cut 2 (n,j+na,out++[(ka,xa,(j:Int))]) ⟨by simp only;omega,by simp only;omega,by simp only[qab,qae,qal];omega,he⟩ (qbF n) ⟨rfl,rfl,?_,trivial⟩ rfl rfl ?_ rfl rfl
    ·simp only[qaw];rfl
    ·simp only[qaw,qab];rfl
  ·repeat' (first|refine wg2 ?_ ?_|refine wg ?_|exact wgc|(apply TO.zcm [0] (v':=.tup []) (H':=[.cells [.s s,.i (j:Int)],.tail (out.map tokT).length]) (hS);(iterate 3 exact rfl);exact Les.refl _;exact rfl;exact Hands.one rfl rfl;exact rfl;exact rfl)|intro hc)
   have hje:j=s.length:=oA
   rw[oG hje]at he;refine RetK.pure rfl ?_ rfl;rw[<-he];exact Le.tup ⟨Le.own 3 _ 1,Le.refl _,Le.refl _,trivial⟩
theorem zhF(p:Int->Bool):∀(l:Str),∀c∈zao p l,p c.toNat=true
 | [],c,h=>by cases h
 | x::l,c,h=>by
   unfold zao at h;split at h
   ·rcases qa5.1 h with rfl|h
    ·assumption
    ·exact zhF p l c h
   ·cases h
end Go.Proofs.YtdicfgideclbdaaGreatDoor
namespace Go.Proofs.YtdicfgideclbdaaGreatDoor
open Go Go.TL
variable {p:Int->Bool}{c:UInt8}{r:Str}
theorem znA(c x:UInt8)(r:Str):zbj (c::r) [x]=(c == x):=by simp[zbj]
theorem zkv(c d x y:UInt8)(r:Str):zbj (c::d::r) [x,y]=(c == x && d == y):=by simp[zbj]
theorem zuz(c x y:UInt8):zbj [c] [x,y]=false:=by simp[zbj]
theorem zp5(h:p c.toNat=true):behind p (c::r)=behind p r:=by simp[behind,zao,h]
theorem zro(h:p c.toNat=false):behind p (c::r)=c::r:=by simp[behind,zao,h]
theorem zkV(h:blank c.toNat=true):skipped (c::r)=skipped r:=by
 rw[zcC (c::r),zcC r,zp5 h]
theorem zge(h:blank c.toNat=false)(h2:zbj (c::r) [45,45]=false):skipped (c::r)=c::r:=by
 rw[zcC (c::r),zro h,oH (by simp[h2])]
end Go.Proofs.YtdicfgideclbdaaGreatDoor
namespace Go.Proofs.YtdicfgideclbdaaGreatDoor
open Go Go.TL
attribute [local irreducible] TR TO Then zaj RetK Sound zac Kf GG zaQ
def zar(t:Tok):Str:=if(t.1 == 5)=true then[39]++t.2.1++[39] else t.2.1
def za0:Str->Bool->List Tok->Str
 | acc,_,[]=>acc
 | acc,first,t::l=>za0 ((if first then acc else acc++[32])++zar t) false l
def join(l:List Tok):Str:=za0 [] true l
theorem zcK:∀(l:List Tok) (acc:Str) (b:Bool),za0 acc b l=acc++za0 [] b l
 | [],acc,b=>by simp[za0]
 | t::l,acc,b=>by
   rw[za0,za0,zcK l,zcK l (_++_)];cases b <;> simp
end Go.Proofs.YtdicfgideclbdaaGreatDoor
namespace Go.Proofs.YtdicfgideclbdaaGreatDoor
open Go Go.TL
def zaq(s:Str)(i:Nat):Nat:=s.length-(skipped (s.drop i)).length
theorem zmb{s:Str}{i:Nat}(hi:i≤s.length):i≤zaq s i/\zaq s i≤s.length:=by
 have h:=ziH (s.drop i);rw[qa4]at h;unfold zaq;omega
theorem zbt(n:Nat)(s:Str)(i:Nat)(out:List Tok):zdo (n+1) s i out=
  (if zaq s i=s.length then(out,0,0)
   else if((zae (s.drop (zaq s i))).1.2.2 != 0)=true then([],(zaq s i:Int),(zae (s.drop (zaq s i))).1.2.2)
   else zdo n s (zaq s i+(zae (s.drop (zaq s i))).2) (out++[((zae (s.drop (zaq s i))).1.1,(zae (s.drop (zaq s i))).1.2.1,(zaq s i:Int))])):=rfl
theorem ze0{s:Str}{i:Nat}(hi:i≤s.length)(h1:zaq s i≠s.length)(h2:((zae (s.drop (zaq s i))).1.2.2 != 0)=false):
  i<zaq s i+(zae (s.drop (zaq s i))).2/\zaq s i+(zae (s.drop (zaq s i))).2≤s.length:=by
 obtain⟨g1,g2⟩:=zmb hi;have hl:=ziR (l:=s.drop (zaq s i)) oF h2;rw[qa4]at hl;omega
theorem zs5(s:Str):∀(n i:Nat) (out:List Tok),s.length-i<n->i≤s.length->
  zdo n s i out=(if(zdo n s i []).2.2=0 then(out++(zdo n s i []).1,(zdo n s i []).2.1,0) else zdo n s i []):=by
 intro n
 induction n with
 | zero=>intro i out h;omega
 | succ n ih=>
   intro i out hn hi;by_cases h1:zaq s i=s.length
   ·rw[zbt,zbt,oG h1,oG h1];simp
   ·cases h2:((zae (s.drop (zaq s i))).1.2.2 != 0) with
    | true=>
      have h3:¬(zae (s.drop (zaq s i))).1.2.2=0:=by simpa using h2
      rw[zbt,zbt,oH h1,oH h1,oG h2,oG h2,oH h3]
    | false=>
      obtain⟨g1,g2⟩:=ze0 hi h1 h2
      have e:∀out,zdo (n+1) s i out=zdo n s (zaq s i+(zae (s.drop (zaq s i))).2) (out++[((zae (s.drop (zaq s i))).1.1,(zae (s.drop (zaq s i))).1.2.1,(zaq s i:Int))]):=fun out=>by
       rw[zbt,oH h1,oH (by rw[h2];simp)]
      rw[e,e,ih _ (out++_) oA g2,ih _ ([]++_) oA g2];by_cases h3:(zdo n s (zaq s i+(zae (s.drop (zaq s i))).2) []).2.2=0
      ·simp[h3]
      ·simp[h3]
def toks(s:Str)(i:Nat):List Tok×Int×Int:=zdo (s.length-i+1) s i []
theorem zqS(s:Str):∀(n m i:Nat) (out:List Tok),s.length-i<n->s.length-i<m->i≤s.length->zdo n s i out=zdo m s i out:=by
 intro n
 induction n with
 | zero=>intro m i out h;omega
 | succ n ih=>
   intro m i out hn hm hi;obtain⟨m,rfl⟩:∃k,m=k+1:=⟨m-1,oA⟩;rw[zbt,zbt];by_cases h1:zaq s i=s.length
   ·rw[oG h1,oG h1]
   ·rw[oH h1,oH h1];cases h2:((zae (s.drop (zaq s i))).1.2.2 != 0) with
    | true=>rfl
    | false=>
      obtain⟨g1,g2⟩:=ze0 hi h1 h2;exact ih m _ _ oA oA g2
theorem zs7{s:Str}(h:s.length≤65536):scan s=toks s 0:=oH oA
theorem zvg{s:Str}{i:Nat}(h:zaq s i=s.length):toks s i=([],0,0):=by
 rw[toks,zbt,oG h]
theorem zvh{s:Str}{i:Nat}(h:zaq s i≠s.length)(h2:((zae (s.drop (zaq s i))).1.2.2 != 0)=true):toks s i=([],(zaq s i:Int),(zae (s.drop (zaq s i))).1.2.2):=by
 rw[toks,zbt,oH h,oG h2]
theorem ztC{s:Str}{i:Nat}(hi:i≤s.length)(h:zaq s i≠s.length)(h2:((zae (s.drop (zaq s i))).1.2.2 != 0)=false):
  toks s i=(if(toks s (zaq s i+(zae (s.drop (zaq s i))).2)).2.2=0 then
   (((zae (s.drop (zaq s i))).1.1,(zae (s.drop (zaq s i))).1.2.1,(zaq s i:Int))::(toks s (zaq s i+(zae (s.drop (zaq s i))).2)).1,(toks s (zaq s i+(zae (s.drop (zaq s i))).2)).2.1,0)
   else toks s (zaq s i+(zae (s.drop (zaq s i))).2)):=by
 obtain⟨g1,g2⟩:=ze0 hi h h2
 have e:toks s i=zdo (s.length-i) s (zaq s i+(zae (s.drop (zaq s i))).2) ([]++[((zae (s.drop (zaq s i))).1.1,(zae (s.drop (zaq s i))).1.2.1,(zaq s i:Int))]):=by
  rw[toks,zbt,oH h,oH (by rw[h2];simp)]
 have f:zdo (s.length-i) s (zaq s i+(zae (s.drop (zaq s i))).2) []=toks s (zaq s i+(zae (s.drop (zaq s i))).2):=zqS s _ _ _ _ oA oA g2;rw[e,zs5 s _ _ _ oA g2,f];rfl
theorem zg7{c:UInt8}(h:letter c.toNat=true):blank c.toNat=false/\c≠45/\inner c.toNat=true:=by
 refine⟨?_,?_,?_⟩
 ·cases hb:blank c.toNat with
  | false=>rfl
  | true=>
    exfalso;simp[letter,blank]at h hb;omega
 ·rintro rfl;revert h;decide
 ·simp[inner,h]
end Go.Proofs.YtdicfgideclbdaaGreatDoor
namespace Go.Proofs.YtdicfgideclbdaaGreatDoor
open Go Go.TL
attribute [local irreducible] TR TO Then zaj RetK Sound zac Kf GG zaQ
theorem znZ(s:Str):∀(n i:Nat) (out:List Tok),i≤s.length->out.length≤i->(zdo n s i out).1.length≤s.length:=by
 intro n
 induction n with
 | zero=>intro i out _ _;simp[zdo]
 | succ n ih=>
   intro i out hi ho;rw[zbt];by_cases h1:zaq s i=s.length
   ·rw[oG h1];simp only;omega
   ·rw[oH h1];cases h2:((zae (s.drop (zaq s i))).1.2.2 != 0) with
    | true=>simp
    | false=>
      obtain⟨g1,g2⟩:=ze0 hi h1 h2;exact ih _ _ g2 oF
theorem zqT(s:Str):(scan s).1.length≤65536:=by
 unfold scan;split
 ·simp
 ·have:=znZ s (s.length+1) 0 [] (qaM _) (qag _)
  omega
theorem zyF(l:List Tok)(acc:Str)(b:Bool):acc.length≤(za0 acc b l).length:=by
 rw[zcK];simp
theorem zoz(a:Bool)(l:Str):(bldH a l).length=2:=by cases a <;> rfl
abbrev ztz (a:Int)(x:Str)(p:Int):Blk:=.cells [.i a,.s x,.i p]
theorem zqA (l:List Tok) (hl:l.length≤1000000) (hj:(join l).length≤1000000000):Pure Tryz.prog 9 [.t (.sl 3 (l.map tokT))] (.s (join l)):=by
 refine so Tryz.func9 ?_;have hml:(l.map tokT).length=l.length:=qac _;refine TR.seq ?_;refine wg ?_;repeat' (first|(apply TO.assign;exact rfl;exact rfl)|refine TO.nil ?_|refine Then.normal ?_|refine TR.seq ?_|refine TR.region ?_|(apply TO.zyJ (t:=75) zaf;(iterate 3 exact rfl)))
 apply TO.zgb 5 0 1
 ·exact rfl
 ·exact rfl
 ·exact rfl
 repeat' (first|refine wg2 ?_ ?_|refine wg ?_|exact wgc|intro hc)
 refine TR.zbk (ι:=Nat×Str) (fun x=>x.1≤l.length/\za0 x.2 (Nat.beq x.1 0) (l.drop x.1)=join l/\(x.1=0->x.2=[])) (fun x=>l.length-x.1) (fun x=>[(3,.tref bldT 2 0 0),(6,.t (.sl 3 (l.map tokT))),(7,.i l.length),(8,.i x.1)]) (fun x=>bldH (!(Nat.beq x.1 0)) x.2) (0,[]) ⟨qaM _,rfl,fun _=>rfl⟩ ⟨rfl,rfl,by rw[<-hml];rfl,rfl,trivial⟩ rfl ?_;rintro⟨k,acc⟩ ⟨hk,ha,h0⟩;simp only at hk ha h0⊢;by_cases hlt:k<l.length
 ·have hy:(l.map tokT)[k]?=some (tokT l[k]):=by rw[qan,qad hlt];rfl
  rw[qaN hlt,za0]at ha;generalize l[k]=t at hy ha;obtain⟨ka,xa,pa⟩:=t;have hle:=zyF (l.drop (k+1)) ((if Nat.beq k 0=true then acc else acc++[32])++zar (ka,xa,pa)) false;rw[ha]at hle;simp only[zar]at ha hle;cases hf:Nat.beq k 0 with
  | true=>
    have hk0:k=0:=qaY hf;rw[h0 hk0]at ha hle⊢;simp only[hf,if_true]at ha hle
    have hx:xa.length≤1000000000/\((ka == 5)=true->xa.length+2≤1000000000):=by
     exact zwdb
    have hW5:(ka == 5)=true->_:=fun h=>zbX false [] ([39]++xa++[39]) (by have:=hx.2 h;simp only[qab,qae,qal];omega)
    have hW0:=zbX false [] xa (by simp only[qab,qae,qal];omega);repeat' (first|refine wg2 ?_ ?_|refine wg ?_|exact wgc|(apply TO.zcm [0,1] (v':=.tup [.i _,.t (.v .nilIface)]) (H':=bld1 ([]++([39]++xa++[39]))++[ztz ka xa pa]) (hW5 hc);(iterate 3 exact rfl);exact⟨Le.refl _,Le.refl _,trivial⟩;exact rfl;exact Hands.two oB rfl rfl rfl rfl;exact rfl;exact rfl)|(apply TO.zcm [0,1] (v':=.tup [.i _,.t (.v .nilIface)]) (H':=bld1 ([]++(xa))++[ztz ka xa pa]) hW0;(iterate 3 exact rfl);exact⟨Le.refl _,Le.refl _,trivial⟩;exact rfl;exact Hands.two oB rfl rfl rfl rfl;exact rfl;exact rfl)|intro hc)
    ·exact zwbi
    ·exact zwz
  | false=>
    have hk0:0<k:=Nat.pos_of_ne_zero fun e=>by subst e;cases hf
    simp only[hf]at ha hle;rw[oH oB]at ha hle
    have hx:acc.length+1+xa.length≤1000000000/\((ka == 5)=true->acc.length+1+xa.length+2≤1000000000):=by
     exact zwdb
    have hB:=ziY true acc 32 oA;have hW5:(ka == 5)=true->_:=fun h=>zbX true (acc++[32]) ([39]++xa++[39]) (by have:=hx.2 h;simp only[qab,qae,qal];omega)
    have hW0:=zbX true (acc++[32]) xa (by simp only[qab,qae,qal];omega);repeat' (first|refine wg2 ?_ ?_|refine wg ?_|exact wgc|(apply TO.zcm [0,1] (v':=.tup [.i _,.t (.v .nilIface)]) (H':=bld1 ((acc++[32])++([39]++xa++[39]))++[ztz ka xa pa]) (hW5 hc);(iterate 3 exact rfl);exact⟨Le.refl _,Le.refl _,trivial⟩;exact rfl;exact Hands.two oB rfl rfl rfl rfl;exact rfl;exact rfl)|(apply TO.zcm [0,1] (v':=.tup [.i _,.t (.v .nilIface)]) (H':=bld1 ((acc++[32])++(xa))++[ztz ka xa pa]) hW0;(iterate 3 exact rfl);exact⟨Le.refl _,Le.refl _,trivial⟩;exact rfl;exact Hands.two oB rfl rfl rfl rfl;exact rfl;exact rfl)|(apply TO.zcm [0,1] (v':=.t (.v .nilIface)) (H':=bld1 (acc++[32])++[ztz ka xa pa]) hB;(iterate 3 exact rfl);exact⟨Le.refl _,Le.refl _,trivial⟩;exact rfl;exact Hands.two oB rfl rfl rfl rfl;exact rfl;exact rfl)|intro hc)
    ·exact zwbi
    ·exact zwz
 ·rw[qbO oA,za0]at ha;have hle:acc.length≤1000000000:=by rw[ha];exact hj
  have hS:=zd7 0 [.tref bldT 2 0 0,.rw 1 acc.length] acc hle rfl;repeat' (first|refine wg2 ?_ ?_|refine wg ?_|exact wgc|intro hc)
  have hb:bldH (!(Nat.beq k 0)) acc=(if Nat.beq k 0 then bld0 acc else bld1 acc):=by cases Nat.beq k 0 <;> rfl
  rw[hb];split
  ·have h00:acc=[]:=h0 (qaY ‹_›);have hS:=zd7 0 [.t (.v (.pointer none)),.rw 1 acc.length] acc hle rfl;exact zwi
  ·have hS:=zd7 0 [.tref bldT 2 0 0,.rw 1 acc.length] acc hle rfl;exact zwi
end Go.Proofs.YtdicfgideclbdaaGreatDoor
namespace Go.Proofs.YtdicfgideclbdaaGreatDoor
open Go Go.TL
variable {l x r R:Str}{k:Int}{c:UInt8}
theorem zcE{p:Int->Bool}:∀ {w R:Str},(∀c∈w,p c.toNat=true)->(∀c r,R=c::r->p c.toNat=false)->zao p (w++R)=w
 | [],R,_,hR=>by
   cases R with
   | nil=>rfl
   | cons c r=>simp[zao,hR c r rfl]
 | c::w,R,hw,hR=>by
   rw[qaZ,zao,oG (hw c qah),zcE (fun x hx=>hw x (qai _ hx)) hR]
def zbQ(k:Int)(x:Str):Prop:=
 (∃c w,x=c::w/\letter c.toNat=true/\(∀d∈x,inner d.toNat=true)/\zcA x=(k,x,0))\/
 (∃c w,x=c::w/\(∀d∈x,digit d.toNat=true)/\zdc x=(k,x,0))\/
 (k=5/\∀d∈x,zav d.toNat=true)\/(k=4/\x∈zck)
theorem zoy(l:Str):∀(all:List Str) (b:Str),all.foldl (zfg l) b=b\/(all.foldl (zfg l) b∈all/\zbj l (all.foldl (zfg l) b)=true)
 | [],b=>.inl rfl
 | x::all,b=>by
   rw[qb0];rcases zoy l all (zfg l b x)with h|h
   ·rw[h];unfold zfg;split
    ·rename_i hx;simp only[qar]at hx;exact .inr ⟨qah,hx.2⟩
    ·exact .inl rfl
   ·exact .inr ⟨qai _ h.1,h.2⟩
theorem znB(h:zbj l x=true):l.take x.length=x:=by
 simp only[zbj,qar,beq_iff_eq]at h;exact h.2
theorem zpr{w:Str}(h:zdc w=(k,x,0)):k=2/\x=w:=by
 have key:∀(a b:Bool),(if a=true then((0:Int),([]:Str),(5:Int)) else if b=true then(0,[],14) else(2,w,0))=(k,x,0)->k=2/\x=w:=by
  intro a b h;cases a <;> cases b <;> simp at h
  exact⟨h.1.symm,h.2.symm⟩
 exact key _ _ h
theorem zkK{w:Str}(h:zcA w=(k,x,0)):(k=3\/k=1)/\x=w:=by
 unfold zcA at h;split at h
 ·simp at h
 ·split at h <;> simp at h
  ·exact⟨.inl h.1.symm,h.2.symm⟩
  ·exact⟨.inr h.1.symm,h.2.symm⟩
theorem zvf{n:Nat}(hr:r≠ [])(h:zae r=((k,x,0),n))(p:Int):zbQ k x/\r.take n=zar (k,x,p)/\n=(zar (k,x,p)).length:=by
 match r,hr with
 | c::r,_=>
   unfold zae at h;simp only at h;split at h
   ·rename_i hc;simp only[qbt]at h;obtain⟨h1,h2⟩:=h;obtain⟨hk,hx⟩:=zkK h1;have ht:=zeo inner (c::r);have ha:=zhF inner (c::r);have hs:zao inner (c::r)=c::zao inner r:=by rw[zao,oG (zg7 hc).2.2]
    have htx:zar (k,x,p)=x:=by
     unfold zar;rw[oH];rcases hk with rfl|rfl <;> simp
    rw[htx,hx,<-h2];rw[hx]at h1;exact⟨.inl ⟨c,zao inner r,hs,hc,ha,h1⟩,ht.symm,rfl⟩
   ·split at h
    ·rename_i hd;simp only[qbt]at h;obtain⟨h1,h2⟩:=h;obtain⟨rfl,hx⟩:=zpr h1;have ht:=zeo digit (c::r);have ha:=zhF digit (c::r);have hs:zao digit (c::r)=c::zao digit r:=by rw[zao,oG hd]
     have htx:zar (2,x,p)=x:=by simp[zar]
     rw[htx,hx,<-h2];rw[hx]at h1;exact⟨.inr (.inl ⟨c,zao digit r,hs,ha,h1⟩),ht.symm,rfl⟩
    ·split at h
     ·rename_i hq;simp only[qbt]at h;obtain⟨h1,h2⟩:=h;unfold zdk at h1;split at h1
      ·rename_i hh;simp only[qbt]at h1;obtain⟨rfl,hx,_⟩:=h1
       have hc:c=39:=by
        have:(c.toNat:Int)=39:=by simpa using hq
        apply UInt8.toNat_inj.1;show c.toNat=39;omega
       unfold zdj at h2;rw[oG hh]at h2;have htx:zar (5,x,p)=39::x++[39]:=by simp[zar]
       rw[htx,<-hx,<-h2];refine⟨.inr (.inr (.inl ⟨rfl,zhF zav r⟩)),?_,oC⟩;have ht:=zeo zav r
       have hb:behind zav r=39::(behind zav r).drop 1:=by
        cases hbb:behind zav r with
        | nil=>rw[hbb]at hh;cases hh
        | cons b q=>
          rw[hbb]at hh
          have:(b.toNat:Int)=39:=by simpa [zfm]using hh
          have:b=39:=by
           apply UInt8.toNat_inj.1;show b.toNat=39;omega
          rw[this];rfl
       have hrr:r=zao zav r++behind zav r:=by
        conv=>lhs;rw[<-qaX (zao zav r).length r]
        rw[<-ht];rfl
       rw[hc];generalize zao zav r=a at*;rw[hrr,hb];simp[List.take_append];exact qaJ oA
      ·simp at h1
     ·simp only[qbt]at h;obtain⟨h1,h2⟩:=h;unfold zg8 at h1;split at h1
      ·simp at h1
      ·rename_i hb;simp only[qbt]at h1;obtain⟨rfl,hx,_⟩:=h1;have htx:zar (4,x,p)=x:=by simp[zar]
       rw[htx];subst hx;rcases zoy (c::r) zck []with hbm|hbm
       ·exfalso
        have:best (c::r) zck=[]:=hbm
        rw[this]at hb;exact hb rfl
       ·have hpre:zbj (c::r) (best (c::r) zck)=true:=hbm.2;have hmem:best (c::r) zck∈zck:=hbm.1;refine⟨.inr (.inr (.inr ⟨rfl,hmem⟩)),?_,h2.symm⟩;rw[<-h2];exact znB hpre
def Sep(R:Str):Prop:=R=[]\/∃R',R=32::R'
theorem Sep.no(h:Sep R){p:Int->Bool}(hp:p 32=false):∀c r,R=c::r->p c.toNat=false:=by
 intro c r e;rcases h with h|⟨R',h⟩
 ·rw[h]at e;cases e
 ·rw[h]at e;cases e;exact hp
set_option maxRecDepth 100000 in
theorem zmH  (hx:x∈zck) (hR:Sep R):∃c r,x++R=c::r/\letter c.toNat=false/\digit c.toNat=false/\((c.toNat:Int) == 39)=false/\blank c.toNat=false/\zbj (x++R) [45,45]=false/\best (x++R) zck=x/\x≠ []:=by
 rcases hR with rfl|⟨R',rfl⟩ <;> simp only[zck,qa5,qbW,or_false]at hx <;>
  rcases hx with rfl|rfl|rfl|rfl|rfl|rfl|rfl|rfl|rfl|rfl|rfl|rfl|rfl|rfl|rfl|rfl|rfl <;>
  refine⟨_,_,rfl,oB,oB,oB,oB,?_,?_,oB⟩ <;>
  first
   | decide
   | (simp[zbj];done)
   | (simp only[best,zck,List.foldl,zfg,qaZ,qaP,znA,zkv,qal,qae];simp)
theorem znq(h:digit c.toNat=true):letter c.toNat=false/\blank c.toNat=false/\c≠45/\c≠39:=by
 refine⟨?_,?_,?_,?_⟩
 ·cases hb:letter c.toNat with
  | false=>rfl
  | true=>exfalso;simp[letter,digit]at h hb;omega
 ·cases hb:blank c.toNat with
  | false=>rfl
  | true=>exfalso;simp[blank,digit]at h hb;omega
 ·rintro rfl;revert h;decide
 ·rintro rfl;revert h;decide
theorem zkU(h:blank c.toNat=false)(h2:c≠45):skipped (c::r)=c::r:=by
 refine zge h ?_;cases r with
 | nil=>exact zuz _ _ _
 | cons d r=>rw[zkv];simp[h2]
theorem ziS(h:zbQ k x)(hR:Sep R)(p:Int):zae (zar (k,x,p)++R)=((k,x,0),(zar (k,x,p)).length)/\skipped (zar (k,x,p)++R)=zar (k,x,p)++R/\zar (k,x,p)≠ []:=by
 rcases h with ⟨c,w,hx,hc,ha,hn⟩|⟨c,w,hx,ha,hn⟩|⟨rfl,ha⟩|⟨rfl,hm⟩
 ·obtain⟨hk,_⟩:=zkK hn
  have htx:zar (k,x,p)=x:=by
   unfold zar;rw[oH];rcases hk with rfl|rfl <;> simp
  rw[htx];have hs:zao inner (x++R)=x:=zcE ha (hR.no oB);exact zww
 ·obtain⟨rfl,_⟩:=zpr hn;have htx:zar (2,x,p)=x:=by simp[zar]
  rw[htx];have hs:zao digit (x++R)=x:=zcE ha (hR.no oB);exact zwj
 ·exact zwd
 ·have htx:zar (4,x,p)=x:=by simp[zar]
  rw[htx];obtain⟨c,r,he,g1,g2,g3,g4,g5,g6,g7⟩:=zmH hm hR;exact zwn
def lexF:Nat->Str->List (Int×Str×Nat)×Nat×Int
 | 0,_=>([],0,0)
 | n+1,l=>
   if skipped l=[] then([],0,0)
   else if(zae (skipped l)).1.2.2≠0 then([],(skipped l).length,(zae (skipped l)).1.2.2)
   else if(lexF n ((skipped l).drop (zae (skipped l)).2)).2.2=0 then(((zae (skipped l)).1.1,(zae (skipped l)).1.2.1,(skipped l).length)::(lexF n ((skipped l).drop (zae (skipped l)).2)).1,0,0)
   else lexF n ((skipped l).drop (zae (skipped l)).2)
theorem ziI:skipped []=[]:=by
 rw[zcC,oH oB];rfl
theorem zfp(l:Str):∃k,k≤l.length/\skipped l=l.drop k:=by
 induction hn:l.length using Nat.strongRecOn generalizing l with
 | _ n ih=>
   subst hn;rw[zcC];have h1:=zcD blank l;split
   ·rename_i h;obtain⟨r,hr⟩:=zeg h;have h2:=@zhS r;have h3:=zgq blank l;have h4:=zcD (fun c=>c != 10) (behind blank l);rw[<-hr]at h2;obtain⟨k,hk,he⟩:=ih _ oA (behind (fun c=>c != 10) (behind blank l)) rfl;refine⟨(zao blank l).length+((zao (fun c=>c != 10) (behind blank l)).length+k),?_,?_⟩
    ·simp only[behind,qa4]at hk h4⊢;omega
    ·rw[he];simp only[behind,qbX,qa1]
   ·exact⟨_,h1,rfl⟩
theorem zrR{s:Str}{i:Nat}(hi:i≤s.length):s.drop (zaq s i)=skipped (s.drop i):=by
 obtain⟨k,hk,he⟩:=zfp (s.drop i);unfold zaq;rw[he,qbX,qa4];simp only[qa4]at hk;congr 1;omega
theorem zcM(n:Nat)(l:Str):lexF (n+1) l=
  (if skipped l=[] then([],0,0)
  else if(zae (skipped l)).1.2.2≠0 then([],(skipped l).length,(zae (skipped l)).1.2.2)
  else if(lexF n ((skipped l).drop (zae (skipped l)).2)).2.2=0 then(((zae (skipped l)).1.1,(zae (skipped l)).1.2.1,(skipped l).length)::(lexF n ((skipped l).drop (zae (skipped l)).2)).1,0,0)
  else lexF n ((skipped l).drop (zae (skipped l)).2)):=rfl
def placed(s:Str)(q:List (Int×Str×Nat)×Nat×Int):List Tok×Int×Int:=
 (q.1.map fun a=>(a.1,a.2.1,((s.length-a.2.2:Nat):Int)),if q.2.2=0 then 0 else((s.length-q.2.1:Nat):Int),q.2.2)
theorem ztD(s:Str):∀(n i:Nat),i≤s.length->s.length-i<n->toks s i=placed s (lexF n (s.drop i)):=by
 intro n
 induction n with
 | zero=>intro i hi hn;omega
 | succ n ih=>
   intro i hi hn;have hd:=zrR hi;obtain⟨g1,g2⟩:=zmb hi;have hlen:(skipped (s.drop i)).length=s.length-zaq s i:=by rw[<-hd,qa4]
   rw[zcM];by_cases h1:zaq s i=s.length
   ·rw[zvg h1,oG (qaF oA)];simp[placed]
   ·rw[oH (fun e=>by rw[e]at hlen;simp at hlen;omega),<-hd];cases h2:((zae (s.drop (zaq s i))).1.2.2 != 0) with
    | true=>
      have h3:(zae (s.drop (zaq s i))).1.2.2≠0:=by simpa using h2
      rw[zvh h1 h2,oG h3];simp only[placed,qaD,oH h3,qa4];rw[show s.length-(s.length-zaq s i)=zaq s i from oA]
    | false=>
      have h3:¬(zae (s.drop (zaq s i))).1.2.2≠0:=by simpa using h2
      obtain⟨r1,r2⟩:=ze0 hi h1 h2
      have:=ih (zaq s i+(zae (s.drop (zaq s i))).2) r2 oA
      rw[ztC hi h1 h2,oH h3,this,qbX];generalize lexF n (s.drop (zaq s i+(zae (s.drop (zaq s i))).2))=q;by_cases h4:q.2.2=0
      ·rw[oG h4,oG (show(placed s q).2.2=0 from h4)];simp only[placed,qaf,oG h4,qa4,if_true];rw[show s.length-(s.length-zaq s i)=zaq s i from oA]
      ·rw[oH h4,oH (show ¬(placed s q).2.2=0 from h4)]
theorem zeW{s:Str}(h:s.length≤65536):scan s=placed s (lexF (s.length+1) s):=by
 rw[zs7 h,ztD s (s.length+1) 0 (qaM _) oA];rfl
theorem zst:∀(n:Nat) (l:Str),(∀a∈(lexF n l).1,zbQ a.1 a.2.1/\a.2.2≤l.length)/\((lexF n l).1.map fun a=>(zar (a.1,a.2.1,0)).length).sum≤l.length/\(lexF n l).1.length≤((lexF n l).1.map fun a=>(zar (a.1,a.2.1,0)).length).sum/\
  ((lexF n l).2.2≠0->(lexF n l).1=[]/\0<(lexF n l).2.1/\(lexF n l).2.1≤l.length):=by
 intro n
 induction n with
 | zero=>intro l;simp[lexF]
 | succ n ih=>
   intro l;rw[zcM];obtain⟨k,hk,he⟩:=zfp l;have hsl:(skipped l).length≤l.length:=by rw[he,qa4];omega
   by_cases h1:skipped l=[]
   ·rw[oG h1];simp
   ·rw[oH h1];by_cases h2:(zae (skipped l)).1.2.2≠0
    ·rw[oG h2];refine⟨oC,oC,oC,fun _=>⟨rfl,qbf.2 h1,hsl⟩⟩
    ·rw[oH h2];have h2':(zae (skipped l)).1.2.2=0:=by simpa using h2
     obtain⟨t1,t2,t3⟩:=zvf (k:=(zae (skipped l)).1.1) (x:=(zae (skipped l)).1.2.1) (n:=(zae (skipped l)).2) h1 (by rw[<-h2']) 0;obtain⟨_,_,tne⟩:=ziS t1 (.inl rfl) 0;have hpos:=qbf.2 tne
     have htl:(zae (skipped l)).2≤(skipped l).length:=by
      have:=oJ List.length t2
      rw[qba,<-t3]at this;omega
     obtain⟨i1,i2,i3,i4⟩:=ih ((skipped l).drop (zae (skipped l)).2);rw[qa4]at i2 i4;generalize lexF n ((skipped l).drop (zae (skipped l)).2)=q at i1 i2 i3 i4;by_cases h4:q.2.2=0
     ·rw[oG h4];refine⟨fun a ha=>?_,?_,?_,fun h=>oI rfl h⟩
      ·rcases qa5.1 ha with rfl|ha
       ·exact⟨t1,hsl⟩
       ·obtain⟨j1,j2⟩:=i1 a ha;rw[qa4]at j2;exact⟨j1,oA⟩
      ·simp only[qaf,qaG];omega
      ·simp only[qaf,qaG,qae];omega
     ·rw[oH h4];obtain⟨j1,j2,j3⟩:=i4 h4;refine⟨by rw[j1];simp,by rw[j1];simp,by rw[j1];simp,fun _=>⟨j1,j2,oA⟩⟩
theorem zjH(h:blank c.toNat=true):∀n,lexF n (c::l)=lexF n l
 | 0=>rfl
 | n+1=>by rw[zcM,zcM,zkV h]
theorem join_cons(t:Tok)(ts:List Tok):join (t::ts)=zar t++za0 [] false ts:=by
 unfold join;rw[za0,zcK];simp
theorem zig(ts:List Tok):za0 [] false ts=if ts=[] then[] else 32::join ts:=by
 cases ts with
 | nil=>rfl
 | cons t ts=>rw[join_cons,oH oC,za0,zcK];simp
theorem zkC:∀(ts:List Tok),(∀t∈ts,zbQ t.1 t.2.1)->∀n,(join ts).length<n->(lexF n (join ts)).2=(0,0)/\(lexF n (join ts)).1.map (fun a=>(a.1,a.2.1))=ts.map fun t=>(t.1,t.2.1)
 | [],_,n,hn=>by
   cases n with
   | zero=>omega
   | succ n=>
     have:skipped (join [])=[]:=ziI
     rw[zcM,oG this];simp
 | t::ts,h,n,hn=>by
   obtain⟨k,x,p⟩:=t
   have hsep:Sep (za0 [] false ts):=by
    rw[zig];split
    ·exact .inl rfl
    ·exact .inr ⟨_,rfl⟩
   obtain⟨a1,a2,a3⟩:=ziS (k:=k) (x:=x) (h (k,x,p) qah) hsep p;rw[join_cons]at hn⊢;cases n with
   | zero=>omega
   | succ n=>
     rw[qab]at hn;have hpos:=qbf.2 a3;rw[zcM,a2,oH (by simp[a3]),a1,oH oC,qbT]
     have ih:(lexF n (za0 [] false ts)).2=(0,0)/\(lexF n (za0 [] false ts)).1.map (fun a=>(a.1,a.2.1))=ts.map fun t=>(t.1,t.2.1):=by
      rw[zig]at hn⊢;by_cases ht:ts=[]
      ·subst ht;rw[oG rfl]at hn⊢;exact zkC [] oC n (by simp[join,za0];omega)
      ·rw[oH ht]at hn⊢;rw[zjH oB];exact zkC ts (fun u hu=>h u (qai _ hu)) n (by simp at hn;omega)
     rw[oG (by rw[ih.1])];exact⟨rfl,by simp[ih.2]⟩
theorem zo6:∀(ts:List Tok),(join ts).length≤(ts.map fun t=>(zar t).length).sum+ts.length
 | []=>by simp[join,za0]
 | t::ts=>by
   have:=zo6 ts
   rw[join_cons,qab,zig];simp only[qaf,qaG,qae];split
   ·simp;omega
   ·simp;omega
end Go.Proofs.YtdicfgideclbdaaGreatDoor
