import Derived.Test.YtdicfgideclbdaaGreatDoorPk12
import Derived.Test.YtdicfgideclbdaaGreatDoorPk14
set_option maxHeartbeats 64000000
set_option linter.all false
namespace Go.Proofs.YtdicfgideclbdaaGreatDoor
open Go Go.TL
attribute [local irreducible] TR TO Then zal RetK Sound zab Kf GG zaR
def blank(c:Int):Bool:=c == 32 || c == 9 || c == 10 || c == 13
theorem zm5 (c:Int):Pure Tryz.prog 50 [u8 c] (.b (blank c)):=by
 refine so Tryz.func50 ?_;repeat' (first|refine wg2 ?_ ?_|refine wg ?_|exact wgc|intro hc)
 all_goals refine RetK.pure rfl ?_ rfl
 all_goals exact Le.of_eq (by simp_all [blank,pack])
def zao(p:Int->Bool):Str->Str
 | []=>[]
 | c::r=>if p c.toNat then c::zao p r else[]
theorem zcB(p:Int->Bool):∀l,(zao p l).length≤l.length
 | []=>qag _
 | c::r=>by unfold zao;split <;> simp;exact zcB p r
theorem zeh(p:Int->Bool):∀l,zao p l=l.take (zao p l).length
 | []=>rfl
 | c::r=>by
   unfold zao;split
   ·simp only[qae,qaM];rw[<-zeh p r]
   ·rfl
abbrev scanner (s:Str)(k:Nat):Heap:=[.cells [.s s,.i k]]
theorem zdW (fid:FuncId) (p:Int->Bool) (hp:∀c,Pure Tryz.prog fid [u8 c] (.b (p c))) (s:Str) (hs:s.length≤1000000) (i:Nat) (hi:i≤s.length):
  Sound Tryz.prog 49 [.ref 0 0,.fn fid []] (scanner s i) (fun r H'=>r= .ret (.s (zao p (s.drop i)))/\H'=scanner s (i+(zao p (s.drop i)).length)):=by
 refine so Tryz.func49 ?_;repeat' (first|refine wg2 ?_ ?_|refine wg ?_|exact wgc|intro hc)
 refine TR.zbo (ι:=Nat) (fun k=>i≤k/\k≤s.length/\zao p (s.drop i)=(s.take k).drop i++zao p (s.drop k)) (fun k=>s.length-k) (fun k=>[(0,.ref 0 0),(1,.fn fid []),(5,.i i)]) (fun k=>scanner s k) i ⟨qag _,hi,?_⟩ ⟨rfl,rfl,rfl,trivial⟩ rfl ?_
 ·have h0:(s.take i).drop i=[]:=qbY oF;rw[h0];rfl
 rintro k ⟨h1,h2,h3⟩;by_cases hlt:k<s.length
 ·have hx:=qad hlt;repeat' (first|refine wg2 ?_ ?_|refine wg ?_|exact wgc|(apply TO.zel (hp _);(iterate 3 exact rfl);exact⟨.t _,trivial⟩)|intro hc)
  ·refine zab.next (k+1) ⟨oA,hlt,?_⟩ oA ⟨rfl,rfl,rfl,trivial⟩ rfl;rw[h3,qaP hlt,qaE hlt,qcn oF];simp[zao,hc]
  ·have:zao p (s.drop k)=[]:=by rw[qaP hlt];simp[zao,hc]
   exact zwq
 ·repeat' (first|refine wg2 ?_ ?_|refine wg ?_|exact wgc|(apply TO.zel (hp _);(iterate 3 exact rfl);exact⟨.t _,trivial⟩)|intro hc)
  have:zao p (s.drop k)=[]:=by rw[qbY oA];rfl
  exact zwq
def zbh(a b:Str):Bool:=decide (b.length≤a.length) && a.take b.length == b
theorem zfS (a b:Str):Pure Tryz.prog 107 [.s a,.s b] (.b (zbh a b)):=by
 refine so Tryz.func107 ?_;by_cases h:b.length≤a.length
 ·repeat' (first|refine wg2 ?_ ?_|refine wg ?_|exact wgc|intro hc)
  all_goals exact zwde
 ·repeat' (first|refine wg2 ?_ ?_|refine wg ?_|exact wgc|intro hc)
  all_goals exact zwde
theorem zeH (a b:Str):Pure Tryz.prog 51 [.s a,.s b] (.b (zbh a b)):=by
 refine so Tryz.func51 ?_;repeat' (first|refine wg2 ?_ ?_|refine wg ?_|exact wgc|(apply TO.zel (zfS _ _);(iterate 3 exact rfl);exact⟨.t _,.t _,trivial⟩)|intro hc)
 all_goals try(refine RetK.pure rfl ?_ rfl;exact Le.of_eq (by simp_all [pack,zfS] <;> omega))
theorem zn1 (c:Int):Pure Tryz.prog 52 [u8 c] (.b (c != 10)):=by
 refine so Tryz.func52 ?_;repeat' (first|refine wg2 ?_ ?_|refine wg ?_|exact wgc|intro hc)
 all_goals exact zwde
def zau(c:Int):Bool:=c == 48 || c == 49 || c == 40 || c == 41
theorem zoh (c:Int):Pure Tryz.prog 110 [u8 c] (.b (zau c)):=by
 refine so Tryz.func110 ?_;repeat' (first|refine wg2 ?_ ?_|refine wg ?_|exact wgc|intro hc)
 all_goals try(refine RetK.pure rfl ?_ rfl;exact Le.of_eq (by simp_all [pack,zau] <;> omega))
def behind(p:Int->Bool)(l:Str):Str:=l.drop (zao p l).length
theorem zgm(p:Int->Bool)(l:Str):(behind p l).length≤l.length:=by simp[behind]
theorem zea{l:Str}(h:zbh l [45,45]=true):∃r,l=45::45::r:=by
 match l,h with
 | a::b::r,h=>simp[zbh]at h;exact⟨r,by rw[h.1,h.2]⟩
 | [a],h=>simp[zbh]at h
 | [],h=>simp[zbh]at h
theorem zhK{r:Str}:(behind (fun c=>c != 10) (45::45::r)).length<(45::45::r:Str).length:=by
 have:(zao (fun c=>c != 10) (45::45::r)).length=(zao (fun c=>c != 10) r).length+2:=by simp[zao]
 simp[behind,this];omega
def skipped(l:Str):Str:=
 if h:zbh (behind blank l) [45,45]=true then skipped (behind (fun c=>c != 10) (behind blank l)) else behind blank l
termination_by l.length
decreasing_by
 obtain⟨r,hr⟩:=zea h;have h1:=zgm blank l;rw[hr]at h1⊢
 have:=@zhK r
 omega
theorem zcA(l:Str):skipped l=if zbh (behind blank l) [45,45]=true then skipped (behind (fun c=>c != 10) (behind blank l)) else behind blank l:=by
 rw[skipped];split <;> rfl
theorem zix(l:Str):(skipped l).length≤l.length:=by
 induction hn:l.length using Nat.strongRecOn generalizing l with
 | _ n ih=>
   subst hn;rw[zcA];have h1:=zgm blank l;split
   ·rename_i h;obtain⟨r,hr⟩:=zea h
    have:=@zhK r
    rw[hr]at h1⊢;have h2:=ih _ oA (behind (fun c=>c != 10) (45::45::r)) rfl;omega
   ·exact h1
theorem zfl(p:Int->Bool)(s:Str)(k:Nat):s.drop (k+(zao p (s.drop k)).length)=behind p (s.drop k):=by
 rw[behind,qbV]
theorem zkL(p:Int->Bool)(s:Str)(k:Nat)(hk:k≤s.length):k+(zao p (s.drop k)).length≤s.length:=by
 have:=zcB p (s.drop k)
 rw[qa3]at this;omega
theorem zqT (s:Str) (hs:s.length≤1000000) (i:Nat) (hi:i≤s.length):
  Sound Tryz.prog 19 [.ref 0 0] (scanner s i) (fun r H'=>r= .ret (.tup [])/\H'=scanner s (s.length-(skipped (s.drop i)).length)):=by
 refine so Tryz.func19 ?_;repeat' (first|refine wg2 ?_ ?_|refine wg ?_|exact wgc|intro hc)
 refine TR.zbo (ι:=Nat) (fun k=>k≤s.length/\skipped (s.drop k)=skipped (s.drop i)) (fun k=>s.length-k) (fun k=>[(0,.ref 0 0)]) (fun k=>scanner s k) i ⟨hi,rfl⟩ ⟨rfl,trivial⟩ rfl ?_;rintro k ⟨h1,h3⟩;obtain⟨a,ha⟩:∃a,a=zao blank (s.drop k):=⟨_,rfl⟩;have ha1:=zkL blank s k h1;have ha2:=zfl blank s k;rw[<-ha]at ha1 ha2;obtain⟨b,hb⟩:∃b,b=zao (fun c=>c != 10) (s.drop (k+a.length)):=⟨_,rfl⟩;have hb1:=zkL (fun c=>c != 10) s (k+a.length) ha1;have hb2:=zfl (fun c=>c != 10) s (k+a.length);rw[<-hb]at hb1 hb2;have hS1:=zdW 50 blank zm5 s hs k h1;rw[<-ha]at hS1;have hS2:=zdW 52 (fun c=>c != 10) zn1 s hs (k+a.length) ha1;rw[<-hb]at hS2;have he:=zcA (s.drop k);repeat' (first|refine wg2 ?_ ?_|refine wg ?_|exact wgc|(apply TO.zdD [0] (v':=.s a) (H':=scanner s (k+a.length)) (hS1);(iterate 3 exact rfl);exact Les.refl _;exact rfl;exact Hands.one rfl rfl;exact rfl;exact rfl)|(apply TO.zdD [0] (v':=.s b) (H':=scanner s (k+a.length+b.length)) (hS2);(iterate 3 exact rfl);exact Les.refl _;exact rfl;exact Hands.one rfl rfl;exact rfl;exact rfl)|(apply TO.zel (zeH _ _);(iterate 3 exact rfl);exact⟨.t _,.t _,trivial⟩)|intro hc)
 ·have hlt:0<b.length:=by
   rw[hb,ha2];rw[ha2]at hc;obtain⟨r,hr⟩:=zea hc;rw[hr];simp[zao]
  refine zab.next (k+a.length+b.length) ⟨hb1,?_⟩ oA ⟨rfl,trivial⟩ rfl;rw[<-h3,he,hb2,<-ha2,oG hc]
 ·refine RetK.keep 1 rfl (Le.refl _) rfl rfl rfl rfl rfl ⟨rfl,?_⟩;rw[<-ha2,oH (by simp[hc])]at he;rw[<-h3,he,qa3,show s.length-(s.length-(k+a.length))=k+a.length from oA];rfl
abbrev tokV (k:Int)(x:Str)(p:Int):SV:=.ag [.i k,.s x,.i p]
abbrev tokR (a:Int×Str×Int):SV:=.tup [tokV a.1 a.2.1 0,.i a.2.2]
def zcy(w:Str):Int×Str×Int:=if 40<(w.length:Int) then(0,[],3) else if keyword w then(3,w,0) else(1,w,0)
def zc9(w:Str):Int×Str×Int:=
 if decide (1<(w.length:Int)) && (match w with|c::_=>((c.toNat:Int) == 48)|[]=>false) then(0,[],5)
 else if decide (5<(w.length:Int)) || ((w.length:Int) == 5 && !(Op.bytesLess w [51,50,55,54,56] || w == [51,50,55,54,56])) then(0,[],14) else(2,w,0)
theorem zqD (s:Str) (hs:s.length≤1000000) (i:Nat) (hi:i≤s.length):
  Sound Tryz.prog 54 [.ref 0 0] (scanner s i) (fun r H'=>r= .ret (tokR (zcy (zao inner (s.drop i))))/\H'=scanner s (i+(zao inner (s.drop i)).length)):=by
 refine so Tryz.func54 ?_;have hS1:=zdW 108 inner zh7 s hs i hi;generalize zao inner (s.drop i)=a at hS1⊢;repeat' (first|refine wg2 ?_ ?_|refine wg ?_|exact wgc|(apply TO.zdD [0] (v':=.s a) (H':=[.cells [.s s,.i ((i+a.length:Nat):Int)],.cells [.i 0,.s [],.i 0]]) (hS1);(iterate 3 exact rfl);exact Les.refl _;exact rfl;exact Hands.one rfl rfl;exact rfl;exact rfl)|(apply TO.zel (zcg _);(iterate 3 exact rfl);exact⟨.t _,trivial⟩)|intro hc)
 all_goals(refine RetK.keep 1 rfl (Le.of_eq (oJ tokR (a₁:=(_,_,_)) (a₂:=zcy a) ?_)) rfl rfl rfl rfl rfl ⟨rfl,?_⟩ <;> first|rfl|(simp_all [zcy];done)|(simp only[zcy];(repeat' split) <;> first|rfl|(exfalso;simp_all;done)|(exfalso;simp_all <;> omega)))
theorem zl4 (s:Str) (hs:s.length≤1000000) (i:Nat) (hi:i≤s.length):
  Sound Tryz.prog 56 [.ref 0 0] (scanner s i) (fun r H'=>r= .ret (tokR (zc9 (zao digit (s.drop i))))/\H'=scanner s (i+(zao digit (s.drop i)).length)):=by
 refine so Tryz.func56 ?_;have hS1:=zdW 55 digit zfn s hs i hi;have hl:=zkL digit s i hi;generalize zao digit (s.drop i)=a at hS1 hl⊢;cases a with
 | nil=>
   repeat' (first|refine wg2 ?_ ?_|refine wg ?_|exact wgc|(apply TO.zdD [0] (v':=.s []) (H':=[.cells [.s s,.i ((i+([]:Str).length:Nat):Int)],.cells [.i 0,.s [],.i 0]]) (hS1);(iterate 3 exact rfl);exact Les.refl _;exact rfl;exact Hands.one rfl rfl;exact rfl;exact rfl)|(apply TO.zel (zcg _);(iterate 3 exact rfl);exact⟨.t _,trivial⟩)|intro hc)
   all_goals(refine RetK.keep 1 rfl (Le.of_eq (oJ tokR (a₁:=(_,_,_)) (a₂:=zc9 _) ?_)) rfl rfl rfl rfl rfl ⟨rfl,?_⟩ <;> first|rfl|(simp_all [zc9];done)|(simp only[zc9];(repeat' split) <;> first|rfl|(exfalso;simp_all;done)|(exfalso;simp_all <;> omega)))
 | cons c r=>
   repeat' (first|refine wg2 ?_ ?_|refine wg ?_|exact wgc|(apply TO.zdD [0] (v':=.s (c::r)) (H':=[.cells [.s s,.i ((i+(c::r).length:Nat):Int)],.cells [.i 0,.s [],.i 0]]) (hS1);(iterate 3 exact rfl);exact Les.refl _;exact rfl;exact Hands.one rfl rfl;exact rfl;exact rfl)|(apply TO.zel (zcg _);(iterate 3 exact rfl);exact⟨.t _,trivial⟩)|intro hc)
   all_goals(refine RetK.keep 1 rfl (Le.of_eq (oJ tokR (a₁:=(_,_,_)) (a₂:=zc9 _) ?_)) rfl rfl rfl rfl rfl ⟨rfl,?_⟩ <;> first|rfl|(simp_all [zc9];done)|(simp only[zc9];(repeat' split) <;> first|rfl|(exfalso;simp_all;done)|(exfalso;simp_all <;> omega)))
def zff(n:Int):Str->Bool
 | c::_=>(c.toNat:Int) == n
 | []=>false
theorem znv{n:Int}{s:Str}{k:Nat}(h:k<s.length):zff n (s.drop k)=((s[k].toNat:Int) == n):=by
 rw[qaP h];rfl
def zdg(w q:Str):Int×Str×Int:=if zff 39 q then(5,w,0) else(0,[],5)
def zdf(w q:Str):Nat:=if zff 39 q then w.length+2 else w.length+1
theorem zvw{w q:Str}{i:Nat}(h:zff 39 q=true):zdg w q=(5,w,0)/\i+zdf w q=i+1+w.length+1:=by
 simp only[zdg,zdf,h,if_true];exact⟨trivial,oA⟩
theorem ztZ{w q:Str}{i:Nat}(h:zff 39 q=false):zdg w q=(0,[],5)/\i+zdf w q=i+1+w.length:=by
 simp only[zdg,zdf,h];exact⟨rfl,oF⟩
theorem zq4 (s:Str) (hs:s.length≤1000000) (i:Nat) (hi:i<s.length):
  Sound Tryz.prog 57 [.ref 0 0] (scanner s i) (fun r H'=>r= .ret (tokR (zdg (zao zau (s.drop (i+1))) (behind zau (s.drop (i+1)))))/\H'=scanner s (i+zdf (zao zau (s.drop (i+1))) (behind zau (s.drop (i+1))))):=by
 refine so Tryz.func57 ?_;have hS1:=zdW 110 zau zoh s hs (i+1) hi;have hl:=zkL zau s (i+1) hi;rw[<-zfl zau s (i+1)];generalize zao zau (s.drop (i+1))=a at hS1 hl⊢;by_cases he:i+1+a.length<s.length
 ·have hx:=qad he;have hh:=znv (n:=39) he;generalize s[i+1+a.length]=c at hx hh;repeat' (first|refine wg2 ?_ ?_|refine wg ?_|exact wgc|(apply TO.zdD [0] (v':=.s a) (H':=[.cells [.s s,.i ((i+1+a.length:Nat):Int)],.cells [.i 0,.s [],.i 0]]) (hS1);(iterate 3 exact rfl);exact Les.refl _;exact rfl;exact Hands.one rfl rfl;exact rfl;exact rfl)|intro hc)
  ·obtain⟨e1,e2⟩:=ztZ (w:=a) (i:=i) (hh.trans (by simpa using hc));exact zwek
  ·obtain⟨e1,e2⟩:=zvw (w:=a) (i:=i) (hh.trans (by simpa using hc));exact zwek
 ·have hh:zff 39 (s.drop (i+1+a.length))=false:=by rw[qbY oA];rfl
  repeat' (first|refine wg2 ?_ ?_|refine wg ?_|exact wgc|(apply TO.zdD [0] (v':=.s a) (H':=[.cells [.s s,.i ((i+1+a.length:Nat):Int)],.cells [.i 0,.s [],.i 0]]) (hS1);(iterate 3 exact rfl);exact Les.refl _;exact rfl;exact Hands.one rfl rfl;exact rfl;exact rfl)|intro hc)
  obtain⟨e1,e2⟩:=ztZ (w:=a) (i:=i) hh;exact zwek
def ze7(l b x:Str):Str:=if decide ((b.length:Int)<x.length) && zbh l x then x else b
def best(l:Str)(all:List Str):Str:=all.foldl (ze7 l) []
theorem zrm(l:Str)(all:List Str):∀b:Str,b.length≤l.length->(all.foldl (ze7 l) b).length≤l.length:=by
 induction all with
 | nil=>exact fun b h=>h
 | cons x all ih=>
   refine fun b h=>ih _ ?_
   unfold ze7;split
   ·rename_i g;simp only[qar,zbh,decide_eq_true_eq]at g;exact g.2.1
   ·exact h
def zg1(b:Str):Int×Str×Int:=if b == [] then(0,[],5) else(4,b,0)
theorem zmB (all:List Str) (hall:all.length≤1000000) (s:Str) (hs:s.length≤1000000) (i:Nat) (hi:i≤s.length):
  Sound Tryz.prog 58 [.ref 0 0,.t (.sl 1 (all.map T.s))] (scanner s i) (fun r H'=>r= .ret (tokR (zg1 (best (s.drop i) all)))/\H'=scanner s (i+(best (s.drop i) all).length)):=by
 refine so Tryz.func58 ?_;repeat' (first|refine wg2 ?_ ?_|refine wg ?_|exact wgc|intro hc)
 refine TR.zbo (ι:=Nat) (fun k=>k≤all.length) (fun k=>all.length-k) (fun k=>[(0,.ref 0 0),(11,.i k),(10,.i (all.map T.s).length),(9,.t (.sl 1 (all.map T.s))),(6,.s (best (s.drop i) (all.take k))),(5,.i 0),(4,.ref 1 0)]) (fun _=>[.cells [.s s,.i i],.cells [.i 0,.s [],.i 0]]) 0 (qaN _) ⟨rfl,rfl,rfl,rfl,rfl,rfl,rfl,trivial⟩ rfl ?_;intro k hk;have hml:(all.map T.s).length=all.length:=qac _;by_cases hlt:k<all.length
 ·have hx:(all.map T.s)[k]?=some (T.s all[k]):=by rw[qan,qad hlt];rfl
  have hb:best (s.drop i) (all.take (k+1))=ze7 (s.drop i) (best (s.drop i) (all.take k)) all[k]:=by
   rw[best,qaE hlt,qbI];rfl
  generalize all[k]=x at hx hb;repeat' (first|refine wg2 ?_ ?_|refine wg ?_|exact wgc|(apply TO.zel (zeH _ _);(iterate 3 exact rfl);exact⟨.t _,.t _,trivial⟩)|intro hc)
  ·refine zab.next (k+1) hlt oA ⟨rfl,rfl,rfl,rfl,?_,rfl,rfl,trivial⟩ rfl;rw[hb,ze7,oG (by simp_all)];rfl
  ·refine zab.next (k+1) hlt oA ⟨rfl,rfl,rfl,rfl,?_,rfl,rfl,trivial⟩ rfl;rw[hb,ze7,oH (by simp_all)];rfl
  ·refine zab.next (k+1) hlt oA ⟨rfl,rfl,rfl,rfl,?_,rfl,rfl,trivial⟩ rfl;rw[hb,ze7,oH (by rw[hc];simp)];rfl
 ·have hkl:k=all.length:=oA
  subst hkl;rw[qap];have hbl:=zrm (s.drop i) all [] (qaN _);rw[<-best,qa3]at hbl;generalize best (s.drop i) all=b at hbl;repeat' (first|refine wg2 ?_ ?_|refine wg ?_|exact wgc|(apply TO.zel (zeH _ _);(iterate 3 exact rfl);exact⟨.t _,.t _,trivial⟩)|intro hc)
  ·have:b=[]:=by simpa using hc
   subst this;exact zwfg
  ·have e1:zg1 b=(4,b,0):=oH (by simp[hc]);rw[e1];exact zwfg
def zcj:List Str:=[[40],[41],[58],[59],[44],[61],[124],[45,62],[60,62],[60,61],[62,61],[60],[62],[43],[45],[42],[47]]
def zae(l:Str):(Int×Str×Int)×Nat:=
 match l with
 | []=>((0,[],5),0)
 | c::r=>
   if letter c.toNat then(zcy (zao inner l),(zao inner l).length)
   else if digit c.toNat then(zc9 (zao digit l),(zao digit l).length)
   else if(c.toNat:Int) == 39 then(zdg (zao zau r) (behind zau r),zdf (zao zau r) (behind zau r))
   else(zg1 (best l zcj),(best l zcj).length)
theorem zod (s:Str) (hs:s.length≤1000000) (i:Nat) (hi:i<s.length):
  Sound Tryz.prog 20 [.ref 0 0] (scanner s i) (fun r H'=>r= .ret (tokR (zae (s.drop i)).1)/\H'=scanner s (i+(zae (s.drop i)).2)):=by
 refine so Tryz.func20 ?_;have hx:=qad hi;have hd:s.drop i=s[i]::s.drop (i+1):=qaP hi;have h1:=zqD s hs i (qb6 hi);have h2:=zl4 s hs i (qb6 hi);have h3:=zq4 s hs i hi;have h4:=zmB zcj oB s hs i (qb6 hi);have e1:letter s[i].toNat=true->zae (s.drop i)=(zcy (zao inner (s.drop i)),(zao inner (s.drop i)).length):=fun g=>by rw[hd];simp only[zae,g,if_true]
 have e2:letter s[i].toNat=false->digit s[i].toNat=true->zae (s.drop i)=(zc9 (zao digit (s.drop i)),(zao digit (s.drop i)).length):=fun g g2=>by rw[hd];simp only[zae,g,g2,if_true];rfl
 have e3:letter s[i].toNat=false->digit s[i].toNat=false->((s[i].toNat:Int) == 39)=true->zae (s.drop i)=(zdg (zao zau (s.drop (i+1))) (behind zau (s.drop (i+1))),zdf (zao zau (s.drop (i+1))) (behind zau (s.drop (i+1)))):=fun g g2 g3=>by rw[hd];simp only[zae,g,g2,g3,if_true];rfl
 have e4:letter s[i].toNat=false->digit s[i].toNat=false->((s[i].toNat:Int) == 39)=false->zae (s.drop i)=(zg1 (best (s.drop i) zcj),(best (s.drop i) zcj).length):=fun g g2 g3=>by rw[hd];simp only[zae,g,g2,g3,if_true];rfl
 generalize zae (s.drop i)=tk at e1 e2 e3 e4⊢;generalize zcy (zao inner (s.drop i))=t1 at h1 e1;generalize (zao inner (s.drop i)).length=n1 at h1 e1;generalize zc9 (zao digit (s.drop i))=t2 at h2 e2;generalize (zao digit (s.drop i)).length=n2 at h2 e2;generalize zdg (zao zau (s.drop (i+1))) (behind zau (s.drop (i+1)))=t3 at h3 e3;generalize zdf (zao zau (s.drop (i+1))) (behind zau (s.drop (i+1)))=n3 at h3 e3;generalize zg1 (best (s.drop i) zcj)=t4 at h4 e4;generalize (best (s.drop i) zcj).length=n4 at h4 e4;clear hd;generalize s[i]=c at hx e1 e2 e3 e4;repeat' (first|refine wg2 ?_ ?_|refine wg ?_|exact wgc|(apply TO.zel (zdq _);(iterate 3 exact rfl);exact⟨.t _,trivial⟩)|(apply TO.zel (zfn _);(iterate 3 exact rfl);exact⟨.t _,trivial⟩)|(apply TO.zdD [0] (v':=tokR t1) (H':=[.cells [.s s,.i ((i+n1:Nat):Int)],.cells [.i 0,.s [],.i 0]]) (h1);(iterate 3 exact rfl);exact Les.refl _;exact rfl;exact Hands.one rfl rfl;exact rfl;exact rfl)|(apply TO.zdD [0] (v':=tokR t2) (H':=[.cells [.s s,.i ((i+n2:Nat):Int)],.cells [.i 0,.s [],.i 0]]) (h2);(iterate 3 exact rfl);exact Les.refl _;exact rfl;exact Hands.one rfl rfl;exact rfl;exact rfl)|(apply TO.zdD [0] (v':=tokR t3) (H':=[.cells [.s s,.i ((i+n3:Nat):Int)],.cells [.i 0,.s [],.i 0]]) (h3);(iterate 3 exact rfl);exact Les.refl _;exact rfl;exact Hands.one rfl rfl;exact rfl;exact rfl)|(apply TO.zdD [0] (v':=tokR t4) (H':=[.cells [.s s,.i ((i+n4:Nat):Int)],.cells [.i 0,.s [],.i 0]]) (h4);(iterate 3 exact rfl);exact Les.refl _;exact rfl;exact Hands.one rfl rfl;exact rfl;exact rfl)|intro hc)
 ·rw[e1 hc];exact RetK.keep 1 rfl (Le.refl _) rfl rfl rfl rfl rfl ⟨rfl,rfl⟩
 ·rw[e2 oE hc];exact RetK.keep 1 rfl (Le.refl _) rfl rfl rfl rfl rfl ⟨rfl,rfl⟩
 ·rw[e3 oE oE hc];exact RetK.keep 1 rfl (Le.refl _) rfl rfl rfl rfl rfl ⟨rfl,rfl⟩
 ·rw[e4 oE oE hc];exact RetK.keep 1 rfl (Le.refl _) rfl rfl rfl rfl rfl ⟨rfl,rfl⟩
abbrev Tok:=Int×Str×Int
abbrev tokT (t:Tok):T:=.ag [.i t.1,.s t.2.1,.i t.2.2]
def zdk:Nat->Str->Nat->List Tok->List Tok×Int×Int
 | 0,_,_,_=>([],0,0)
 | n+1,s,i,out=>
   if s.length-(skipped (s.drop i)).length=s.length then(out,0,0)
   else if((zae (s.drop (s.length-(skipped (s.drop i)).length))).1.2.2 != 0)=true then([],((s.length-(skipped (s.drop i)).length:Nat):Int),(zae (s.drop (s.length-(skipped (s.drop i)).length))).1.2.2)
   else zdk n s (s.length-(skipped (s.drop i)).length+(zae (s.drop (s.length-(skipped (s.drop i)).length))).2)
    (out++[((zae (s.drop (s.length-(skipped (s.drop i)).length))).1.1,(zae (s.drop (s.length-(skipped (s.drop i)).length))).1.2.1,((s.length-(skipped (s.drop i)).length:Nat):Int))])
def scan(s:Str):List Tok×Int×Int:=if 65536<s.length then([],0,3) else zdk (s.length+1) s 0 []
abbrev zBs (a:List Tok×Int×Int):SV:=.tup [.t (.sl 3 (a.1.map tokT)),.i a.2.1,.i a.2.2]
theorem ziG{l:Str}(hl:l≠ [])(h:((zae l).1.2.2 != 0)=false):0<(zae l).2/\(zae l).2≤l.length:=by
 match l,hl with
 | c::r,_=>
   have g1:=zcB inner (c::r);have g2:=zcB digit (c::r);have g3:=zcB zau r;have g4:=zrm (c::r) zcj [] (qaN _);have g5:best (c::r) zcj=zcj.foldl (ze7 (c::r)) []:=rfl;rw[<-g5]at g4;clear g5;revert h;unfold zae;simp only;generalize best (c::r) zcj=b at g4⊢;split
   ·rename_i h1;intro _;refine⟨?_,g1⟩
    have:inner c.toNat=true:=by simp[inner,h1]
    simp[zao,this]
   ·split
    ·rename_i h1;intro _;refine⟨?_,g2⟩;simp[zao,h1]
    ·split
     ·intro h
      have hq:zff 39 (behind zau r)=true:=by
       cases hq:zff 39 (behind zau r) with
       | true=>rfl
       | false=>simp[zdg,hq]at h
      have hb:(behind zau r)≠ []:=fun e=>by rw[e]at hq;cases hq
      have hl:=qbj.2 hb;simp only[behind,qa3]at hl;simp only[zdf,hq,if_true,qae];omega
     ·intro h;refine⟨?_,g4⟩;simp only[zg1]at h;split at h
      ·simp at h
      ·rename_i hb;exact qbj.2 (fun e=>hb (by rw[e];rfl))
theorem zqR (s:Str):Pure Tryz.prog 8 [.s s] (zBs (scan s)):=by
 refine so Tryz.func8 ?_;repeat' (first|refine wg2 ?_ ?_|refine wg ?_|exact wgc|intro hc)
 ·refine RetK.pure rfl ?_ rfl
  have:scan s=([],0,3):=oG (by simp at hc;omega)
  rw[this];exact Le.tup ⟨Le.nil 3,Le.refl _,Le.refl _,trivial⟩
 ·refine TR.tail 3 6 rfl ?_;have hlen:s.length≤65536:=by simp at hc;omega
  have hsc:scan s=zdk (s.length+1) s 0 []:=oH oA
  refine TR.zbo (ι:=Nat×Nat×List Tok) (fun x=>x.2.1≤s.length/\s.length-x.2.1<x.1/\x.2.2.length≤x.2.1/\zdk x.1 s x.2.1 x.2.2=scan s) (fun x=>x.1)
   (fun x=>[(0,.s s),(5,.ref 0 0),(6,.sl 3 (x.2.2.map tokT) 1)]) (fun x=>[.cells [.s s,.i x.2.1],.tail (x.2.2.map tokT).length]) (s.length+1,0,[]) ⟨qaN _,oC,qag _,hsc.symm⟩ ⟨rfl,rfl,rfl,trivial⟩ rfl ?_
  clear hc hsc;rintro⟨n,i,out⟩ ⟨hi,hn,ho,he⟩;simp only at hi hn ho he⊢;obtain⟨n,rfl⟩:∃m,n=m+1:=⟨n-1,oA⟩;rw[zdk]at he;have hS:=zqT s oA i hi;have hj1:=zix (s.drop i);rw[qa3]at hj1;obtain⟨j,hj⟩:∃j,j=s.length-(skipped (s.drop i)).length:=⟨_,rfl⟩;rw[<-hj]at he hS;have hj2:i≤j:=oA
  have hj3:j≤s.length:=oA
  clear hj hj1;have hml:(out.map tokT).length=out.length:=qac _;by_cases hlt:j<s.length
  ·have hT:=zod s oA j hlt;have hL:=ziG (l:=s.drop j) oF;rw[oH oA]at he;rw[qa3]at hL;generalize zae (s.drop j)=tk at hT hL he;obtain⟨⟨ka,xa,ea⟩,na⟩:=tk;simp only at hT hL he;repeat' (first|refine wg2 ?_ ?_|refine wg ?_|exact wgc|(apply TO.zdD [0] (v':=.tup []) (H':=[.cells [.s s,.i (j:Int)],.tail (out.map tokT).length]) (hS);(iterate 3 exact rfl);exact Les.refl _;exact rfl;exact Hands.one rfl rfl;exact rfl;exact rfl)|(apply TO.zdD [0] (v':=tokR (ka,xa,ea)) (H':=[.cells [.s s,.i ((j+na:Nat):Int)],.tail (out.map tokT).length]) (hT);(iterate 3 exact rfl);exact Les.refl _;exact rfl;exact Hands.one rfl rfl;exact rfl;exact rfl)|intro hc)
   ·refine RetK.pure rfl ?_ rfl;rw[oG hc]at he;rw[<-he];exact Le.tup ⟨Le.nil 3,Le.refl _,Le.refl _,trivial⟩
   ·obtain⟨hL1,hL2⟩:=hL hc;rw[oH (by rw[show(ea != 0)=false from hc];simp)]at he;refine zab.cut 2 (n,j+na,out++[(ka,xa,(j:Int))]) ⟨by simp only;omega,by simp only;omega,by simp only[qab,qae,qal];omega,he⟩ (qbQ n) ⟨rfl,rfl,?_,trivial⟩ rfl rfl ?_ rfl rfl
    ·simp only[qaw];rfl
    ·simp only[qaw,qab];rfl
  ·repeat' (first|refine wg2 ?_ ?_|refine wg ?_|exact wgc|(apply TO.zdD [0] (v':=.tup []) (H':=[.cells [.s s,.i (j:Int)],.tail (out.map tokT).length]) (hS);(iterate 3 exact rfl);exact Les.refl _;exact rfl;exact Hands.one rfl rfl;exact rfl;exact rfl)|intro hc)
   have hje:j=s.length:=oA
   rw[oG hje]at he;refine RetK.pure rfl ?_ rfl;rw[<-he];exact Le.tup ⟨Le.own 3 _ 1,Le.refl _,Le.refl _,trivial⟩
end Go.Proofs.YtdicfgideclbdaaGreatDoor
