import Derived.RegionTactic
import Derived.Test.YthmbhfgflijapaaGreatDoorPk11
set_option linter.all false
namespace Go.Proofs.YthmbhfgflijapaaGreatDoor
open Go Go.TL Go.RowKit
set_option maxHeartbeats 1000000 in
set_option maxRecDepth 100000 in
theorem zj7 (b o g cap cells:Nat) (l:Str) (h0:l≠ []) (w:World) (hc:w.cell? ⟨b,o+1,none⟩=some (.slice (some ⟨g,0,none⟩) l.length cap)) (hcap:l.length≤cap) (hcl:l.length≤cells) (hsh:w.shape? g=some (5,cells)) (h63:l.length≤9223372036854775807)
  (hcell:∀(j:Nat) x,l[j]?=some x->w.cell? ((⟨g,0,none⟩:Addr).add j)=some (.int .u8 x.toNat)):
  Calls Tryz.prog 32 #[.pointer (some ⟨b,o,none⟩)] w fun e w'=>e= .returned (.string ⟨l.toArray⟩)/\w'=w.drew.freeze ⟨g,0,none⟩ l.length:=by
 have hl0:l.length≠0:=by simpa using h0
 have c1:w.drew.cell? ⟨b,o+1,none⟩=some (.slice (some ⟨g,0,none⟩) l.length cap):=hc
 have hSD:(Builtin.unsafeSliceData_ #[81] 144 #[.slice (some ⟨g,0,none⟩) l.length cap]).run Tryz.prog w.drew= .ok (.pointer (some ⟨g,0,none⟩)) w.drew:=
  Lib.run_unsafeSliceData_row _ _ _ _ _ _ (by omega)
 have hUS:(Builtin.unsafeString_ #[144,3] 9 #[.pointer (some ⟨g,0,none⟩),.int .i64 l.length]).run Tryz.prog w.drew= .ok (.string ⟨l.toArray⟩) (w.drew.freeze ⟨g,0,none⟩ l.length):=
  Lib.run_unsafeString_row w.drew 144 3 9 5 (by kernel_rfl) (by kernel_rfl) g cells hsh l h0 hcl h63 hcell
 clear hc hsh hcell
 go_enter Tryz.func32,Tryz.ntmps32
 go_wp2
 go_region
 all_goals(go_wp2;go_ret;exact⟨rfl,rfl⟩)
set_option maxHeartbeats 1000000 in
set_option maxRecDepth 100000 in
theorem zj6 (b o:Nat) (w:World) (c1:w.drew.cell? ⟨b,o+1,none⟩=some (.slice none 0 0)):
  Calls Tryz.prog 32 #[.pointer (some ⟨b,o,none⟩)] w fun e w'=>e= .returned (.string ⟨#[]⟩)/\w'=w.drew:=by
 have hSD:(Builtin.unsafeSliceData_ #[81] 144 #[.slice none 0 0]).run Tryz.prog w.drew= .ok (.pointer none) w.drew:=Lib.run_unsafeSliceData_nil _ _ _ _ _
 have hUS:(Builtin.unsafeString_ #[144,3] 9 #[.pointer none,.int .i64 0]).run Tryz.prog w.drew= .ok (.string ⟨#[]⟩) w.drew:=Lib.run_unsafeString_none _ _ _ _ _
 go_enter Tryz.func32,Tryz.ntmps32
 go_wp2
 go_region
 all_goals(go_wp2;go_ret;exact⟨rfl,rfl⟩)
set_option maxHeartbeats 1000000 in
set_option maxRecDepth 100000 in
theorem zj8 (b o g cap:Nat) (hcap:0<cap) (w:World) (c1:w.drew.cell? ⟨b,o+1,none⟩=some (.slice (some ⟨g,0,none⟩) 0 cap)):
  Calls Tryz.prog 32 #[.pointer (some ⟨b,o,none⟩)] w fun e w'=>e= .returned (.string ⟨#[]⟩)/\w'=w.drew:=by
 have hSD:(Builtin.unsafeSliceData_ #[81] 144 #[.slice (some ⟨g,0,none⟩) 0 cap]).run Tryz.prog w.drew= .ok (.pointer (some ⟨g,0,none⟩)) w.drew:=
  Lib.run_unsafeSliceData_row _ _ _ _ _ _ (by omega)
 have hUS:(Builtin.unsafeString_ #[144,3] 9 #[.pointer (some ⟨g,0,none⟩),.int .i64 0]).run Tryz.prog w.drew= .ok (.string ⟨#[]⟩) w.drew:=Lib.run_unsafeString_none _ _ _ _ _
 go_enter Tryz.func32,Tryz.ntmps32
 go_wp2
 go_region
 all_goals(go_wp2;go_ret;exact⟨rfl,rfl⟩)
theorem zog(w:World):Keeps w w.drew:=⟨rfl,rfl,rfl,qae _,fun _ _=>rfl⟩
end Go.Proofs.YthmbhfgflijapaaGreatDoor
namespace Go.Proofs.YthmbhfgflijapaaGreatDoor
open Go Go.TL
attribute [local irreducible] TR TO Then zag RetK Sound zab Kf GG zaK
def blank(c:Int):Bool:=c == 32 || c == 9 || c == 10 || c == 13
set_option maxHeartbeats 400000 in
theorem zlK (c:Int):Pure Tryz.prog 115 [u8 c] (.b (blank c)):=by
 refine so Tryz.func115 ?_
 repeat' (first|refine wg2 ?_ ?_|refine wg ?_|exact wgc|intro hc|fail)
 all_goals refine RetK.pure rfl ?_ rfl
 all_goals exact Le.of_eq (by simp_all [blank,pack])
def zao(p:Int->Bool):Str->Str
 | []=>[]
 | c::r=>if p c.toNat then c::zao p r else[]
theorem zcx(p:Int->Bool):∀l,(zao p l).length≤l.length
 | []=>qae _
 | c::r=>by unfold zao;split <;> simp;exact zcx p r
theorem zdY(p:Int->Bool):∀l,zao p l=l.take (zao p l).length
 | []=>rfl
 | c::r=>by
   unfold zao;split
   ·simp only[qal,qaL];rw[<-zdY p r]
   ·rfl
abbrev scanner (s:Str)(k:Nat):Heap:=[.cells [.s s,.i k]]
set_option maxHeartbeats 1000000 in
theorem zdG (fid:FuncId) (p:Int->Bool) (hp:∀c,Pure Tryz.prog fid [u8 c] (.b (p c))) (s:Str) (hs:s.length≤1000000) (i:Nat) (hi:i≤s.length):
  Sound Tryz.prog 114 [.ref 0 0,.fn fid []] (scanner s i) (fun r H'=>r= .ret (.s (zao p (s.drop i)))/\H'=scanner s (i+(zao p (s.drop i)).length)):=by
 refine so Tryz.func114 ?_
 repeat' (first|refine wg2 ?_ ?_|refine wg ?_|exact wgc|intro hc|fail)
 refine TR.zcS (ι:=Nat) (fun k=>i≤k/\k≤s.length/\zao p (s.drop i)=(s.take k).drop i++zao p (s.drop k)) (fun k=>s.length-k) (fun k=>[(0,.ref 0 0),(1,.fn fid []),(5,.i i)]) (fun k=>scanner s k) i ⟨qae _,hi,?_⟩ ⟨rfl,rfl,rfl,trivial⟩ rfl ?_
 ·have h0:(s.take i).drop i=[]:=qbR (by simp;omega)
  rw[h0];rfl
 rintro k ⟨h1,h2,h3⟩
 by_cases hlt:k<s.length
 ·have hx:=qac hlt
  repeat' (first|refine wg2 ?_ ?_|refine wg ?_|exact wgc|intro hc|(apply TO.zd4 (hp _);(iterate 3 exact rfl);exact⟨.t _,trivial⟩)|fail)
  ·refine zab.next (k+1) ⟨by omega,hlt,?_⟩ (by omega) ⟨rfl,rfl,rfl,trivial⟩ rfl
   rw[h3,qaT hlt,qax hlt,qce (by simp;omega)]
   simp[zao,hc]
  ·have:zao p (s.drop k)=[]:=by rw[qaT hlt];simp[zao,hc]
   exact zwbj
 ·repeat' (first|refine wg2 ?_ ?_|refine wg ?_|exact wgc|intro hc|(apply TO.zd4 (hp _);(iterate 3 exact rfl);exact⟨.t _,trivial⟩)|fail)
  have:zao p (s.drop k)=[]:=by rw[qbR (by omega)];rfl
  exact zwbj
def zbb(a b:Str):Bool:=decide (b.length≤a.length) && a.take b.length == b
set_option maxHeartbeats 400000 in
theorem zfs (a b:Str):Pure Tryz.prog 133 [.s a,.s b] (.b (zbb a b)):=by
 refine so Tryz.func133 ?_
 by_cases h:b.length≤a.length
 ·repeat' (first|refine wg2 ?_ ?_|refine wg ?_|exact wgc|intro hc|fail)
  all_goals exact zwds
 ·repeat' (first|refine wg2 ?_ ?_|refine wg ?_|exact wgc|intro hc|fail)
  all_goals exact zwds
set_option maxHeartbeats 400000 in
theorem zen (a b:Str):Pure Tryz.prog 93 [.s a,.s b] (.b (zbb a b)):=by
 refine so Tryz.func93 ?_
 repeat' (first|refine wg2 ?_ ?_|refine wg ?_|exact wgc|intro hc|(apply TO.zd4 (zfs _ _);(iterate 3 exact rfl);exact⟨.t _,.t _,trivial⟩)|fail)
 all_goals try(refine RetK.pure rfl ?_ rfl;exact Le.of_eq (by simp_all [pack,zfs] <;> omega))
set_option maxHeartbeats 400000 in
theorem zmA (c:Int):Pure Tryz.prog 116 [u8 c] (.b (c != 10)):=by
 refine so Tryz.func116 ?_
 repeat' (first|refine wg2 ?_ ?_|refine wg ?_|exact wgc|intro hc|fail)
 all_goals exact zwds
def zau(c:Int):Bool:=c == 48 || c == 49 || c == 40 || c == 41
set_option maxHeartbeats 400000 in
theorem zmJ (c:Int):Pure Tryz.prog 156 [u8 c] (.b (zau c)):=by
 refine so Tryz.func156 ?_
 repeat' (first|refine wg2 ?_ ?_|refine wg ?_|exact wgc|intro hc|fail)
 all_goals try(refine RetK.pure rfl ?_ rfl;exact Le.of_eq (by simp_all [pack,zau] <;> omega))
def behind(p:Int->Bool)(l:Str):Str:=l.drop (zao p l).length
theorem zfQ(p:Int->Bool)(l:Str):(behind p l).length≤l.length:=by simp[behind]
theorem zdS{l:Str}(h:zbb l [45,45]=true):∃r,l=45::45::r:=by
 match l,h with
 | a::b::r,h=>simp[zbb]at h;exact⟨r,by rw[h.1,h.2]⟩
 | [a],h=>simp[zbb]at h
 | [],h=>simp[zbb]at h
theorem zhb{r:Str}:(behind (fun c=>c != 10) (45::45::r)).length<(45::45::r:Str).length:=by
 have:(zao (fun c=>c != 10) (45::45::r)).length=(zao (fun c=>c != 10) r).length+2:=by simp[zao]
 simp[behind,this];omega
def skipped(l:Str):Str:=
 if h:zbb (behind blank l) [45,45]=true then skipped (behind (fun c=>c != 10) (behind blank l)) else behind blank l
termination_by l.length
decreasing_by
 obtain⟨r,hr⟩:=zdS h
 have h1:=zfQ blank l
 rw[hr]at h1⊢
 have:=@zhb r
 omega
theorem zcw(l:Str):skipped l=if zbb (behind blank l) [45,45]=true then skipped (behind (fun c=>c != 10) (behind blank l)) else behind blank l:=by
 rw[skipped];split <;> rfl
theorem zhX(l:Str):(skipped l).length≤l.length:=by
 induction hn:l.length using Nat.strongRecOn generalizing l with
 | _ n ih=>
   subst hn
   rw[zcw]
   have h1:=zfQ blank l
   split
   ·rename_i h
    obtain⟨r,hr⟩:=zdS h
    have:=@zhb r
    rw[hr]at h1⊢
    have h2:=ih _ (by omega) (behind (fun c=>c != 10) (45::45::r)) rfl
    omega
   ·exact h1
theorem zeW(p:Int->Bool)(s:Str)(k:Nat):s.drop (k+(zao p (s.drop k)).length)=behind p (s.drop k):=by
 rw[behind,qbP]
theorem zjN(p:Int->Bool)(s:Str)(k:Nat)(hk:k≤s.length):k+(zao p (s.drop k)).length≤s.length:=by
 have:=zcx p (s.drop k)
 rw[qaZ]at this;omega
set_option maxHeartbeats 1000000 in
theorem zoH (s:Str) (hs:s.length≤1000000) (i:Nat) (hi:i≤s.length):
  Sound Tryz.prog 80 [.ref 0 0] (scanner s i) (fun r H'=>r= .ret (.tup [])/\H'=scanner s (s.length-(skipped (s.drop i)).length)):=by
 refine so Tryz.func80 ?_
 repeat' (first|refine wg2 ?_ ?_|refine wg ?_|exact wgc|intro hc|fail)
 refine TR.zcS (ι:=Nat) (fun k=>k≤s.length/\skipped (s.drop k)=skipped (s.drop i)) (fun k=>s.length-k) (fun k=>[(0,.ref 0 0)]) (fun k=>scanner s k) i ⟨hi,rfl⟩ ⟨rfl,trivial⟩ rfl ?_
 rintro k ⟨h1,h3⟩
 obtain⟨a,ha⟩:∃a,a=zao blank (s.drop k):=⟨_,rfl⟩
 have ha1:=zjN blank s k h1
 have ha2:=zeW blank s k
 rw[<-ha]at ha1 ha2
 obtain⟨b,hb⟩:∃b,b=zao (fun c=>c != 10) (s.drop (k+a.length)):=⟨_,rfl⟩
 have hb1:=zjN (fun c=>c != 10) s (k+a.length) ha1
 have hb2:=zeW (fun c=>c != 10) s (k+a.length)
 rw[<-hb]at hb1 hb2
 have hS1:=zdG 115 blank zlK s hs k h1
 rw[<-ha]at hS1
 have hS2:=zdG 116 (fun c=>c != 10) zmA s hs (k+a.length) ha1
 rw[<-hb]at hS2
 have he:=zcw (s.drop k)
 repeat' (first|refine wg2 ?_ ?_|refine wg ?_|exact wgc|intro hc|(apply TO.zds [0] (v':=.s a) (H':=scanner s (k+a.length)) (hS1);(iterate 3 exact rfl);(first|exact⟨Le.refl _,trivial⟩|exact⟨Le.refl _,Le.refl _,trivial⟩|exact⟨Le.refl _,Le.refl _,Le.refl _,trivial⟩);exact rfl;exact Hands.one rfl rfl;exact rfl;exact rfl)|(apply TO.zds [0] (v':=.s b) (H':=scanner s (k+a.length+b.length)) (hS2);(iterate 3 exact rfl);(first|exact⟨Le.refl _,trivial⟩|exact⟨Le.refl _,Le.refl _,trivial⟩|exact⟨Le.refl _,Le.refl _,Le.refl _,trivial⟩);exact rfl;exact Hands.one rfl rfl;exact rfl;exact rfl)|(apply TO.zd4 (zen _ _);(iterate 3 exact rfl);exact⟨.t _,.t _,trivial⟩)|fail)
 ·have hlt:0<b.length:=by
   rw[hb,ha2]
   rw[ha2]at hc
   obtain⟨r,hr⟩:=zdS hc
   rw[hr];simp[zao]
  refine zab.next (k+a.length+b.length) ⟨hb1,?_⟩ (by omega) ⟨rfl,trivial⟩ rfl
  rw[<-h3,he,hb2,<-ha2,if_pos hc]
 ·refine RetK.keep 1 rfl (Le.refl _) rfl rfl rfl rfl rfl ⟨rfl,?_⟩
  rw[<-ha2,if_neg (by simp[hc])]at he
  rw[<-h3,he,qaZ,show s.length-(s.length-(k+a.length))=k+a.length from by omega];rfl
abbrev tokV (k:Int)(x:Str)(p:Int):SV:=.ag [.i k,.s x,.i p]
abbrev tokR (a:Int×Str×Int):SV:=.tup [tokV a.1 a.2.1 0,.i a.2.2]
def zcK(w:Str):Int×Str×Int:=if 40<(w.length:Int) then(0,[],3) else if keyword w then(3,w,0) else(1,w,0)
def zc0(w:Str):Int×Str×Int:=
 if decide (1<(w.length:Int)) && (match w with|c::_=>((c.toNat:Int) == 48)|[]=>false) then(0,[],5)
 else if decide (5<(w.length:Int)) || ((w.length:Int) == 5 && !(Op.bytesLess w [51,50,55,54,56] || w == [51,50,55,54,56])) then(0,[],14) else(2,w,0)
set_option maxHeartbeats 1000000 in
theorem zon (s:Str) (hs:s.length≤1000000) (i:Nat) (hi:i≤s.length):
  Sound Tryz.prog 118 [.ref 0 0] (scanner s i) (fun r H'=>r= .ret (tokR (zcK (zao inner (s.drop i))))/\H'=scanner s (i+(zao inner (s.drop i)).length)):=by
 refine so Tryz.func118 ?_
 have hS1:=zdG 149 inner zhy s hs i hi
 generalize zao inner (s.drop i)=a at hS1⊢
 repeat' (first|refine wg2 ?_ ?_|refine wg ?_|exact wgc|intro hc|(apply TO.zds [0] (v':=.s a) (H':=[.cells [.s s,.i ((i+a.length:Nat):Int)],.cells [.i 0,.s [],.i 0]]) (hS1);(iterate 3 exact rfl);(first|exact⟨Le.refl _,trivial⟩|exact⟨Le.refl _,Le.refl _,trivial⟩|exact⟨Le.refl _,Le.refl _,Le.refl _,trivial⟩);exact rfl;exact Hands.one rfl rfl;exact rfl;exact rfl)|(apply TO.zd4 (zcc _);(iterate 3 exact rfl);exact⟨.t _,trivial⟩)|fail)
 all_goals(refine RetK.keep 1 rfl (Le.of_eq (congrArg tokR (a₁:=(_,_,_)) (a₂:=zcK a) ?_)) rfl rfl rfl rfl rfl ⟨rfl,?_⟩ <;> first|rfl|(simp_all [zcK];done)|(simp only[zcK];(repeat' split) <;> first|rfl|(exfalso;simp_all;done)|(exfalso;simp_all <;> omega)))
set_option maxHeartbeats 1000000 in
theorem zkT (s:Str) (hs:s.length≤1000000) (i:Nat) (hi:i≤s.length):
  Sound Tryz.prog 120 [.ref 0 0] (scanner s i) (fun r H'=>r= .ret (tokR (zc0 (zao digit (s.drop i))))/\H'=scanner s (i+(zao digit (s.drop i)).length)):=by
 refine so Tryz.func120 ?_
 have hS1:=zdG 119 digit zeY s hs i hi
 have hl:=zjN digit s i hi
 generalize zao digit (s.drop i)=a at hS1 hl⊢
 cases a with
 | nil=>
   repeat' (first|refine wg2 ?_ ?_|refine wg ?_|exact wgc|intro hc|(apply TO.zds [0] (v':=.s []) (H':=[.cells [.s s,.i ((i+([]:Str).length:Nat):Int)],.cells [.i 0,.s [],.i 0]]) (hS1);(iterate 3 exact rfl);(first|exact⟨Le.refl _,trivial⟩|exact⟨Le.refl _,Le.refl _,trivial⟩|exact⟨Le.refl _,Le.refl _,Le.refl _,trivial⟩);exact rfl;exact Hands.one rfl rfl;exact rfl;exact rfl)|(apply TO.zd4 (zcc _);(iterate 3 exact rfl);exact⟨.t _,trivial⟩)|fail)
   all_goals(refine RetK.keep 1 rfl (Le.of_eq (congrArg tokR (a₁:=(_,_,_)) (a₂:=zc0 _) ?_)) rfl rfl rfl rfl rfl ⟨rfl,?_⟩ <;> first|rfl|(simp_all [zc0];done)|(simp only[zc0];(repeat' split) <;> first|rfl|(exfalso;simp_all;done)|(exfalso;simp_all <;> omega)))
 | cons c r=>
   repeat' (first|refine wg2 ?_ ?_|refine wg ?_|exact wgc|intro hc|(apply TO.zds [0] (v':=.s (c::r)) (H':=[.cells [.s s,.i ((i+(c::r).length:Nat):Int)],.cells [.i 0,.s [],.i 0]]) (hS1);(iterate 3 exact rfl);(first|exact⟨Le.refl _,trivial⟩|exact⟨Le.refl _,Le.refl _,trivial⟩|exact⟨Le.refl _,Le.refl _,Le.refl _,trivial⟩);exact rfl;exact Hands.one rfl rfl;exact rfl;exact rfl)|(apply TO.zd4 (zcc _);(iterate 3 exact rfl);exact⟨.t _,trivial⟩)|fail)
   all_goals(refine RetK.keep 1 rfl (Le.of_eq (congrArg tokR (a₁:=(_,_,_)) (a₂:=zc0 _) ?_)) rfl rfl rfl rfl rfl ⟨rfl,?_⟩ <;> first|rfl|(simp_all [zc0];done)|(simp only[zc0];(repeat' split) <;> first|rfl|(exfalso;simp_all;done)|(exfalso;simp_all <;> omega)))
def zeR(n:Int):Str->Bool
 | c::_=>(c.toNat:Int) == n
 | []=>false
theorem zl9{n:Int}{s:Str}{k:Nat}(h:k<s.length):zeR n (s.drop k)=((s[k].toNat:Int) == n):=by
 rw[qaT h];rfl
def zc8(w q:Str):Int×Str×Int:=if zeR 39 q then(5,w,0) else(0,[],5)
def zc7(w q:Str):Nat:=if zeR 39 q then w.length+2 else w.length+1
theorem zsE{w q:Str}{i:Nat}(h:zeR 39 q=true):zc8 w q=(5,w,0)/\i+zc7 w q=i+1+w.length+1:=by
 simp only[zc8,zc7,h,if_true];exact⟨trivial,by omega⟩
theorem zrd{w q:Str}{i:Nat}(h:zeR 39 q=false):zc8 w q=(0,[],5)/\i+zc7 w q=i+1+w.length:=by
 simp only[zc8,zc7,h];exact⟨rfl,by simp;omega⟩
set_option maxHeartbeats 1000000 in
theorem zoR (s:Str) (hs:s.length≤1000000) (i:Nat) (hi:i<s.length):
  Sound Tryz.prog 121 [.ref 0 0] (scanner s i) (fun r H'=>r= .ret (tokR (zc8 (zao zau (s.drop (i+1))) (behind zau (s.drop (i+1)))))/\H'=scanner s (i+zc7 (zao zau (s.drop (i+1))) (behind zau (s.drop (i+1))))):=by
 refine so Tryz.func121 ?_
 have hS1:=zdG 156 zau zmJ s hs (i+1) hi
 have hl:=zjN zau s (i+1) hi
 rw[<-zeW zau s (i+1)]
 generalize zao zau (s.drop (i+1))=a at hS1 hl⊢
 by_cases he:i+1+a.length<s.length
 ·have hx:=qac he
  have hh:=zl9 (n:=39) he
  generalize s[i+1+a.length]=c at hx hh
  repeat' (first|refine wg2 ?_ ?_|refine wg ?_|exact wgc|intro hc|(apply TO.zds [0] (v':=.s a) (H':=[.cells [.s s,.i ((i+1+a.length:Nat):Int)],.cells [.i 0,.s [],.i 0]]) (hS1);(iterate 3 exact rfl);(first|exact⟨Le.refl _,trivial⟩|exact⟨Le.refl _,Le.refl _,trivial⟩|exact⟨Le.refl _,Le.refl _,Le.refl _,trivial⟩);exact rfl;exact Hands.one rfl rfl;exact rfl;exact rfl)|fail)
  ·obtain⟨e1,e2⟩:=zrd (w:=a) (i:=i) (hh.trans (by simpa using hc))
   exact zwew
  ·obtain⟨e1,e2⟩:=zsE (w:=a) (i:=i) (hh.trans (by simpa using hc))
   exact zwew
 ·have hh:zeR 39 (s.drop (i+1+a.length))=false:=by rw[qbR (by omega)];rfl
  repeat' (first|refine wg2 ?_ ?_|refine wg ?_|exact wgc|intro hc|(apply TO.zds [0] (v':=.s a) (H':=[.cells [.s s,.i ((i+1+a.length:Nat):Int)],.cells [.i 0,.s [],.i 0]]) (hS1);(iterate 3 exact rfl);(first|exact⟨Le.refl _,trivial⟩|exact⟨Le.refl _,Le.refl _,trivial⟩|exact⟨Le.refl _,Le.refl _,Le.refl _,trivial⟩);exact rfl;exact Hands.one rfl rfl;exact rfl;exact rfl)|fail)
  obtain⟨e1,e2⟩:=zrd (w:=a) (i:=i) hh
  exact zwew
def zeJ(l b x:Str):Str:=if decide ((b.length:Int)<x.length) && zbb l x then x else b
def best(l:Str)(all:List Str):Str:=all.foldl (zeJ l) []
theorem zo8(l:Str)(all:List Str):∀b:Str,b.length≤l.length->(all.foldl (zeJ l) b).length≤l.length:=by
 induction all with
 | nil=>exact fun b h=>h
 | cons x all ih=>
   refine fun b h=>ih _ ?_
   unfold zeJ;split
   ·rename_i g
    simp only[qau,zbb,decide_eq_true_eq]at g
    exact g.2.1
   ·exact h
def zgu(b:Str):Int×Str×Int:=if b == [] then(0,[],5) else(4,b,0)
set_option maxHeartbeats 1000000 in
theorem zli (all:List Str) (hall:all.length≤1000000) (s:Str) (hs:s.length≤1000000) (i:Nat) (hi:i≤s.length):
  Sound Tryz.prog 122 [.ref 0 0,.t (.sl 1 (all.map T.s))] (scanner s i) (fun r H'=>r= .ret (tokR (zgu (best (s.drop i) all)))/\H'=scanner s (i+(best (s.drop i) all).length)):=by
 refine so Tryz.func122 ?_
 repeat' (first|refine wg2 ?_ ?_|refine wg ?_|exact wgc|intro hc|fail)
 refine TR.zcS (ι:=Nat) (fun k=>k≤all.length) (fun k=>all.length-k) (fun k=>[(0,.ref 0 0),(11,.i k),(10,.i (all.map T.s).length),(9,.t (.sl 1 (all.map T.s))),(6,.s (best (s.drop i) (all.take k))),(5,.i 0),(4,.ref 1 0)]) (fun _=>[.cells [.s s,.i i],.cells [.i 0,.s [],.i 0]]) 0 (qaJ _) ⟨rfl,rfl,rfl,rfl,rfl,rfl,rfl,trivial⟩ rfl ?_
 intro k hk
 have hml:(all.map T.s).length=all.length:=qab _
 by_cases hlt:k<all.length
 ·have hx:(all.map T.s)[k]?=some (T.s all[k]):=by rw[qar,qac hlt];rfl
  have hb:best (s.drop i) (all.take (k+1))=zeJ (s.drop i) (best (s.drop i) (all.take k)) all[k]:=by
   rw[best,qax hlt,qbA];rfl
  generalize all[k]=x at hx hb
  repeat' (first|refine wg2 ?_ ?_|refine wg ?_|exact wgc|intro hc|(apply TO.zd4 (zen _ _);(iterate 3 exact rfl);exact⟨.t _,.t _,trivial⟩)|fail)
  ·refine zab.next (k+1) hlt (by omega) ⟨rfl,rfl,rfl,rfl,?_,rfl,rfl,trivial⟩ rfl
   rw[hb,zeJ,if_pos (by simp_all)];rfl
  ·refine zab.next (k+1) hlt (by omega) ⟨rfl,rfl,rfl,rfl,?_,rfl,rfl,trivial⟩ rfl
   rw[hb,zeJ,if_neg (by simp_all)];rfl
  ·refine zab.next (k+1) hlt (by omega) ⟨rfl,rfl,rfl,rfl,?_,rfl,rfl,trivial⟩ rfl
   rw[hb,zeJ,if_neg (by rw[hc];simp)];rfl
 ·have hkl:k=all.length:=by omega
  subst hkl
  rw[qap]
  have hbl:=zo8 (s.drop i) all [] (qaJ _)
  rw[<-best,qaZ]at hbl
  generalize best (s.drop i) all=b at hbl
  repeat' (first|refine wg2 ?_ ?_|refine wg ?_|exact wgc|intro hc|(apply TO.zd4 (zen _ _);(iterate 3 exact rfl);exact⟨.t _,.t _,trivial⟩)|fail)
  ·have:b=[]:=by simpa using hc
   subst this
   exact zwfr
  ·have e1:zgu b=(4,b,0):=if_neg (by simp[hc])
   rw[e1]
   exact zwfr
def zci:List Str:=[[40],[41],[58],[59],[44],[61],[124],[45,62],[60,62],[60,61],[62,61],[60],[62],[43],[45],[42],[47]]
def zad(l:Str):(Int×Str×Int)×Nat:=
 match l with
 | []=>((0,[],5),0)
 | c::r=>
   if letter c.toNat then(zcK (zao inner l),(zao inner l).length)
   else if digit c.toNat then(zc0 (zao digit l),(zao digit l).length)
   else if(c.toNat:Int) == 39 then(zc8 (zao zau r) (behind zau r),zc7 (zao zau r) (behind zau r))
   else(zgu (best l zci),(best l zci).length)
set_option maxHeartbeats 1000000 in
theorem zmG (s:Str) (hs:s.length≤1000000) (i:Nat) (hi:i<s.length):
  Sound Tryz.prog 81 [.ref 0 0] (scanner s i) (fun r H'=>r= .ret (tokR (zad (s.drop i)).1)/\H'=scanner s (i+(zad (s.drop i)).2)):=by
 refine so Tryz.func81 ?_
 have hx:=qac hi
 have hd:s.drop i=s[i]::s.drop (i+1):=qaT hi
 have h1:=zon s hs i (qbY hi)
 have h2:=zkT s hs i (qbY hi)
 have h3:=zoR s hs i hi
 have h4:=zli zci (by decide) s hs i (qbY hi)
 have e1:letter s[i].toNat=true->zad (s.drop i)=(zcK (zao inner (s.drop i)),(zao inner (s.drop i)).length):=fun g=>by rw[hd];simp only[zad,g,if_true]
 have e2:letter s[i].toNat=false->digit s[i].toNat=true->zad (s.drop i)=(zc0 (zao digit (s.drop i)),(zao digit (s.drop i)).length):=fun g g2=>by rw[hd];simp only[zad,g,g2,if_true];rfl
 have e3:letter s[i].toNat=false->digit s[i].toNat=false->((s[i].toNat:Int) == 39)=true->zad (s.drop i)=(zc8 (zao zau (s.drop (i+1))) (behind zau (s.drop (i+1))),zc7 (zao zau (s.drop (i+1))) (behind zau (s.drop (i+1)))):=fun g g2 g3=>by rw[hd];simp only[zad,g,g2,g3,if_true];rfl
 have e4:letter s[i].toNat=false->digit s[i].toNat=false->((s[i].toNat:Int) == 39)=false->zad (s.drop i)=(zgu (best (s.drop i) zci),(best (s.drop i) zci).length):=fun g g2 g3=>by rw[hd];simp only[zad,g,g2,g3,if_true];rfl
 generalize zad (s.drop i)=tk at e1 e2 e3 e4⊢
 generalize zcK (zao inner (s.drop i))=t1 at h1 e1
 generalize (zao inner (s.drop i)).length=n1 at h1 e1
 generalize zc0 (zao digit (s.drop i))=t2 at h2 e2
 generalize (zao digit (s.drop i)).length=n2 at h2 e2
 generalize zc8 (zao zau (s.drop (i+1))) (behind zau (s.drop (i+1)))=t3 at h3 e3
 generalize zc7 (zao zau (s.drop (i+1))) (behind zau (s.drop (i+1)))=n3 at h3 e3
 generalize zgu (best (s.drop i) zci)=t4 at h4 e4
 generalize (best (s.drop i) zci).length=n4 at h4 e4
 clear hd
 generalize s[i]=c at hx e1 e2 e3 e4
 repeat' (first|refine wg2 ?_ ?_|refine wg ?_|exact wgc|intro hc|(apply TO.zd4 (zdg _);(iterate 3 exact rfl);exact⟨.t _,trivial⟩)|(apply TO.zd4 (zeY _);(iterate 3 exact rfl);exact⟨.t _,trivial⟩)|(apply TO.zds [0] (v':=tokR t1) (H':=[.cells [.s s,.i ((i+n1:Nat):Int)],.cells [.i 0,.s [],.i 0]]) (h1);(iterate 3 exact rfl);(first|exact⟨Le.refl _,trivial⟩|exact⟨Le.refl _,Le.refl _,trivial⟩|exact⟨Le.refl _,Le.refl _,Le.refl _,trivial⟩);exact rfl;exact Hands.one rfl rfl;exact rfl;exact rfl)|(apply TO.zds [0] (v':=tokR t2) (H':=[.cells [.s s,.i ((i+n2:Nat):Int)],.cells [.i 0,.s [],.i 0]]) (h2);(iterate 3 exact rfl);(first|exact⟨Le.refl _,trivial⟩|exact⟨Le.refl _,Le.refl _,trivial⟩|exact⟨Le.refl _,Le.refl _,Le.refl _,trivial⟩);exact rfl;exact Hands.one rfl rfl;exact rfl;exact rfl)|(apply TO.zds [0] (v':=tokR t3) (H':=[.cells [.s s,.i ((i+n3:Nat):Int)],.cells [.i 0,.s [],.i 0]]) (h3);(iterate 3 exact rfl);(first|exact⟨Le.refl _,trivial⟩|exact⟨Le.refl _,Le.refl _,trivial⟩|exact⟨Le.refl _,Le.refl _,Le.refl _,trivial⟩);exact rfl;exact Hands.one rfl rfl;exact rfl;exact rfl)|(apply TO.zds [0] (v':=tokR t4) (H':=[.cells [.s s,.i ((i+n4:Nat):Int)],.cells [.i 0,.s [],.i 0]]) (h4);(iterate 3 exact rfl);(first|exact⟨Le.refl _,trivial⟩|exact⟨Le.refl _,Le.refl _,trivial⟩|exact⟨Le.refl _,Le.refl _,Le.refl _,trivial⟩);exact rfl;exact Hands.one rfl rfl;exact rfl;exact rfl)|fail)
 ·rw[e1 hc];exact RetK.keep 1 rfl (Le.refl _) rfl rfl rfl rfl rfl ⟨rfl,rfl⟩
 ·rw[e2 (by assumption) hc];exact RetK.keep 1 rfl (Le.refl _) rfl rfl rfl rfl rfl ⟨rfl,rfl⟩
 ·rw[e3 (by assumption) (by assumption) hc];exact RetK.keep 1 rfl (Le.refl _) rfl rfl rfl rfl rfl ⟨rfl,rfl⟩
 ·rw[e4 (by assumption) (by assumption) hc];exact RetK.keep 1 rfl (Le.refl _) rfl rfl rfl rfl rfl ⟨rfl,rfl⟩
abbrev Tok:=Int×Str×Int
abbrev tokT (t:Tok):T:=.ag [.i t.1,.s t.2.1,.i t.2.2]
def zda:Nat->Str->Nat->List Tok->List Tok×Int×Int
 | 0,_,_,_=>([],0,0)
 | n+1,s,i,out=>
   if s.length-(skipped (s.drop i)).length=s.length then(out,0,0)
   else if((zad (s.drop (s.length-(skipped (s.drop i)).length))).1.2.2 != 0)=true then([],((s.length-(skipped (s.drop i)).length:Nat):Int),(zad (s.drop (s.length-(skipped (s.drop i)).length))).1.2.2)
   else zda n s (s.length-(skipped (s.drop i)).length+(zad (s.drop (s.length-(skipped (s.drop i)).length))).2)
    (out++[((zad (s.drop (s.length-(skipped (s.drop i)).length))).1.1,(zad (s.drop (s.length-(skipped (s.drop i)).length))).1.2.1,((s.length-(skipped (s.drop i)).length:Nat):Int))])
def scan(s:Str):List Tok×Int×Int:=if 65536<s.length then([],0,3) else zda (s.length+1) s 0 []
abbrev zwQ (a:List Tok×Int×Int):SV:=.tup [.t (.sl 3 (a.1.map tokT)),.i a.2.1,.i a.2.2]
theorem zh6{l:Str}(hl:l≠ [])(h:((zad l).1.2.2 != 0)=false):0<(zad l).2/\(zad l).2≤l.length:=by
 match l,hl with
 | c::r,_=>
   have g1:=zcx inner (c::r)
   have g2:=zcx digit (c::r)
   have g3:=zcx zau r
   have g4:=zo8 (c::r) zci [] (qaJ _)
   have g5:best (c::r) zci=zci.foldl (zeJ (c::r)) []:=rfl
   rw[<-g5]at g4
   clear g5
   revert h
   unfold zad
   simp only
   generalize best (c::r) zci=b at g4⊢
   split
   ·rename_i h1
    intro _
    refine⟨?_,g1⟩
    have:inner c.toNat=true:=by simp[inner,h1]
    simp[zao,this]
   ·split
    ·rename_i h1
     intro _
     refine⟨?_,g2⟩
     simp[zao,h1]
    ·split
     ·intro h
      have hq:zeR 39 (behind zau r)=true:=by
       cases hq:zeR 39 (behind zau r) with
       | true=>rfl
       | false=>simp[zc8,hq]at h
      have hb:(behind zau r)≠ []:=fun e=>by rw[e]at hq;cases hq
      have hl:=qba.2 hb
      simp only[behind,qaZ]at hl
      simp only[zc7,hq,if_true,qal]
      omega
     ·intro h
      refine⟨?_,g4⟩
      simp only[zgu]at h
      split at h
      ·simp at h
      ·rename_i hb
       exact qba.2 (fun e=>hb (by rw[e];rfl))
set_option maxHeartbeats 2000000 in
theorem ziX (s:Str):Pure Tryz.prog 47 [.s s] (zwQ (scan s)):=by
 refine so Tryz.func47 ?_
 repeat' (first|refine wg2 ?_ ?_|refine wg ?_|exact wgc|intro hc|fail)
 ·refine RetK.pure rfl ?_ rfl
  have:scan s=([],0,3):=if_pos (by simp at hc;omega)
  rw[this]
  exact Le.tup ⟨Le.nil 3,Le.refl _,Le.refl _,trivial⟩
 ·refine TR.tail 3 6 rfl ?_
  have hlen:s.length≤65536:=by simp at hc;omega
  have hsc:scan s=zda (s.length+1) s 0 []:=if_neg (by omega)
  refine TR.zcS (ι:=Nat×Nat×List Tok) (fun x=>x.2.1≤s.length/\s.length-x.2.1<x.1/\x.2.2.length≤x.2.1/\zda x.1 s x.2.1 x.2.2=scan s) (fun x=>x.1)
   (fun x=>[(0,.s s),(5,.ref 0 0),(6,.sl 3 (x.2.2.map tokT) 1)]) (fun x=>[.cells [.s s,.i x.2.1],.tail (x.2.2.map tokT).length]) (s.length+1,0,[]) ⟨qaJ _,by simp,qae _,hsc.symm⟩ ⟨rfl,rfl,rfl,trivial⟩ rfl ?_
  clear hc hsc
  rintro⟨n,i,out⟩ ⟨hi,hn,ho,he⟩
  simp only at hi hn ho he⊢
  obtain⟨n,rfl⟩:∃m,n=m+1:=⟨n-1,by omega⟩
  rw[zda]at he
  have hS:=zoH s (by omega) i hi
  have hj1:=zhX (s.drop i)
  rw[qaZ]at hj1
  obtain⟨j,hj⟩:∃j,j=s.length-(skipped (s.drop i)).length:=⟨_,rfl⟩
  rw[<-hj]at he hS
  have hj2:i≤j:=by omega
  have hj3:j≤s.length:=by omega
  clear hj hj1
  have hml:(out.map tokT).length=out.length:=qab _
  by_cases hlt:j<s.length
  ·have hT:=zmG s (by omega) j hlt
   have hL:=zh6 (l:=s.drop j) (by simp;omega)
   rw[if_neg (by omega)]at he
   rw[qaZ]at hL
   generalize zad (s.drop j)=tk at hT hL he
   obtain⟨⟨ka,xa,ea⟩,na⟩:=tk
   simp only at hT hL he
   repeat' (first|refine wg2 ?_ ?_|refine wg ?_|exact wgc|intro hc|(apply TO.zds [0] (v':=.tup []) (H':=[.cells [.s s,.i (j:Int)],.tail (out.map tokT).length]) (hS);(iterate 3 exact rfl);(first|exact⟨Le.refl _,trivial⟩|exact⟨Le.refl _,Le.refl _,trivial⟩|exact⟨Le.refl _,Le.refl _,Le.refl _,trivial⟩);exact rfl;exact Hands.one rfl rfl;exact rfl;exact rfl)|(apply TO.zds [0] (v':=tokR (ka,xa,ea)) (H':=[.cells [.s s,.i ((j+na:Nat):Int)],.tail (out.map tokT).length]) (hT);(iterate 3 exact rfl);(first|exact⟨Le.refl _,trivial⟩|exact⟨Le.refl _,Le.refl _,trivial⟩|exact⟨Le.refl _,Le.refl _,Le.refl _,trivial⟩);exact rfl;exact Hands.one rfl rfl;exact rfl;exact rfl)|fail)
   ·refine RetK.pure rfl ?_ rfl
    rw[if_pos hc]at he
    rw[<-he]
    exact Le.tup ⟨Le.nil 3,Le.refl _,Le.refl _,trivial⟩
   ·obtain⟨hL1,hL2⟩:=hL hc
    rw[if_neg (by rw[show(ea != 0)=false from hc];simp)]at he
    refine zab.cut 2 (n,j+na,out++[(ka,xa,(j:Int))]) ⟨by simp only;omega,by simp only;omega,by simp only[qad,qal,qaz];omega,he⟩ (qbD n) ⟨rfl,rfl,?_,trivial⟩ rfl rfl ?_ rfl rfl
    ·simp only[qaH];rfl
    ·simp only[qaH,qad];rfl
  ·repeat' (first|refine wg2 ?_ ?_|refine wg ?_|exact wgc|intro hc|(apply TO.zds [0] (v':=.tup []) (H':=[.cells [.s s,.i (j:Int)],.tail (out.map tokT).length]) (hS);(iterate 3 exact rfl);(first|exact⟨Le.refl _,trivial⟩|exact⟨Le.refl _,Le.refl _,trivial⟩|exact⟨Le.refl _,Le.refl _,Le.refl _,trivial⟩);exact rfl;exact Hands.one rfl rfl;exact rfl;exact rfl)|fail)
   have hje:j=s.length:=by omega
   rw[if_pos hje]at he
   refine RetK.pure rfl ?_ rfl
   rw[<-he]
   exact Le.tup ⟨Le.own 3 _ 1,Le.refl _,Le.refl _,trivial⟩
theorem zgZ(p:Int->Bool):∀(l:Str),∀c∈zao p l,p c.toNat=true
 | [],c,h=>by cases h
 | x::l,c,h=>by
   unfold zao at h
   split at h
   ·rcases qa2.1 h with rfl|h
    ·assumption
    ·exact zgZ p l c h
   ·cases h
end Go.Proofs.YthmbhfgflijapaaGreatDoor
