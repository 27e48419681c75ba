import Derived.Test.YtdicfgideclbdaaGreatDoorPk45
import Derived.Test.YtdicfgideclbdaaGreatDoorPk47
set_option maxHeartbeats 64000000
set_option linter.all false
namespace Go.Proofs.YtdicfgideclbdaaGreatDoor
open Go Go.TL
attribute [local irreducible] TR TO Then zal RetK Sound zab Kf GG zaR
abbrev uV:SV:=.t (.v undef)
abbrev vDs (l:List Decl):SV:=.t (.sl 3 (l.map zag))
theorem zrM (l:List Tok) (n:Int) (es:List En) (hk:TkOk l) (hes:EsOk es) (i:Nat) (hi:i≤l.length) (most:Nat) (op:Bool) (hm:most≤1000):RdK l n es 113 [.i most,.b op] i i ((rdr l es).decls most op ((rdr l es).K.length+1) [] i) vDs:=by
 refine .of (fun h=>zfN _ [] h) hi fun x jx hr _ _=>?_
 have hl:=hk.len;have hml0:(l.map tokT).length=l.length:=qac _;refine so Tryz.func113 ?_;repeat' (first|refine wkb ?_|fail)
 refine TR.tail 3 7 rfl ?_
 refine TR.zbo (ι:=Nat×Nat×List Decl) (fun y=>y.2.1≤l.length/\l.length-y.2.1<y.1/\y.2.2.length≤y.2.1/\(rdr l es).decls most op y.1 y.2.2 y.2.1= .ok x jx) (fun y=>l.length-y.2.1) (fun y=>[(0,.ref 0 0),(1,.i most),(2,.b op),(7,.sl 3 (y.2.2.map zag) 1)]) (fun y=>[rdB l n es y.2.1,.tail (y.2.2.map zag).length]) ((rdr l es).K.length+1,i,[])
  ⟨hi,by rw[zat];show l.length-i<l.length+1;omega,by show 0≤i;omega,hr⟩ ⟨rfl,rfl,rfl,rfl,trivial⟩ rfl ?_
 clear hr;rintro⟨m,j,xs⟩ ⟨q2,q3,q4,hr⟩;replace q2:j≤l.length:=q2;replace q3:l.length-j<m:=q3;replace q4:xs.length≤j:=q4;replace hr:(rdr l es).decls most op m xs j= .ok x jx:=hr;have hml:(xs.map zag).length=xs.length:=qac _;obtain⟨m,rfl⟩:∃m',m=m'+1:=⟨m-1,oA⟩;rw[Rd.decls,Rd.zkn]at hr;have t1:=zbR l n es j 1 hl;split at hr
 ·rename_i h1;rw[h1]at t1;obtain⟨_,j3,q5,m3,_,b3,hr⟩:=(limK l n es j (xs.map zag).length xs.length most hl q2 hml).get hr;obtain⟨hlt4,e4⟩:=zch q5;replace e4:=e4.symm;subst e4;obtain⟨d,k,_,m4,b4,b5,hr⟩:=(zAM l n es hk hes j q2).get hr;have t5:=zbn l n es k [59] hl;refine wk ?_;repeat' (first|refine wz ?_|refine wd t1 ?_|refine wd m3 ?_|refine wd m4 ?_|refine zqb ?_|exact wkc|intro hc|refine wk2 ?_ ?_|fail)
  cases hb:(rdr l es).isAt k [59] with
  | false=>
    rw[hb]at t5;rw[oG (.inl hb)]at hr;refine rg1 t5 [.ref 0 0,.b false,.b true,.b true,uV,uV,uV,uV,uV,uV,uV,uV,uV,uV,uV,uV,uV,uV,uV,uV,uV,uV,uV,uV,uV,uV,uV,uV,uV,uV,uV,uV,uV,.b true] ?_;cases hr;refine ya ?_;refine rdO rfl ?_;unfold vDs;rw[qaw,qaf,qaD]
    exact leX
  | true=>
  have hltb:=zam hb;rw[zat]at hltb;rw[hb]at t5;cases op with
  | false=>
    refine rg1 t5 [.ref 0 0,.b true,.b false,.b false,.b false,.b false,uV,uV,uV,uV,uV,uV,uV,uV,uV,uV,uV,uV,uV,uV,uV,uV,uV,uV,uV,uV,uV,uV,uV,uV,uV,uV,.b false,.b false] ?_;rw[oH (by rw[hb];simp)]at hr;repeat' (first|refine wz ?_|exact wkc|refine wk2 ?_ ?_|intro hc)
    refine zab.next (m,k+1,xs++[d]) ⟨hltb,?_,?_,hr⟩ ?_ ⟨rfl,rfl,rfl,?_,trivial⟩ ?_
    ·show l.length-(k+1)<m;omega
    ·exact zwdb
    ·show l.length-(k+1)<l.length-j;omega
    ·exact zwdd
    ·exact zwbv
  | true=>
  have hkk:(rdr l es).kind (k+1) 1=match l[k+1]? with|some t=>decide (t.1=1)|none=>false:=by
   unfold Rd.kind;simp only[qan];cases l[k+1]? <;> rfl
  by_cases hlt:k+1<l.length
  ·have hx:=zdM hlt;have hx':(l.map tokT)[((k:Int)+1).toNat]?=some (.ag [T.i l[k+1].1,.s l[k+1].2.1,T.i l[k+1].2.2]):=by rw[show((k:Int)+1).toNat=k+1 by omega];exact hx
   rw[qad hlt]at hkk;simp only at hkk;generalize l[k+1]=t at*;by_cases h2:t.1=1
   ·rw[decide_eq_true h2]at hkk;refine rg1 t5 [.ref 0 0,.b true,.b false,.b false,.b true,.b true,.ref 0 0,.ref 0 0,.ref 0 2,.i k,.i ((k:Int)+1),.ref 0 0,.ref 0 0,.ref 0 0,.t (.sl 3 (l.map tokT)),.i (l.map tokT).length,.b false,.b false,.ref 0 0,.ref 0 0,.ref 0 0,.t (.sl 3 (l.map tokT)),.ref 0 0,.ref 0 0,.ref 0 2,.i k,.i ((k:Int)+1),.cp [T.i t.1,.s t.2.1,T.i t.2.2] 0,.cp [T.i t.1,.s t.2.1,T.i t.2.2] 0,.i t.1,.b false,.b false,.b false,.b false] ?_;rw[oH (by rw[hb,hkk];simp)]at hr;repeat' (first|refine wz ?_|exact wkc|refine wk2 ?_ ?_|intro hc)
    refine zab.next (m,k+1,xs++[d]) ⟨hltb,?_,?_,hr⟩ ?_ ⟨rfl,rfl,rfl,?_,trivial⟩ ?_
    ·show l.length-(k+1)<m;omega
    ·exact zwdb
    ·show l.length-(k+1)<l.length-j;omega
    ·exact zwdd
    ·exact zwbv
   ·rw[decide_eq_false h2]at hkk;rw[oG (.inr ⟨rfl,hkk⟩)]at hr;refine rg1 t5 [.ref 0 0,.b true,.b false,.b false,.b true,.b true,.ref 0 0,.ref 0 0,.ref 0 2,.i k,.i ((k:Int)+1),.ref 0 0,.ref 0 0,.ref 0 0,.t (.sl 3 (l.map tokT)),.i (l.map tokT).length,.b false,.b false,.ref 0 0,.ref 0 0,.ref 0 0,.t (.sl 3 (l.map tokT)),.ref 0 0,.ref 0 0,.ref 0 2,.i k,.i ((k:Int)+1),.cp [T.i t.1,.s t.2.1,T.i t.2.2] 0,.cp [T.i t.1,.s t.2.1,T.i t.2.2] 0,.i t.1,.b true,.b true,.b true,.b true] ?_;exact zwcr
  ·rw[qa6 oA]at hkk;simp only at hkk;rw[oG (.inr ⟨rfl,hkk⟩)]at hr;refine rg1 t5 [.ref 0 0,.b true,.b false,.b false,.b true,.b true,.ref 0 0,.ref 0 0,.ref 0 2,.i k,.i ((k:Int)+1),.ref 0 0,.ref 0 0,.ref 0 0,.t (.sl 3 (l.map tokT)),.i (l.map tokT).length,.b true,.b true,uV,uV,uV,uV,uV,uV,uV,uV,uV,uV,uV,uV,uV,.b true,.b true,.b true] ?_;exact zwcr
 ·rename_i h1;have hid:(rdr l es).decl j= .er j 5:=by unfold Rd.decl Rd.id;rw[oH h1];rfl
  rw[hid]at hr;cases hr
theorem zsu(l:List Tok)(n:Int)(es:List En)(hk:TkOk l)(hes:EsOk es)(i:Nat)(hi:i≤l.length):RdK l n es 114 [] i i ((rdr l es).locals i) vDs:=by
 refine .of zh9 hi fun x jx hr _ _=>?_
 have hl:=hk.len;have t1:=zaB l n es i [118,97,114] hl hi;unfold Rd.locals at hr;refine so Tryz.func114 ?_;split at hr
 ·rename_i h1;rw[h1,oG rfl]at t1;have hlt:=zam h1;rw[zat]at hlt;obtain⟨L,j,_,m1,_,b1,hr⟩:=(zrM l n es hk hes (i+1) hlt 256 true oB).get hr;obtain⟨_,k,_,m2,_,b2,hr⟩:=(zcn l n es j [[59]] hl b1 oB).get hr;cases hr;repeat' (first|refine wz ?_|refine wd t1 ?_|refine wd m1 ?_|refine wd m2 ?_|exact wkc|refine wk2 ?_ ?_|intro hc)
  refine ya ?_;exact rdO rfl leX
 ·rename_i h1;rw[qaR.2 h1,oH oB]at t1;cases hr;repeat' (first|refine wz ?_|refine wd t1 ?_|exact wkc|refine wk2 ?_ ?_|intro hc)
  refine ya ?_;exact rdO rfl leX
abbrev eqZ:Blk:=.cells [.t (.v (.slice none 0 0)),.t (.v (.int .i64 0)),.t (.v (.int .i64 0)),.t (.v (.int .i64 0)),.t (.v (.int .i64 0)),.t (.v (str [])),.t (.v (.slice none 0 0))]
abbrev eqB (x:SV):Blk:=.cells [x,.t (.v (.int .i64 0)),.t (.v (.int .i64 0)),.t (.v (.int .i64 0)),.t (.v (.int .i64 0)),.t (.v (str [])),.t (.v (.slice none 0 0))]
abbrev vQ (q:Equ):SV:=.t (equT q)
abbrev eqH (l:List Tok)(n:Int)(es:List En)(j:Nat)(x:List T)(k:Nat):Heap:=[rdB l n es j,eqZ,eqB (.sl 1 x 3),.tail k]
theorem equK (l:List Tok) (n:Int) (es:List En) (hk:TkOk l) (hes:EsOk es) (i:Nat) (hi:i≤l.length):RdK l n es 151 [] i (i+1) ((rdr l es).equation (rdr l es).expr i) vQ:=by
 refine .of (fun h=>zhZ (fun j h=>zcV _ _ h) h) hi fun x jx hr _ _=>?_
 have hl:=hk.len;unfold Rd.equation at hr;obtain⟨L,j,q,hr⟩:=zi9 hr;have hj:=zsq (R:=rdr l es) (i:=i) (by rw[zat];exact hi);rw[q,zat]at hj;obtain⟨_,j2,_,k1,_,c1,hr⟩:=(zcn l n es j [[61]] hl hj.2 oB).get hr;obtain⟨e,j3,_,k2,_,c2,hr⟩:=(zoN l n es hk hes j2 c1).get hr;obtain⟨_,j4,_,k3,_,c3,hr⟩:=(zcn l n es j3 [[59]] hl c2 oB).get hr;cases hr;clear hj c1 c2 c3;have t0:=zaB l n es i [40] hl hi;unfold Rd.left at q;refine so Tryz.func151 ?_;repeat' (first|refine wkb ?_|refine wk ?_|exact wkc|refine wk2 ?_ ?_|intro hc)
 split at q
 ·rename_i h0;rw[h0,oG rfl]at t0;have hlt0:=zam h0;rw[zat]at hlt0;refine TO.zdc 1 2 0 rfl rfl rfl ?_;repeat' (first|refine wz ?_|refine wd t0 ?_|exact wkc|refine wk2 ?_ ?_|intro hc)
  refine TR.zbo (ι:=Nat×Nat×List Str) (fun y=>y.2.1≤l.length/\l.length-y.2.1<y.1/\y.2.2.length≤y.2.1/\(((rdr l es).names 64 [44] y.1 y.2.2 y.2.1).bind fun l2 j=>((rdr l es).must [[41]] j).bind fun _ j=>(.ok l2 j:PR (List Str)))= .ok L j) (fun y=>l.length-y.2.1) (fun _=>[(0,.ref 0 0),(3,.ref 2 0),(2,.ref 1 0)]) (fun y=>eqH l n es y.2.1 (y.2.2.map T.s) (y.2.2.map T.s).length) ((rdr l es).K.length+1,i+1,[])
   ⟨hlt0,by rw[zat];show l.length-(i+1)<l.length+1;omega,by show 0≤i+1;omega,q⟩ ⟨rfl,rfl,rfl,trivial⟩ rfl ?_
  clear q t0;rintro⟨m,k,xs⟩ ⟨q2,q3,q4,q⟩;replace q2:k≤l.length:=q2;replace q3:l.length-k<m:=q3;replace q4:xs.length≤k:=q4;replace q:(((rdr l es).names 64 [44] m xs k).bind fun l2 j=>((rdr l es).must [[41]] j).bind fun _ j=>(.ok l2 j:PR (List Str)))= .ok L j:=q;have hml:(xs.map T.s).length=xs.length:=qac _;obtain⟨m,rfl⟩:∃m',m=m'+1:=⟨m-1,oA⟩;rw[Rd.names,Rd.zkn,zfE]at q;have t1:=zbR l n es k 1 hl;split at q
  ·rename_i h1;rw[h1]at t1;obtain⟨_,p2,q5,m3,_,b3,q⟩:=(limK l n es k (xs.map T.s).length xs.length 64 hl q2 hml).get q;obtain⟨hlt4,e4⟩:=zch q5;replace e4:=e4.symm;subst e4;rw[zfE]at q;obtain⟨s,p3,_,m4,b4,b5,q⟩:=(idK l n es k hl q2).get q;have t2:=zaB l n es p3 [44] hl b5;refine wk ?_;repeat' (first|refine wz ?_|refine wd t1 ?_|refine wd m3 ?_|exact wkc|refine wk2 ?_ ?_|intro hc)
   refine rgY 3 m4 [(.ref 2 0,0,1),(.sl 1 (xs.map T.s) 3,0,1),(.ref 0 0,0,1),(.t (T.s s),1,0),(.t (.sl 1 [T.s s]),1,1),(.sl 1 (xs.map T.s++[T.s s]) 3,1,0),(.ref 2 0,0,2),(.t (.v undef),1,0)] [eqH l n es k (xs.map T.s) (xs.map T.s).length,eqH l n es p3 (xs.map T.s) (xs.map T.s).length,eqH l n es p3 (xs.map T.s) ((xs.map T.s).length+1),eqH l n es p3 (xs.map T.s++[T.s s]) ((xs.map T.s).length+1)] ?_;split at q
   ·rename_i h2;have hltb:=zam h2;rw[zat]at hltb;rw[h2,oG rfl]at t2;refine yi t2 ?_;refine zab.next (m,p3+1,xs++[s]) ⟨hltb,?_,?_,q⟩ ?_ ⟨rfl,rfl,rfl,trivial⟩ ?_
    ·show l.length-(p3+1)<m;omega
    ·show(xs++[s]).length≤p3+1;rw[qab];simp only[qae,qal];omega
    ·show l.length-(p3+1)<l.length-k;omega
    ·show _=eqH l n es (p3+1) ((xs++[s]).map T.s) ((xs++[s]).map T.s).length;exact zwes
   ·rename_i h2;rw[qaR.2 h2,oH oB]at t2;obtain⟨_,p4,_,m6,_,b6,q⟩:=(zcn l n es p3 [[41]] hl b5 oB).get q;cases q;repeat' (first|refine wz ?_|refine wd t2 ?_|refine zab.exit ?_|refine wd m6 ?_|refine wd k1 ?_|refine wd k2 ?_|refine wd k3 ?_|exact wkc|refine wk2 ?_ ?_|intro hc)
    refine ya ?_;refine rdO rfl ?_;show Le _ (.t (.ag (.sl 1 ((xs++[s]).map T.s)::exC e)));rw[qaw,qaf,qaD];exact leX
  ·rename_i h1;have hid:(rdr l es).id k= .er k 5:=by unfold Rd.id;rw[oH h1]
   rw[hid]at q;cases q
 ·rename_i h0;rw[qaR.2 h0,oH oB]at t0;obtain⟨s,k,_,m5,_,_,q⟩:=(idK l n es i hl hi).get q;cases q;repeat' (first|refine wz ?_|refine wd t0 ?_|refine wd m5 ?_|refine wd k1 ?_|refine wd k2 ?_|refine wd k3 ?_|exact wkc|refine wk2 ?_ ?_|intro hc)
  refine ya ?_;refine rdO rfl ?_;show Le _ (.t (.ag (.sl 1 [T.s s]::exC e)));exact leX
end Go.Proofs.YtdicfgideclbdaaGreatDoor
namespace Go.Proofs.YtdicfgideclbdaaGreatDoor
open Go Go.TL
attribute [local irreducible] TR TO Then zal RetK Sound zab Kf GG zaR
attribute [local irreducible] zfk
def goT(x:Str×Nat):T:=.ag [.s x.1,.i x.2]
def trCs(l:List Tran):List T:=((l.map zaw).map T.cells).flatten
theorem zvp(l:List Tran)(q:Tran):trCs (l++[q])=trCs l++(zaw q).cells:=by simp[trCs]
theorem zkP:∀l:List Tran,(trCs l).length=l.length*8
 | []=>rfl
 | q::l=>by
   have:=zkP l
   unfold trCs at this⊢;rw[qaf,qaf,qaK,qab,this,qae];show 8+_=_;omega
theorem zq0{R:Rd}{f:Nat->PR Ex}{w:Str}{m j:Nat}{xs:List Tran}{gs:List (Str×Nat)}(h:R.isAt j w=false):R.trans f w m xs gs j= .ok (xs,gs) j:=by
 cases m with
 | zero=>rfl
 | succ m=>unfold Rd.trans;rw[oH (by rw[h];decide)]
def RdY(l:List Tok)(n:Int)(es:List En)(f:FuncId)(args:List SV)(i lo:Nat){α:Type}(r:PR α)(V:α->SV)(X:α->Heap):Prop:=
 ∀x j,r= .ok x j->Sound Tryz.prog f (.ref 0 0::args) [rdB l n es i] (fun r H'=>r= .ret (V x)/\H'=rdB l n es j::X x)/\lo≤j/\j≤l.length
section
variable {l:List Tok}{n:Int}{es:List En}{f:FuncId}{args:List SV}{i lo:Nat}{α β:Type}{r:PR α}{V:α->SV}{X:α->Heap}
theorem RdY.of(hin:i≤(rdr l es).K.length->InR (rdr l es).K.length lo r)(hi:i≤l.length)(h:∀x j,r= .ok x j->lo≤j->j≤l.length->Sound Tryz.prog f (.ref 0 0::args) [rdB l n es i] (fun r H'=>r= .ret (V x)/\H'=rdB l n es j::X x)):RdY l n es f args i lo r V X:=fun x j e=>by
 exact zwfj
theorem RdY.get{F:α->Nat->PR β}{z:β}{m:Nat}(h:RdY l n es f args i lo r V X)(hr:r.bind F= .ok z m):∃y k,r= .ok y k/\Sound Tryz.prog f (.ref 0 0::args) [rdB l n es i] (fun r H'=>r= .ret (V y)/\H'=rdB l n es k::X y)/\lo≤k/\k≤l.length/\F y k= .ok z m:=by
 exact zwdp
end
abbrev vTr (x:List Tran×List (Str×Nat)):SV:=.tup [rowV 8 x.1.length 2,.t (.sl 2 (x.2.map goT))]
abbrev xTr (x:List Tran×List (Str×Nat)):Heap:=[.tail (x.2.map goT).length,TL.rowB x.1.length ((trCs x.1).map .t)]
theorem zwZ (l:List Tok) (n:Int) (es:List En) (hk:TkOk l) (hes:EsOk es) (i:Nat) (hi:i≤l.length) (w:Str):RdY l n es 179 [.s w] i i ((rdr l es).trans (rdr l es).expr w (rdr l es).K.length [] [] i) vTr xTr:=by
 refine .of (fun h=>zhy (fun j h=>zcV _ _ h) _ [] [] h) hi fun x jx hr _ _=>?_
 have hl:=hk.len;refine so Tryz.func179 ?_;repeat' (first|refine wkb ?_|fail)
 refine TR.tail 2 7 rfl ?_
 refine TR.zks (ι:=Nat×Nat×List Tran×List (Str×Nat)) (fun x2=>x2.2.1≤l.length/\l.length-x2.2.1≤x2.1/\x2.2.2.1.length≤x2.2.1/\x2.2.2.2.length≤x2.2.1/\(rdr l es).trans (rdr l es).expr w x2.1 x2.2.2.1 x2.2.2.2 x2.2.1= .ok x jx) (fun x=>l.length-x.2.1) (fun x=>[(0,.ref 0 0),(1,.s w),(6,rowV 8 x.2.2.1.length 2),(7,.sl 2 (x.2.2.2.map goT) 1)]) (fun x=>[rdB l n es x.2.1,.tail (x.2.2.2.map goT).length,TL.rowB x.2.2.1.length ((trCs x.2.2.1).map .t)]) ((rdr l es).K.length,i,[],[])
  ⟨hi,by rw[zat];show l.length-i≤l.length;omega,by show 0≤i;omega,by show 0≤i;omega,hr⟩ ⟨rfl,rfl,rfl,rfl,trivial⟩ 1 rfl ?_
 clear hr;rintro⟨m,j,xs,gs⟩ ⟨q2,q3,q4,q5,hr⟩;replace q2:j≤l.length:=q2;replace q3:l.length-j≤m:=q3;replace q4:xs.length≤j:=q4;replace q5:gs.length≤j:=q5;replace hr:(rdr l es).trans (rdr l es).expr w m xs gs j= .ok x jx:=hr;have hmg:(gs.map goT).length=gs.length:=qac _;have hcl:((trCs xs).map SV.t).length=xs.length*8:=by rw[qac,zkP]
 have t1:=zbn l n es j w hl;show TR _ _ _ [(0,.ref 0 0),(1,.s w),(6,rowV 8 xs.length 2),(7,.sl 2 (gs.map goT) 1)] [rdB l n es j,.tail (gs.map goT).length,TL.rowB xs.length ((trCs xs).map .t)] _;cases h1:(rdr l es).isAt j w with
 | false=>
   rw[h1]at t1;rw[zq0 h1]at hr;refine wk ?_;repeat' (first|refine zqi ?_|refine wd t1 ?_|refine zfk.exit ?_|refine wk ?_|exact wkc|refine wk2 ?_ ?_|intro hc)
   cases hr;refine RetK.keep (v:=.tup [rowV 8 xs.length 2,.t (.sl 2 (gs.map goT))]) (H':=[rdB l n es jx,.tail (gs.map goT).length,TL.rowB xs.length ((trCs xs).map .t)]) 3 rfl (Le.tup ⟨Le.refl _,Le.own _ _ _,trivial⟩) rfl rfl ?_ rfl ?_ ⟨rfl,rfl⟩
   ·show SV.under 3 (.tup [rowV 8 xs.length 2,.t (.sl 2 (gs.map goT))])=true;simp only[SV.under,unders,zbT (show 2<3 by decide),qbx]
   ·show zaa 3 [rdB l n es jx,.tail _,TL.rowB xs.length ((trCs xs).map .t)]=true;simp only[zaa,zdT,qbx];rfl
 | true=>
   rw[h1]at t1;have hlt:=zam h1;rw[zat]at hlt;obtain⟨m,rfl⟩:∃m',m=m'+1:=⟨m-1,oA⟩;rw[Rd.trans,oG h1]at hr;obtain⟨_,j3,q6,m3,_,b3,hr⟩:=(limK l n es j xs.length xs.length 4 hl q2 rfl).get hr;obtain⟨hlt4,e4⟩:=zch q6;replace e4:=e4.symm;subst e4;obtain⟨e,k,_,m4,b4,b5,hr⟩:=(zoN l n es hk hes (j+1) hlt).get hr;have t5:=zaB l n es k [99,111,110,116,105,110,117,101] hl b5;obtain⟨bb,k2,q7,hr⟩:=zi9 hr;refine wk ?_;repeat' (first|refine zqi ?_|refine wd t1 ?_|(apply TO.lenR zaf;(iterate 4 exact rfl))|refine wd m3 ?_|refine wd m4 ?_|refine wk ?_|exact wkc|refine wk2 ?_ ?_|intro hc)
   apply zsj (ι:=Bool×Nat) (E:=fun _=>[(0,.ref 0 0),(1,.s w),(6,rowV 8 xs.length 2),(7,.sl 2 (gs.map goT) 1),(8,.ref 3 0),(33,.ref 0 0)]) (H:=fun z=>[rdB l n es z.2,.tail (gs.map goT).length,TL.rowB xs.length ((trCs xs).map .t),ceB (exC e++[T.i 0,T.v (.bool z.1)])]) (I:=fun z=>z.2≤l.length/\k<z.2/\(((rdr l es).id z.2).bind fun s j=>((rdr l es).must [[59]] j).bind fun _ k=>(rdr l es).trans (rdr l es).expr w m (xs++[⟨e,toI 0,z.1⟩]) (gs++[(s,j-1)]) k)= .ok x jx)
   ·intro key;unfold Rd.how at q7;split at q7
    ·rename_i h5;rw[h5,oG rfl]at t5;have hlt5:=zam h5;rw[zat]at hlt5;cases q7;refine yj t5 ?_;exact zjq key (true,k+1) ⟨hlt5,by show k<k+1;omega,hr⟩
    ·rename_i h5;rw[qaR.2 h5,oH oB]at t5;obtain⟨_,j6,_,m6,b6,b7,q7⟩:=(zcn l n es k [[116,104,101,110]] hl b5 oB).get q7;cases q7;repeat' (first|refine zqi ?_|refine wd t5 ?_|refine wd m6 ?_|refine wk ?_|exact wkc|refine wk2 ?_ ?_|intro hc)
     exact zjq key (false,k2) ⟨b7,b6,hr⟩
   ·rintro⟨bb,k2⟩ ⟨c1,c2,hr⟩;replace c2:k<k2:=c2;show TO _ _ _ _ _ _ [rdB l n es k2,.tail (gs.map goT).length,TL.rowB xs.length ((trCs xs).map .t),ceB (exC e++[T.i 0,T.v (.bool bb)])] _;obtain⟨s,j7,_,m7,b6,b7,hr⟩:=(idK l n es k2 hl c1).get hr;obtain⟨_,j8,_,m8,b8,b9,hr⟩:=(zcn l n es j7 [[59]] hl b7 oB).get hr;replace b8:j7+1≤j8:=b8;repeat' (first|refine zqi ?_|refine wd m7 ?_|refine wd m8 ?_|(apply TO.zmY zaf;(iterate 10 exact rfl);exact hcl;exact rfl;exact rfl;exact leB;exact rfl;(simp only[qae,qal];omega);exact rfl)|refine wk ?_|exact wkc|refine wk2 ?_ ?_|intro hc)
    have hj7:((j7-1:Nat):Int)=(j7:Int)-1:=oA
    have hxl:(xs++[(⟨e,toI 0,bb⟩:Tran)]).length=xs.length+1:=by rw[qab];rfl
    refine zfk.next (m,j8,xs++[(⟨e,toI 0,bb⟩:Tran)],gs++[(s,j7-1)]) [0,1,4] ⟨b9,?_,?_,?_,hr⟩ ?_ (Hands.ofF oB ⟨rfl,?_,?_,trivial⟩ ?_) (leB) ?_ ?_ ⟨⟨_,rfl,Le.refl _⟩,⟨_,rfl,Le.refl _⟩,⟨_,rfl,?_⟩,⟨_,rfl,?_⟩,trivial⟩
    ·show l.length-j8≤m;omega
    ·show(xs++[(⟨e,toI 0,bb⟩:Tran)]).length≤j8;omega
    ·show(gs++[(s,j7-1)]).length≤j8;rw[qab];simp only[qae,qal];omega
    ·show l.length-j8<l.length-j;omega
    ·show _=some (Blk.tail ((gs++[(s,j7-1)]).map goT).length);rw[qaw,qab];rfl
    ·show _=some ((TL.rowB (xs++[(⟨e,toI 0,bb⟩:Tran)]).length ((trCs (xs++[(⟨e,toI 0,bb⟩:Tran)])).map .t)).ren _);rw[zeg,zb7 (show 0<(xs++[(⟨e,toI 0,bb⟩:Tran)]).length by omega),zvp,qaw];rfl
    ·show zaa 3 [rdB l n es j8,.tail _,TL.rowB _ ((trCs (xs++[(⟨e,toI 0,bb⟩:Tran)])).map .t)]=true;simp only[zaa,zdT,qbx];rfl
    ·intro a ha;have ha:a<2:=ha;rcases(by omega:a=0\/a=1)with rfl|rfl <;> rfl
    ·show Env.under 3 [(0,.ref 0 0),(1,.s w),(6,rowV 8 (xs++[(⟨e,toI 0,bb⟩:Tran)]).length 2),(7,.sl 2 _ 1)]=true;simp only[Env.under,qbF,List.all_nil,zbT (show 2<3 by decide),qbx];rfl
    ·show Le _ ((rowV 8 (xs++[(⟨e,toI 0,bb⟩:Tran)]).length 2).ren _);rw[zds,zcW oA,hxl];exact Le.refl _
    ·show Le _ (.sl 2 ((gs++[(s,j7-1)]).map goT) 1);rw[qaw];show Le _ (.sl 2 (gs.map goT++[.ag [.s s,.i ((j7-1:Nat):Int)]]) 1);rw[hj7];exact Le.refl _
end Go.Proofs.YtdicfgideclbdaaGreatDoor
namespace Go.Proofs.YtdicfgideclbdaaGreatDoor
open Go Go.TL
attribute [local irreducible] TR TO Then zal RetK Sound zab Kf GG zaR
variable {R:List (List Tran)}{k j:Nat}{u:List Tran}{g:List (Str×Nat)}{f:Nat->Blk}{ss:List Sta}{ns:List Str}{x:Str×Nat}{gs:List (List (Str×Nat))}
def rowsOf:List Sta->List (List Tran)
 | []=>[]
 | s::ss=>s.unl::s.unt::rowsOf ss
theorem zdU:∀ss:List Sta,(rowsOf ss).length=2*ss.length
 | []=>rfl
 | s::ss=>by rw[rowsOf,qae,qae,zdU ss,qae];omega
theorem ze1:∀(ss:List Sta) (s:Sta),rowsOf (ss++[s])=rowsOf ss++[s.unl,s.unt]
 | [],s=>rfl
 | x::ss,s=>by rw[qaZ,rowsOf,ze1 ss s,rowsOf];rfl
def rR(R:List (List Tran))(k:Nat):Blk:=match R[k]? with
 | some u=>TL.rowB u.length ((trCs u).map .t)
 | none=>.dead
theorem zgC(h:R[k]?=some u):rR R k=TL.rowB u.length ((trCs u).map .t):=by unfold rR;rw[h]
theorem zz4(r:Nat->Nat)(R:List (List Tran))(k:Nat):(rR R k).ren r=rR R k:=by
 unfold rR;split
 ·exact zeg _ _ _
 ·rfl
theorem zu0(N:Nat)(R:List (List Tran))(k:Nat):(rR R k).under N=true:=by
 unfold rR;split
 ·exact zdT _ _ _
 ·rfl
theorem zyh{S:List (List Tran)}(h:k<R.length):rR (R++S) k=rR R k:=by
 unfold rR;rw[qat h]
theorem zsU(h:R.length≤k):rR R k= .dead:=by
 unfold rR;rw[qa6 h]
def stCs(h:Nat->Nat):Nat->List Sta->List SV
 | _,[]=>[]
 | k,s::ss=>.s s.name:: .t (.sl 3 (s.locals.map zag)):: .t (.sl 7 (s.eqs.map equT)):: .t (.sl 1 (s.autos.map zai))::rowV 8 s.unl.length (h (2*k))::rowV 8 s.unt.length (h (2*k+1))::stCs h (k+1) ss
theorem zpD(h:Nat->Nat):∀(k:Nat) (ss:List Sta),(stCs h k ss).length=ss.length*6
 | _,[]=>rfl
 | k,s::ss=>by
   have:=zpD h (k+1) ss
   simp only[stCs,qae,this];omega
theorem zpC(h:Nat->Nat):∀(k:Nat) (ss:List Sta) (s:Sta),stCs h k (ss++[s])=stCs h k ss++stCs h (k+ss.length) [s]
 | k,[],s=>rfl
 | k,x::ss,s=>by
   rw[qaZ,stCs,zpC h (k+1) ss s,stCs,qae,show k+1+ss.length=k+(ss.length+1) by omega];rfl
theorem zpE(r h:Nat->Nat):∀(k:Nat) (ss:List Sta),rens r (stCs h k ss)=stCs (fun i=>r (h i)) k ss
 | _,[]=>rfl
 | k,s::ss=>by
   simp only[stCs,rens,SV.ren,zds,zpE r h (k+1) ss]
theorem zjK{h h':Nat->Nat}:∀(k:Nat) (ss:List Sta),(∀i,2*k≤i->i<2*(k+ss.length)->h i=h' i)->stCs h k ss=stCs h' k ss
 | _,[],_=>rfl
 | k,s::ss,hh=>by
   rw[stCs,stCs,hh (2*k) oA (by rw[qae];omega),hh (2*k+1) oA (by rw[qae];omega),zjK (k+1) ss fun i h1 h2=>hh i oA (by rw[qae];omega)]
theorem zjL{h:Nat->Nat}{N:Nat}:∀(k:Nat) (ss:List Sta),(∀i,2*k≤i->i<2*(k+ss.length)->h i<N)->unders N (stCs h k ss)=true
 | _,[],_=>rfl
 | k,s::ss,hh=>by
   have h1:=zbT (sz:=8) (n:=s.unl.length) (hh (2*k) oA (by rw[qae];omega));have h2:=zbT (sz:=8) (n:=s.unt.length) (hh (2*k+1) oA (by rw[qae];omega));have h3:=zjL (k+1) ss fun i h1 h2=>hh i oA (by rw[qae];omega)
   simp only[stCs,unders,h1,h2,h3,SV.under,qbx]
def rI(n0 k:Nat):Nat:=if k=2*n0 then 23 else if k=2*n0+1 then 25 else 5+k
def idsA(n0:Nat):List Nat:=0::1::2::3::27::(List.range 16).map (rI n0)
theorem zqq{n0:Nat}(h:n0<8):(idsA n0).Nodup:=by
 rcases(by omega:n0=0\/n0=1\/n0=2\/n0=3\/n0=4\/n0=5\/n0=6\/n0=7)with rfl|rfl|rfl|rfl|rfl|rfl|rfl|rfl <;> decide
theorem zh6(n0 N:Nat)(h:k<16):names (idsA n0) N (5+k)=rI n0 k:=by
 refine Go.TL.zbE ?_;rw[show 5+k=k+1+1+1+1+1 by omega];show((List.range 16).map (rI n0))[k]?=_;rw[qan,qcr h];rfl
theorem zek.map{H:Heap}{r:Nat->Nat}{g:Nat->Nat}{f:Nat->Blk}:∀(l:List Nat),(∀k∈l,H[g k]?=some ((f k).ren r))->zek H r (l.map g) (l.map f)
 | [],_=>trivial
 | a::l,h=>⟨h a qah,zek.map l fun k hk=>h k (qaj _ hk)⟩
theorem zek.rows{H:Heap}{r:Nat->Nat}{g:Nat->Nat}(h:∀k,k<16->H[g k]?=some ((f k).ren r)):zek H r ((List.range 16).map g) (zbV f):=
 zek.map (List.range 16) fun k hk=>h k (by simpa using hk)
theorem zmk{N:Nat}(h:∀k,(f k).under N=true):zaa N (zbV f)=true:=by
 simp only[zbV,zaa,h,qbx]
theorem znS{N n:Nat}{cs:List SV}(h:unders N cs=true):(TL.rowB n cs).under N=true:=by
 unfold TL.rowB;cases n with
 | zero=>rfl
 | succ n=>exact h
theorem zyz(N:Nat)(s:Sta)(h8:ss.length<8):rens (names (idsA ss.length) N) (stCs (fun k=>5+k) 0 (ss++[s]))=stCs (fun k=>5+k) 0 ss++[.s s.name,.t (.sl 3 (s.locals.map zag)),.t (.sl 7 (s.eqs.map equT)),.t (.sl 1 (s.autos.map zai)),rowV 8 s.unl.length 23,rowV 8 s.unt.length 25]:=by
 rw[zpE,zpC,zjK (h':=fun k=>5+k) 0 ss (fun i _ hi=>by
  show names _ _ (5+i)=5+i;rw[zh6 _ _ oA];unfold rI;rw[oH oA,oH oA])]
 simp only[stCs,qaV];rw[zh6 _ _ oA,zh6 _ _ oA];unfold rI;rw[oG rfl,oH oA,oG rfl]
theorem zz3(s:Sta)(k:Nat):rR (rowsOf (ss++[s])) k=if k=2*ss.length then TL.rowB s.unl.length ((trCs s.unl).map .t) else if k=2*ss.length+1 then TL.rowB s.unt.length ((trCs s.unt).map .t) else rR (rowsOf ss) k:=by
 have hl:=zdU ss;rw[ze1];by_cases h1:k=2*ss.length
 ·rw[oG h1];exact zgC (by rw[qas oA,show k-(rowsOf ss).length=0 by omega];rfl)
 rw[oH h1];by_cases h2:k=2*ss.length+1
 ·rw[oG h2];exact zgC (by rw[qas oA,show k-(rowsOf ss).length=1 by omega];rfl)
 rw[oH h2];by_cases h3:k<2*ss.length
 ·exact zyh oA
 ·rw[zsU (R:=rowsOf ss) oA,zsU (R:=rowsOf ss++[s.unl,s.unt]) (by rw[qab];simp only[qae,qal];omega)]
theorem ziH{R:Rd}{f:Nat->PR Ex}{w:Str}:∀(m:Nat) (xs:List Tran) (gs:List (Str×Nat)) {i:Nat} {ys:List Tran} {hs:List (Str×Nat)} {j:Nat},R.trans f w m xs gs i= .ok (ys,hs) j->xs.length=gs.length->ys.length=hs.length
 | 0,xs,gs,i,ys,hs,j,h,hl=>by cases h;exact hl
 | m+1,xs,gs,i,ys,hs,j,h,hl=>by
   unfold Rd.trans at h;split at h
   ·obtain⟨_,_,_,h⟩:=za2 h;obtain⟨_,_,_,h⟩:=za2 h;obtain⟨_,_,_,h⟩:=za2 h;obtain⟨_,_,_,h⟩:=za2 h;obtain⟨_,_,_,h⟩:=za2 h;exact ziH m _ _ h (by rw[qab,qab,hl];rfl)
   ·cases h;exact hl
theorem zkS{R:Rd}{f:Nat->PR Ex}{w:Str}:∀(m:Nat) (xs:List Tran) (gs:List (Str×Nat)) {i:Nat} {ys:List Tran} {hs:List (Str×Nat)} {j:Nat},R.trans f w m xs gs i= .ok (ys,hs) j->xs.length≤4->ys.length≤4
 | 0,xs,gs,i,ys,hs,j,h,hl=>by cases h;exact hl
 | m+1,xs,gs,i,ys,hs,j,h,hl=>by
   unfold Rd.trans at h;split at h
   ·obtain⟨_,_,hq,h⟩:=za2 h;obtain⟨_,_,_,h⟩:=za2 h;obtain⟨_,_,_,h⟩:=za2 h;obtain⟨_,_,_,h⟩:=za2 h;obtain⟨_,_,_,h⟩:=za2 h
    have:=(zch hq).1
    exact zkS m _ _ h (by rw[qab];simp only[qae,qal];omega)
   ·cases h;exact hl
def setG(ns:List Str)(u:List Tran)(g:List (Str×Nat)):List Tran:=List.zipWith (fun(q:Tran) (x:Str×Nat)=>match idxOf x.1 0 ns with
 | some k=>⟨q.cond,toI (k:Int),q.resume⟩
 | none=>q) u g
def okG(ns:List Str)(g:List (Str×Nat)):Prop:=∀x∈g,∃k,idxOf x.1 0 ns=some k
theorem zh2{ns:List Str}:∀ {g:List (Str×Nat)},okG ns g->∃js,fixG ns g= .ok js 0/\∀u:List Tran,ziZ u js=setG ns u g
 | [],_=>⟨[],rfl,fun u=>by cases u <;> rfl⟩
 | (s,k)::g,h=>by
   obtain⟨j,hj⟩:=h (s,k) qah;obtain⟨js,h1,h2⟩:=zh2 (g:=g) fun x hx=>h x (qaj _ hx)
   refine⟨j::js,by rw[fixG,hj];simp only[h1,PR.bind],fun u=>?_⟩;cases u with
   | nil=>rfl
   | cons q u=>
     have:=h2 u
     unfold ziZ setG at this⊢;rw[qbo,qbo,this];simp only at hj;simp only[hj]
theorem zr3{ns:List Str}{s:Str}{k:Nat}:∀ {g r:List (Str×Nat)},okG ns g->idxOf s 0 ns=none->fixG ns (g++(s,k)::r)= .er k 6
 | [],r,_,h=>by rw[qaO,fixG,h]
 | (t,a)::g,r,hg,h=>by
   obtain⟨j,hj⟩:=hg (t,a) qah;rw[qaZ,fixG];simp only at hj;rw[hj];simp only[zr3 (g:=g) (fun x hx=>hg x (qaj _ hx)) h,PR.bind]
theorem zoR{ns:List Str}{s:Str}{k:Nat}{g r:List (Str×Nat)}:∀ {gs rs:List (List (Str×Nat))},(∀g∈gs,okG ns g)->okG ns g->idxOf s 0 ns=none->zd9 ns (gs++(g++(s,k)::r)::rs)= .er k 6
 | [],rs,_,hg,h=>by rw[qaO,zd9,zr3 hg h];rfl
 | x::gs,rs,hx,hg,h=>by
   obtain⟨js,h1,_⟩:=zh2 (hx x qah);rw[qaZ,zd9,h1];simp only[PR.bind,zoR (gs:=gs) (fun y hy=>hx y (qaj _ hy)) hg h]
def zdJ:List Sta->List (List Tran)->List Sta
 | s::ss,u::v::R=>.mk s.name s.locals s.eqs s.autos u v::zdJ ss R
 | ss,_=>ss
theorem zoT{ns:List Str}:∀ {gs:List (List (Str×Nat))},(∀g∈gs,okG ns g)->∃jss,zd9 ns gs= .ok jss 0/\∀ss:List Sta,gs.length=2*ss.length->zf9 ss jss=zdJ ss (List.zipWith (setG ns) (rowsOf ss) gs)
 | [],_=>⟨[],rfl,fun ss h=>by
     cases ss with
     | nil=>rfl
     | cons s ss=>rw[qae,qal]at h;omega⟩
 | [g],hx=>by
   obtain⟨js,h1,h2⟩:=zh2 (hx g qah);exact⟨[js],by simp only[zd9,h1,PR.bind],fun ss h=>by simp only[qae,qal]at h;omega⟩
 | g::g'::gs,hx=>by
   obtain⟨js,h1,h2⟩:=zh2 (hx g qah);obtain⟨js',h1',h2'⟩:=zh2 (hx g' (qaj _ qah));obtain⟨jss,h3,h4⟩:=zoT (gs:=gs) fun y hy=>hx y (qaj _ (qaj _ hy))
   refine⟨js::js'::jss,by simp only[zd9,h1,h1',h3,PR.bind],fun ss h=>?_⟩;cases ss with
   | nil=>simp at h
   | cons s ss=>
     rw[zf9,h2,h2',h4 ss (by simp only[qae]at h;omega),rowsOf,qbo,qbo,zdJ]
theorem zkM(s:Sta)(nm:Str)(k:Int):Pure Tryz.prog 180 [.t (staT s),.cp [.s nm,.i k] 0] (.b (s.name == nm)):=by
 rw[zcD];refine so Tryz.func180 ?_;repeat' (first|refine wu ?_|exact wkc|refine wk2 ?_ ?_|intro hc)
 all_goals try(refine RetK.pure rfl ?_ rfl;exact Le.of_eq (by simp_all [pack,staT] <;> omega))
theorem zlQ(fid:FuncId)(caps:List SV)(hcaps:unders 0 caps=true)(p:Sta->Bool)(l:List Sta)(hl:l.length≤1000000000)(hp:∀d,Pure Tryz.prog fid (.t (staT d)::caps) (.b (p d))):
  Pure Tryz.prog 167 [.t (.sl 6 (l.map staT)),.fn fid caps] (.i (idxI p l)):=by
 have hml:(l.map staT).length=l.length:=qac _;refine so Tryz.func167 ?_;repeat' (first|refine wk ?_|exact wkc|refine wk2 ?_ ?_|intro hc)
 refine TR.zay l.length (fun k=>(l.take k).all (fun x=>!p x)=true) (fun k=>[(0,.t (.sl 6 (l.map staT))),(1,.fn fid caps),(7,.i l.length),(8,.i k)]) (fun _=>[]) rfl (fun k hlt ha=>?_) (fun ha=>?_) ⟨rfl,rfl,by rw[<-hml];rfl,rfl,trivial⟩
 ·have hx:=zaL staT hlt;have htk:=zbe hlt;have hat:=zfr p l k hlt ha;have hd:=hp l[k];generalize l[k]=d at hx htk hat hd;rw[zcD]at hx hd;have hu:unders 0 (.t (staT d)::caps)=true:=by simp[unders,SV.under,hcaps]
  rw[zcD]at hu;repeat' (first|refine wk ?_|exact wkc|refine wk2 ?_ ?_|(apply TO.zgo hd;(iterate 3 exact rfl);exact Les.refl _;exact hu;exact rfl)|intro hc)
  ·rw[hat hc];exact wkr
  ·exact zwfm
 ·exact zwet
theorem zvZ(nm:Str):∀(l:List Sta) (k:Nat),(idxI (fun d=>d.name == nm) l= -1/\idxOf nm k (l.map Sta.name)=none)\/∃j:Nat,j<l.length/\idxI (fun d=>d.name == nm) l=j/\idxOf nm k (l.map Sta.name)=some (k+j)
 | [],_=>.inl ⟨rfl,rfl⟩
 | d::l,k=>by
   unfold idxI;rw[qaf,idxOf];by_cases hd:d.name=nm
   ·exact zwen
   ·rw[oH hd,oH (by simpa using hd)];rcases zvZ nm l (k+1)with ⟨h1,h2⟩|⟨j,h1,h2,h3⟩
    ·rw[h1];exact .inl ⟨rfl,h2⟩
    ·exact zwdl
theorem zdZ:∀(ss:List Sta) (R:List (List Tran)),(zdJ ss R).length=ss.length
 | [],R=>by cases R <;> rfl
 | s::ss,[]=>rfl
 | s::ss,[u]=>rfl
 | s::ss,u::v::R=>by rw[zdJ,qae,zdZ ss R,qae]
theorem zfA:∀(ss:List Sta) (R:List (List Tran)),(zdJ ss R).map Sta.name=ss.map Sta.name
 | [],R=>by cases R <;> rfl
 | s::ss,[]=>rfl
 | s::ss,[u]=>rfl
 | s::ss,u::v::R=>by rw[zdJ,qaf,zfA ss R,qaf];rfl
theorem ztH(u:List Tran):trCs u=((u.map zaw).map T.cells).flatten:=rfl
theorem ztr{H:Heap}(h:Nat->Nat):∀(k:Nat) (ss:List Sta) (R:List (List Tran)),R.map List.length=(rowsOf ss).map List.length->(∀i u,R[i]?=some u->H[h (2*k+i)]?=some (TL.rowB u.length ((trCs u).map .t)))->
  ∀(j:Nat) c,((((zdJ ss R).map staT).map T.cells).flatten)[j]?=some c->∃s,(stCs h k ss)[j]?=some s/\LeB H s (.t c)
 | k,[],R,hR,hH,j,c,hc=>by
   cases R with
   | nil=>simp[zdJ]at hc
   | cons u R=>simp[rowsOf]at hR
 | k,s::ss,[],hR,hH,j,c,hc=>by simp[rowsOf]at hR
 | k,s::ss,[u],hR,hH,j,c,hc=>by simp[rowsOf]at hR
 | k,s::ss,u::v::R,hR,hH,j,c,hc=>by
   simp only[rowsOf,qaf,qbd]at hR;obtain⟨h1,h2,h3⟩:=hR;rw[zdJ,qaf,qaf,qaK,zcD]at hc;have hu:=hH 0 u rfl;have hv:=hH 1 v rfl
   have row:∀(w:List Tran) (id:Nat),H[id]?=some (TL.rowB w.length ((trCs w).map .t))->LeB H (rowV 8 w.length id) (.t (.sl 8 (w.map zaw))):=fun w id hw=>by
    refine LeB.row hw (fun j c hc=>⟨.t c,by rw[qan,ztH,hc];rfl,LeB.t c⟩) (by rw[qac]) (fun e he=>?_);obtain⟨q,_,rfl⟩:=qaL.1 he;rfl
   match j,hc with
   | 0,hc=>cases hc;exact⟨_,rfl,LeB.t _⟩
   | 1,hc=>cases hc;exact⟨_,rfl,LeB.t _⟩
   | 2,hc=>cases hc;exact⟨_,rfl,LeB.t _⟩
   | 3,hc=>cases hc;exact⟨_,rfl,LeB.t _⟩
   | 4,hc=>cases hc;exact⟨_,rfl,by rw[<-h1];exact row u _ hu⟩
   | 5,hc=>cases hc;exact⟨_,rfl,by rw[<-h2];exact row v _ hv⟩
   | j+6,hc=>
     exact ztr h (k+1) ss R h3 (fun i w hw=>by
      have:=hH (i+2) w hw
      rw[show 2*k+(i+2)=2*(k+1)+i by omega]at this;exact this) j c hc
def fzCs(h:Nat->Nat)(a:Nat):Nat->List Sta->List (List Tran)->List SV
 | k,s::ss,u::v::R=>.s s.name:: .t (.sl 3 (s.locals.map zag)):: .t (.sl 7 (s.eqs.map equT)):: .t (.sl 1 (s.autos.map zai))::(if 2*k<a then .t (.sl 8 (u.map zaw)) else rowV 8 s.unl.length (h (2*k)))::(if 2*k+1<a then .t (.sl 8 (v.map zaw)) else rowV 8 s.unt.length (h (2*k+1)))::fzCs h a (k+1) ss R
 | _,_,_=>[]
theorem zsa(h:Nat->Nat){a a':Nat}:∀(k:Nat) (ss:List Sta) (R:List (List Tran)),a≤2*k->a'≤2*k->fzCs h a k ss R=fzCs h a' k ss R
 | k,[],R,_,_=>by simp[fzCs]
 | k,s::ss,[],_,_=>by simp[fzCs]
 | k,s::ss,[u],_,_=>by simp[fzCs]
 | k,s::ss,u::v::R,h1,h2=>by
   rw[fzCs,fzCs,zsa h (a:=a) (a':=a') (k+1) ss R oA oA,oH oA,oH oA,oH oA,oH oA]
theorem fz_0(h:Nat->Nat):∀(k:Nat) (ss:List Sta) (R:List (List Tran)),R.length=2*ss.length->fzCs h 0 k ss R=stCs h k ss
 | k,[],R,hl=>by simp[fzCs,stCs]
 | k,s::ss,[],hl=>by simp at hl
 | k,s::ss,[u],hl=>by simp only[qae,qal]at hl;omega
 | k,s::ss,u::v::R,hl=>by
   rw[fzCs,stCs,oH oA,oH oA,fz_0 h (k+1) ss R (by simp only[qae]at hl;omega)]
theorem zvW(h:Nat->Nat){a:Nat}:∀(k:Nat) (ss:List Sta) (R:List (List Tran)),R.length=2*ss.length->2*(k+ss.length)≤a->fzCs h a k ss R=((((zdJ ss R).map staT).map T.cells).flatten).map .t
 | k,[],R,hl,_=>by cases R <;> simp[fzCs,zdJ]
 | k,s::ss,[],hl,_=>by simp at hl
 | k,s::ss,[u],hl,_=>by simp only[qae,qal]at hl;omega
 | k,s::ss,u::v::R,hl,ha=>by
   simp only[qae]at hl ha;rw[fzCs,oG oA,oG oA,zvW h (k+1) ss R oA oA,zdJ,qaf,qaf,qaK,zcD,qaw];rfl
theorem zvX(h:Nat->Nat):∀(b k:Nat) (ss:List Sta) (R:List (List Tran)) (u:List Tran),R.map List.length=(rowsOf ss).map List.length->R[b]?=some u->(fzCs h (2*k+b) k ss R)[6*(b / 2)+4+b % 2]?=some (rowV 8 u.length (h (2*k+b)))
 | b,k,[],R,u,hR,hu=>by
   cases R with
   | nil=>simp at hu
   | cons u R=>simp[rowsOf]at hR
 | b,k,s::ss,[],u,hR,hu=>by simp at hu
 | b,k,s::ss,[w],u,hR,hu=>by simp[rowsOf]at hR
 | 0,k,s::ss,w::v::R,u,hR,hu=>by
   simp only[rowsOf,qaf,qbd]at hR;simp at hu;subst hu
   rw[fzCs,oH oA,hR.1];rfl
 | 1,k,s::ss,w::v::R,u,hR,hu=>by
   simp only[rowsOf,qaf,qbd]at hR;simp at hu;subst hu
   rw[fzCs,oH (show ¬2*k+1<2*k+1 by omega),hR.2.1];rfl
 | b+2,k,s::ss,w::v::R,u,hR,hu=>by
   simp only[rowsOf,qaf,qbd]at hR
   have:=zvX h b (k+1) ss R u hR.2.2 (by simpa using hu)
   rw[show 2*(k+1)+b=2*k+(b+2) by omega]at this;rw[fzCs,show 6*((b+2) / 2)+4+(b+2) % 2=(6*(b / 2)+4+b % 2)+6 by omega];exact this
theorem zvY(h:Nat->Nat):∀(b k:Nat) (ss:List Sta) (R:List (List Tran)) (u:List Tran),R.map List.length=(rowsOf ss).map List.length->R[b]?=some u->(fzCs h (2*k+b) k ss R).set (6*(b / 2)+4+b % 2) (.t (.sl 8 (u.map zaw)))=fzCs h (2*k+b+1) k ss R
 | b,k,[],R,u,hR,hu=>by
   cases R with
   | nil=>simp at hu
   | cons u R=>simp[rowsOf]at hR
 | b,k,s::ss,[],u,hR,hu=>by simp at hu
 | b,k,s::ss,[w],u,hR,hu=>by simp[rowsOf]at hR
 | 0,k,s::ss,w::v::R,u,hR,hu=>by
   simp at hu;subst hu
   rw[fzCs,fzCs,oG (show 2*k<2*k+0+1 by omega),oH (show ¬2*k+1<2*k+0 by omega),oH (show ¬2*k+1<2*k+0+1 by omega),zsa h (a:=2*k+0) (a':=2*k+0+1) (k+1) ss R oA oA];rfl
 | 1,k,s::ss,w::v::R,u,hR,hu=>by
   simp at hu;subst hu
   rw[fzCs,fzCs,oG (show 2*k<2*k+1 by omega),oG (show 2*k<2*k+1+1 by omega),oG (show 2*k+1<2*k+1+1 by omega),zsa h (a:=2*k+1) (a':=2*k+1+1) (k+1) ss R oA oA];rfl
 | b+2,k,s::ss,w::v::R,u,hR,hu=>by
   simp only[rowsOf,qaf,qbd]at hR
   have:=zvY h b (k+1) ss R u hR.2.2 (by simpa using hu)
   rw[show 2*(k+1)+b=2*k+(b+2) by omega]at this;rw[fzCs,fzCs,show 6*((b+2) / 2)+4+(b+2) % 2=(6*(b / 2)+4+b % 2)+6 by omega,<-this,oG (show 2*k<2*k+(b+2) by omega),oG (show 2*k<2*k+(b+2)+1 by omega),oG (show 2*k+1<2*k+(b+2) by omega),oG (show 2*k+1<2*k+(b+2)+1 by omega)];rfl
theorem ztp(h:Nat->Nat):∀(b k:Nat) (ss:List Sta) (u:List Tran),(rowsOf ss)[b]?=some u->(stCs h k ss)[6*(b / 2)+4+b % 2]?=some (rowV 8 u.length (h (2*k+b)))
 | b,k,[],u,hu=>by simp[rowsOf]at hu
 | 0,k,s::ss,u,hu=>by
   simp[rowsOf]at hu;subst hu;rfl
 | 1,k,s::ss,u,hu=>by
   simp[rowsOf]at hu;subst hu;rfl
 | b+2,k,s::ss,u,hu=>by
   have:=ztp h b (k+1) ss u (by simpa [rowsOf]using hu)
   rw[show 2*(k+1)+b=2*k+(b+2) by omega]at this;rw[stCs,show 6*((b+2) / 2)+4+(b+2) % 2=(6*(b / 2)+4+b % 2)+6 by omega];exact this
theorem zf8(h:u.length=g.length):(setG ns u g).length=u.length:=by
 unfold setG;rw[qcc];omega
def setK(ns:List Str)(u:List Tran)(g:List (Str×Nat))(k:Nat):List Tran:=setG ns (u.take k) (g.take k)++u.drop k
theorem zAb(ns:List Str)(u:List Tran)(g:List (Str×Nat)):setK ns u g 0=u:=by simp[setK,setG]
theorem zu8(h:u.length=g.length):setK ns u g g.length=setG ns u g:=by
 unfold setK;exact zwcd
theorem zpy(h:u.length=g.length)(k:Nat):(setK ns u g k).length=u.length:=by
 unfold setK;rw[qab,zf8 (by simp[h]),qba,qa3];omega
theorem zu9(h:u.length=g.length)(hk:k<u.length):(setK ns u g k)[k]?=some u[k]:=by
 unfold setK;rw[qas (by rw[zf8 (by simp[h])];simp;omega),zf8 (by simp[h]),qbb,qba,show k+(k-min k u.length)=k by omega];exact qad hk
theorem ztd(h:u.length=g.length)(hk:k<u.length)(hx:g[k]?=some x)(hj:idxOf x.1 0 ns=some j):(setK ns u g k).set k ⟨u[k].cond,toI (j:Int),u[k].resume⟩=setK ns u g (k+1):=by
 have hgk:g.take (k+1)=g.take k++[x]:=by rw[qbJ,hx];rfl
 have huk:u.take (k+1)=u.take k++[u[k]]:=by rw[qbJ,qad hk];rfl
 have hlk:(setG ns (u.take k) (g.take k)).length=k:=by rw[zf8 (by simp[h]),qba];omega
 unfold setK;rw[qbR _ _ oA,hlk,qb7,qaP hk,qch,hgk,huk];unfold setG;rw[List.zipWith_append (by simp[h])];simp only[qbo,qcM,hj,qay];rfl
theorem zpK:∀(w:List Tran) (k:Nat) (q:Tran) (j:Nat),w[k]?=some q->((trCs w).map SV.t).set (8*k+6) (.n (toI (j:Int)))=(trCs (w.set k ⟨q.cond,toI (j:Int),q.resume⟩)).map SV.t
 | [],k,q,j,h=>by simp at h
 | p::w,0,q,j,h=>by
   simp at h;subst h
   rfl
 | p::w,k+1,q,j,h=>by
   have:=zpK w k q j (by simpa using h)
   rw[List.set_cons_succ,show 8*(k+1)+6=(8*k+6)+8 by omega];show(SV.t _::SV.t _::SV.t _::SV.t _::SV.t _::SV.t _::SV.t _::SV.t _::(trCs w).map SV.t).set (8*k+6+8) _=SV.t _::SV.t _::SV.t _::SV.t _::SV.t _::SV.t _::SV.t _::SV.t _::(trCs (w.set k ⟨q.cond,toI (j:Int),q.resume⟩)).map SV.t;rw[<-this];rfl
def curR(ns:List Str)(R:List (List Tran))(gs:List (List (Str×Nat)))(i:Nat):List (List Tran):=List.zipWith (setG ns) (R.take i) (gs.take i)++R.drop i
theorem zzb(ns:List Str)(R:List (List Tran))(gs:List (List (Str×Nat))):curR ns R gs 0=R:=by simp[curR]
theorem zui(h:R.length=gs.length):curR ns R gs gs.length=List.zipWith (setG ns) R gs:=by
 unfold curR;exact zwcd
theorem zuj(h:R.length=gs.length){i:Nat}(hi:i<R.length):(curR ns R gs i)[i]?=some R[i]:=by
 unfold curR;rw[qas (by rw[qcc,qba,qba];omega),qcc,qba,qba,qbb,show i+(i-min (min i R.length) (min i gs.length))=i by omega];exact qad hi
theorem zrD(h:R.length=gs.length){i:Nat}(hi:i<R.length)(hg:gs[i]?=some g):(curR ns R gs i).set i (setG ns R[i] g)=curR ns R gs (i+1):=by
 have hgk:gs.take (i+1)=gs.take i++[g]:=by rw[qbJ,hg];rfl
 have huk:R.take (i+1)=R.take i++[R[i]]:=by rw[qbJ,qad hi];rfl
 have hlk:(List.zipWith (setG ns) (R.take i) (gs.take i)).length=i:=by rw[qcc,qba,qba];omega
 unfold curR;rw[qbR _ _ oA,hlk,qb7,qaP hi,qch,hgk,huk,List.zipWith_append oF];simp only[qbo,qcM,qay];rfl
theorem zir{ns:List Str}:∀ {R:List (List Tran)} {gs:List (List (Str×Nat))},R.map List.length=gs.map List.length->(List.zipWith (setG ns) R gs).map List.length=R.map List.length
 | [],gs,h=>oC
 | u::R,[],h=>by simp at h
 | u::R,g::gs,h=>by
   simp only[qaf,qbd]at h;rw[qbo,qaf,qaf,zir h.2,zf8 h.1]
theorem zrC(h:R.map List.length=gs.map List.length)(i:Nat):(curR ns R gs i).map List.length=R.map List.length:=by
 unfold curR;rw[qaw,zir (by rw[qbB,qbB,h]),<-qaw,qaY]
theorem zva{i:Nat}{w:List Tran}(hu:R[i]?=some u)(h:w.length=u.length):(R.set i w).map List.length=R.map List.length:=by
 rw[qcV,h];obtain⟨h1,h2⟩:=qaa.1 hu
 have:u.length=(R.map List.length)[i]'(by simpa using h1):=by rw[qcb,h2]
 rw[this,qbv]
theorem zz5{i:Nat}{w:List Tran}(hi:i<R.length):(fun k=>if k=i then TL.rowB w.length ((trCs w).map .t) else rR R k)=rR (R.set i w):=by
 funext k
 by_cases hk:k=i
 ·subst hk;rw[oG rfl];exact(zgC (qaC hi)).symm
 ·rw[oH hk];unfold rR;rw[qaW (fun h=>hk h.symm)]
theorem zuS(hx:g[k]?=some x)(hj:idxOf x.1 0 ns=some j)(h:okG ns (g.take k)):okG ns (g.take (k+1)):=by
 intro y hy;rw[qbJ,hx]at hy;rcases qbe.1 hy with hy|hy
 ·exact h y hy
 ·simp at hy;subst hy;exact⟨j,hj⟩
theorem zpB{α:Type}{l:List α}{x:α}(h:l[k]?=some x):l=l.take k++x::l.drop (k+1):=by
 obtain⟨h1,h2⟩:=qaa.1 h
 conv=>lhs;rw[<-qaY k l,qaP h1,h2]
section rules
variable {P:Program}{n:Nat}{env:Env}{K:TK}{all ops:List Oper}{al:Array Oper}
theorem znq{b0 b1 b2 b3:Blk}(hR:R.map List.length=(rowsOf ss).map List.length)(h8:ss.length≤8)(hp:0<ss.length)
  (k:TO false P n al ops env (b0::b1::b2::b3:: .cells (((((zdJ ss R).map staT).map T.cells).flatten).map .t)::zbV (fun _=>.dead)) K):
  TO false P n al ops env (b0::b1::b2::b3::TL.rowB ss.length (stCs (fun k=>5+k) 0 ss)::zbV (rR R)) K:=by
 have hRl:R.length=2*ss.length:=by have:=oJ List.length hR;rw[qac,qac,zdU]at this;exact this
 have go:∀d a:Nat,a+d=R.length->TO false P n al ops env (b0::b1::b2::b3:: .cells (fzCs (fun k=>5+k) a 0 ss R)::zbV (fun k=>if k<a then .dead else rR R k)) K:=by
  intro d
  induction d with
  | zero=>
    intro a ha
    have h1:zbV (fun k=>if k<a then .dead else rR R k)=zbV fun _=>.dead:=by
     congr 1
     funext k
     by_cases hk:k<a
     ·rw[oG hk]
     ·rw[oH hk,zsU oA]
    rw[h1,zvW _ 0 ss R hRl oA];exact k
  | succ d ih=>
    intro a ha;have hal:a<R.length:=oA
    have hu:R[a]?=some R[a]:=qad hal;generalize R[a]=u at hu;have hg:=zvX (fun k=>5+k) a 0 ss R u hR hu;have hs:=zvY (fun k=>5+k) a 0 ss R u hR hu;rw[show 2*0+a=a by omega]at hg hs;refine TO.zkf 4 (6*(a / 2)+4+a % 2) 8 (5+a) u.length (ts:=trCs u) (es:=u.map zaw) oA rfl hg ?_ (ztH u) (by rw[qac]) (fun e he=>?_) rfl ?_ (ih (a+1) oA)
    ·show(b0::b1::b2::b3::Blk.cells _::zbV _)[5+a]?=_;rw[show 5+a=a+1+1+1+1+1 by omega,qaU,qaU,qaU,qaU,qaU,zjE _ oA,oH oA,zgC hu]
    ·obtain⟨q,_,rfl⟩:=qaL.1 he;rfl
    ·show(List.set (b0::b1::b2::b3::Blk.cells _::zbV _) (5+a) .dead).set 4 _=_;have e1:∀(x:Blk) (L:Heap),List.set (b0::b1::b2::b3::x::L) (5+a) .dead=b0::b1::b2::b3::x::L.set a .dead:=fun x L=>by rw[qck];rfl
     rw[e1,zjF _ oA];show b0::b1::b2::b3::Blk.cells _::_=_;rw[hs];congr 6
     funext k
     by_cases h1:k=a
     ·rw[oG h1,oG oA]
     ·rw[oH h1];by_cases h2:k<a
      ·rw[oG h2,oG oA]
      ·rw[oH h2,oH oA]
 have:=go R.length 0 oA
 rw[fz_0 _ 0 ss R hRl,show zbV (fun k=>if k<0 then .dead else rR R k)=zbV (rR R) from by congr 1]at this;rw[zb7 hp];exact this
end rules
end Go.Proofs.YtdicfgideclbdaaGreatDoor
namespace Go.Proofs.YtdicfgideclbdaaGreatDoor
open Go Go.TL
attribute [local irreducible] TR TO Then zal RetK Sound zab Kf GG zaR
attribute [local irreducible] zfk
variable {a j:Nat}{f:Nat->PR Ex}{R:Rd}{bd:Nat->PR (List Equ×List Auto)}
theorem ztI(r:Nat->Nat)(k:Nat)(x:T):(SV.tup [rowV 8 k 2,.t x]).ren r= .tup [rowV 8 k (r 2),.t x]:=by
 simp only[SV.ren,rens,zds]
theorem ztJ(r:Nat->Nat)(g k:Nat)(ts:List T):[Blk.tail g,TL.rowB k (ts.map .t)].map (Blk.ren r)=[.tail g,TL.rowB k (ts.map .t)]:=by
 have h:=zeg r k ts;simp only[qaf,qaD,h];rfl
abbrev ggT (g:List (Str×Nat)):T:=.sl 2 (g.map goT)
abbrev stC (ss:List Sta):List SV:=stCs (fun k=>5+k) 0 ss
abbrev nilB:Blk:=.cells [.t (.v (.slice none 0 0))]
abbrev GA (l:List Tok)(n:Int)(es:List En)(j:Nat)(ss:List Sta)(R:List (List Tran))(g:Nat):Heap:=rdB l n es j::nilB:: .cells [rowV 6 ss.length 4]:: .tail g::TL.rowB ss.length (stC ss)::zbV (rR R)
theorem zoP{b0 b1 b2 b3 b4:Blk}(f:Nat->Blk)(h:a<16):(b0::b1::b2::b3::b4::zbV f)[5+a]?=some (f a):=by
 rw[show 5+a=a+1+1+1+1+1 by omega,qaU,qaU,qaU,qaU,qaU,zjE f h]
theorem zuy{b0 b1 b2 b3 b4:Blk}(f:Nat->Blk)(h:a<16)(x:Blk):List.set (b0::b1::b2::b3::b4::zbV f) (5+a) x=b0::b1::b2::b3::b4::zbV fun k=>if k=a then x else f k:=by
 rw[<-zjF f h,qck];rfl
theorem zp2{α β:Type}{f:α->Nat->PR β}{x:α}:(PR.ok x j).bind f=f x j:=rfl
abbrev vB (x:List Equ×List Auto):SV:=.tup [.t (.sl 7 (x.1.map equT)),.t (.sl 1 (x.2.map zai))]
abbrev vA (a:Auto):SV:=.t (zai a)
def zyJ(l:List Tok)(n:Int)(es:List En)(d:Nat)(bd:Nat->PR (List Equ×List Auto)):Prop:=∀j,j≤l.length->RdK l n es 116 [.i d] j j (bd j) vB
theorem toX{P:Program}{f:FuncId}{args:List SV}{H H1:Heap}{v:SV}{N:Nat}(h:Sound P f args H (fun r H'=>r= .ret v/\H'=H1)):Sound P f args H (ErrX 0 v (.b true) H1 N):=by
 have e:ErrX 0 v (.b true) H1 N=fun r H'=>r= .ret v/\H'=H1:=by funext r H';unfold ErrX;rw[oG rfl]
 rw[e];exact h
theorem zn4{m:Nat}{ss:List Sta}{gs:List (List (Str×Nat))}(h:R.isAt j [115,116,97,116,101]=false):R.states f bd m ss gs j= .ok (ss,gs) j:=by
 cases m with
 | zero=>rfl
 | succ m=>unfold Rd.states;rw[oH (by rw[h];decide)]
theorem zAP{i:Nat}{s:Str}(h:R.id i= .ok s j):j≤R.K.length:=by
 unfold Rd.id at h;split at h
 ·rename_i hk;cases h;exact zdF hk
 ·cases h
theorem zkR{R:Rd}{f:Nat->PR Ex}{w:Str}:∀(m:Nat) (xs:List Tran) (gs:List (Str×Nat)) {i:Nat} {ys:List Tran} {hs:List (Str×Nat)} {j:Nat},R.trans f w m xs gs i= .ok (ys,hs) j->(∀x∈gs,x.2≤R.K.length)->∀x∈hs,x.2≤R.K.length
 | 0,xs,gs,i,ys,hs,j,h,hl=>by cases h;exact hl
 | m+1,xs,gs,i,ys,hs,j,h,hl=>by
   unfold Rd.trans at h;split at h
   ·obtain⟨_,_,_,h⟩:=za2 h;obtain⟨_,_,_,h⟩:=za2 h;obtain⟨_,_,_,h⟩:=za2 h;obtain⟨_,_,hi,h⟩:=za2 h;obtain⟨_,_,_,h⟩:=za2 h
    have:=zAP hi
    refine zkR m _ _ h fun x hx=>?_
    rcases qbe.1 hx with hx|hx
    ·exact hl x hx
    ·simp at hx;subst hx;show _-1≤_;omega
   ·cases h;exact hl
theorem zmw{R:Rd}{f:Nat->PR Ex}{bd:Nat->PR (List Equ×List Auto)}:∀(m:Nat) (xs:List Sta) (gs:List (List (Str×Nat))) {i:Nat} {ys:List Sta} {hs:List (List (Str×Nat))} {j:Nat},R.states f bd m xs gs i= .ok (ys,hs) j->(∀g∈gs,∀x∈g,x.2≤R.K.length)->∀g∈hs,∀x∈g,x.2≤R.K.length
 | 0,xs,gs,i,ys,hs,j,h,hl=>by cases h;exact hl
 | m+1,xs,gs,i,ys,hs,j,h,hl=>by
   unfold Rd.states at h;split at h
   ·obtain⟨_,_,_,h⟩:=za2 h;obtain⟨x,_,hst,h⟩:=za2 h;unfold Rd.state at hst;obtain⟨_,_,_,hst⟩:=za2 hst;obtain⟨_,_,_,hst⟩:=za2 hst;obtain⟨⟨us,gu⟩,_,hu,hst⟩:=za2 hst;obtain⟨_,_,_,hst⟩:=za2 hst;obtain⟨_,_,_,hst⟩:=za2 hst;obtain⟨⟨vs,gv⟩,_,hv,hst⟩:=za2 hst;obtain⟨_,_,_,hst⟩:=za2 hst;cases hst;have h1:=zkR _ _ _ hu (fun x hx=>by cases hx);have h2:=zkR _ _ _ hv (fun x hx=>by cases hx);refine zmw m _ _ h fun g hg=>?_
    rcases qbe.1 hg with hg|hg
    ·exact hl g hg
    ·rcases qa9.1 hg with rfl|hg
     ·exact h1
     ·rcases qa9.1 hg with rfl|hg
      ·exact h2
      ·cases hg
   ·cases h;exact hl
theorem zr4{ns:List Str}{N:Nat}:∀ {g:List (Str×Nat)} {k:Nat} {c:Int},fixG ns g= .er k c->(∀x∈g,x.2≤N)->k≤N/\c≠0
 | [],k,c,h,_=>by cases h
 | (s,a)::g,k,c,h,hg=>by
   rw[fixG]at h;split at h
   ·cases h;exact⟨hg (s,a) qah,oB⟩
   ·cases hq:fixG ns g with
    | ok v j=>rw[hq]at h;cases h
    | er k' c'=>
      rw[hq]at h;cases h;exact zr4 hq fun x hx=>hg x (qaj _ hx)
theorem zoS{ns:List Str}{N:Nat}:∀ {gs:List (List (Str×Nat))} {k:Nat} {c:Int},zd9 ns gs= .er k c->(∀g∈gs,∀x∈g,x.2≤N)->k≤N/\c≠0
 | [],k,c,h,_=>by cases h
 | g::gs,k,c,h,hg=>by
   rw[zd9]at h;cases hp:fixG ns g with
   | er k' c'=>
     rw[hp]at h;cases h;exact zr4 hp (hg g qah)
   | ok v j=>
     rw[hp]at h;cases hq:zd9 ns gs with
     | ok v j=>simp only[PR.bind,hq]at h;cases h
     | er k' c'=>
       simp only[PR.bind,hq]at h;cases h;exact zoS hq fun x hx=>hg x (qaj _ hx)
theorem zgR(hf:∀i,i≤R.K.length->InR R.K.length (i+1) (f i))(hb:∀i,i≤R.K.length->InR R.K.length i (bd i)){i:Nat}(h:i≤R.K.length):InR R.K.length i (R.automaton f bd i):=by
 unfold Rd.automaton;have h1:=zmx hf hb R.K.length [] [] h;cases hs:R.states f bd R.K.length [] [] i with
 | er k c=>rw[hs]at h1;exact h1
 | ok x j=>
   rw[hs]at h1;obtain⟨ss,gs⟩:=x;have hg:=zmw _ _ _ hs (fun g hg=>by cases hg);refine(zaP _ h1.2).bind fun _ j2 h2 h3=>?_
   cases hq:zd9 (ss.map Sta.name) gs with
   | er k c=>exact zoS hq hg
   | ok v a=>
     have:=h1.1
     exact⟨oA,h3⟩
set_option maxRecDepth 20000 in
theorem zAC (l:List Tok) (n:Int) (es:List En) (hk:TkOk l) (hes:EsOk es) (i:Nat) (hi:i≤l.length) (d:Nat) (hd:d≤3) (bd:Nat->PR (List Equ×List Auto)) (hbd:zyJ l n es (d+1) bd) (hbi:∀j,j≤(rdr l es).K.length->InR (rdr l es).K.length j (bd j)):RdK l n es 150 [.i d] i i ((rdr l es).automaton (rdr l es).expr bd i) vA:=by
 refine .of (fun h=>zgR (fun j h=>zcV _ _ h) hbi h) hi fun xr jr hr _ _=>?_
 have hl:=hk.len;unfold Rd.automaton at hr;refine so Tryz.func150 ?_;repeat' (first|refine wk ?_|fail)
 refine TR.tail 1 6 rfl ?_
 refine TR.zks (ι:=Nat×Nat×List Sta×List (List (Str×Nat))) (fun x=>i≤x.2.1/\x.2.1≤l.length/\l.length-x.2.1≤x.1/\x.2.2.1.length≤8/\(rowsOf x.2.2.1).map List.length=x.2.2.2.map List.length/\(∀u∈rowsOf x.2.2.1,u.length≤4)/\(((rdr l es).states (rdr l es).expr bd x.1 x.2.2.1 x.2.2.2 x.2.1).bind fun x i=>((rdr l es).must [[101,110,100]] i).bind fun _ i=>(zd9 (x.1.map Sta.name) x.2).bind fun jss _=>(.ok (.mk (zf9 x.1 jss)) i:PR Auto))= .ok xr jr) (fun x=>l.length-x.2.1) (fun x=>[(0,.ref 0 0),(1,.i d),(4,.ref 1 0),(5,.ref 2 0),(6,.sl 1 (x.2.2.2.map ggT) 3)]) (fun x=>GA l n es x.2.1 x.2.2.1 (rowsOf x.2.2.1) (x.2.2.2.map ggT).length) ((rdr l es).K.length,i,[],[])
  ⟨by show i≤i;omega,hi,by rw[zat];show l.length-i≤l.length;omega,by show 0≤8;omega,rfl,(fun u hu=>by cases hu),hr⟩ ⟨rfl,rfl,rfl,rfl,rfl,trivial⟩ 17 rfl ?_
 clear hr;rintro⟨m,j,ss,gs⟩ ⟨q1,q2,q3,q4,q5,q6,hr⟩;replace q1:i≤j:=q1;replace q2:j≤l.length:=q2;replace q3:l.length-j≤m:=q3;replace q4:ss.length≤8:=q4;replace q5:(rowsOf ss).map List.length=gs.map List.length:=q5;replace q6:∀u∈rowsOf ss,u.length≤4:=q6;replace hr:(((rdr l es).states (rdr l es).expr bd m ss gs j).bind fun x i=>((rdr l es).must [[101,110,100]] i).bind fun _ i=>(zd9 (x.1.map Sta.name) x.2).bind fun jss _=>(.ok (.mk (zf9 x.1 jss)) i:PR Auto))= .ok xr jr:=hr;have hgl:gs.length=2*ss.length:=by have:=oJ List.length q5;rw[qac,qac,zdU]at this;exact this.symm
 have hmg:(gs.map ggT).length=gs.length:=qac _;have hcl:(stC ss).length=ss.length*6:=zpD _ _ _;have t1:=zbn l n es j [115,116,97,116,101] hl;show TR _ _ _ [(0,.ref 0 0),(1,.i d),(4,.ref 1 0),(5,.ref 2 0),(6,.sl 1 (gs.map ggT) 3)] (GA l n es j ss (rowsOf ss) (gs.map ggT).length) _;cases h1:(rdr l es).isAt j [115,116,97,116,101] with
 | true=>
   have hlth1:=zam h1;rw[zat]at hlth1;rw[h1]at t1;cases m with
   | zero=>exfalso;omega
   | succ m=>
   rw[Rd.states,oG h1,Rd.state]at hr;simp only[zfE,zp2]at hr;refine wk ?_;repeat' (first|refine zqi ?_|refine wd t1 ?_|(apply TO.lenR zaf;(iterate 4 exact rfl))|refine wk ?_|exact wkc|refine wk2 ?_ ?_|intro hc)
   obtain⟨u3,j3,qm3,m3,m3a,m3b,hr⟩:=(limK l n es j ss.length ss.length 8 hl q2 rfl).get hr;obtain⟨hlt4,rfl⟩:=zch qm3;repeat' (first|refine zqi ?_|refine wd m3 ?_|refine wk ?_|exact wkc|refine wk2 ?_ ?_|intro hc)
   obtain⟨nm,j4,qm4,m4,m4a,m4b,hr⟩:=(idK l n es (j3+1) hl hlth1).get hr;repeat' (first|refine zqi ?_|refine wd m4 ?_|refine wk ?_|exact wkc|refine wk2 ?_ ?_|intro hc)
   obtain⟨ds,j5,qm5,m5,m5a,m5b,hr⟩:=(zsu l n es hk hes j4 m4b).get hr;repeat' (first|refine zqi ?_|refine wd m5 ?_|refine wk ?_|exact wkc|refine wk2 ?_ ?_|intro hc)
   obtain⟨xm6,j6,qm6,m6,m6a,m6b,hr⟩:=(zwZ l n es hk hes j5 m5b [117,110,108,101,115,115]).get hr;obtain⟨us,gu⟩:=xm6;have hlm6:=ziH _ _ _ qm6 rfl;repeat' (first|refine zqi ?_|(refine TO.zvE (toX m6) rfl rfl rfl ⟨Le.refl _,Le.refl _,trivial⟩ rfl rfl rfl (fun _=>rfl) (fun _=>rfl) (ztI _ _ _) (fun _=>rfl) (ztJ _ _ _ _) (fun _=>?_) (fun h=>oI rfl h))|(apply TO.zmz zaf;(iterate 3 exact rfl);exact zjD _ _ _;exact zjC _ _ _;exact rfl;exact rfl;exact leB;exact rfl)|refine wk ?_|exact wkc|refine wk2 ?_ ?_|intro hc)
   obtain⟨u7,j7,qm7,m7,m7a,m7b,hr⟩:=(zcn l n es j6 [[100,111]] hl m6b oB).get hr;repeat' (first|refine zqi ?_|refine wd m7 ?_|refine wk ?_|exact wkc|refine wk2 ?_ ?_|intro hc)
   obtain⟨bb,j8,qm8,m8,m8a,m8b,hr⟩:=(hbd j7 m7b).get hr;obtain⟨eqs,ats⟩:=bb;repeat' (first|refine zqi ?_|refine wd m8 ?_|refine wk ?_|exact wkc|refine wk2 ?_ ?_|intro hc)
   obtain⟨xm9,j9,qm9,m9,m9a,m9b,hr⟩:=(zwZ l n es hk hes j8 m8b [117,110,116,105,108]).get hr;obtain⟨vs,gv⟩:=xm9;have hlm9:=ziH _ _ _ qm9 rfl;repeat' (first|refine zqi ?_|(refine TO.zvE (toX m9) rfl rfl rfl ⟨Le.refl _,Le.refl _,trivial⟩ rfl rfl rfl (fun _=>rfl) (fun _=>rfl) (ztI _ _ _) (fun _=>rfl) (ztJ _ _ _ _) (fun _=>?_) (fun h=>oI rfl h))|(apply TO.zmz zaf;(iterate 3 exact rfl);exact zjD _ _ _;exact zjC _ _ _;exact rfl;exact rfl;exact leB;exact rfl)|refine wk ?_|exact wkc|refine wk2 ?_ ?_|intro hc)
   obtain⟨u10,j10,qm10,m10,m10a,m10b,hr⟩:=(zcn l n es j9 [[100,111,110,101]] hl m9b oB).get hr;repeat' (first|refine zqi ?_|refine wd m10 ?_|(apply TO.zub zaf;(iterate 11 exact rfl))|(apply TO.zt6 zaf;(iterate 10 exact rfl);exact hcl;(iterate 3 exact rfl);exact leB;exact rfl;omega;exact rfl)|refine wk ?_|exact wkc|refine wk2 ?_ ?_|intro hc)
   obtain⟨s,hs⟩:∃s:Sta,s= .mk nm ds eqs ats us vs:=⟨_,rfl⟩;have hxl:(ss++[s]).length=ss.length+1:=by rw[qab];rfl
   refine zfk.next (m,j10,ss++[s],gs++[gu,gv]) (idsA ss.length) ⟨?_,m10b,?_,?_,?_,?_,?_⟩ ?_ (Hands.ofF (zqq hlt4) ⟨rfl,rfl,?_,?_,?_,zek.rows fun k hk=>?_⟩ ?_) (leB) ?_ ?_ ⟨⟨_,rfl,Le.refl _⟩,⟨_,rfl,Le.refl _⟩,⟨_,rfl,Le.refl _⟩,⟨_,rfl,Le.refl _⟩,⟨_,rfl,?_⟩,trivial⟩
   ·show i≤j10;omega
   ·show l.length-j10≤m;omega
   ·show(ss++[s]).length≤8;omega
   ·show(rowsOf (ss++[s])).map List.length=(gs++[gu,gv]).map List.length;rw[ze1,qaw,qaw,q5,hs];show _++[us.length,vs.length]=_++[gu.length,gv.length];rw[hlm6,hlm9]
   ·show ∀u∈rowsOf (ss++[s]),u.length≤4;intro u hu;rw[ze1,hs]at hu;rcases qbe.1 hu with hu|hu
    ·exact q6 u hu
    ·rcases qa9.1 hu with rfl|hu
     ·exact zkS _ _ _ qm6 oC
     ·rcases qa9.1 hu with rfl|hu
      ·exact zkS _ _ _ qm9 oC
      ·cases hu
   ·show(((rdr l es).states (rdr l es).expr bd m (ss++[s]) (gs++[gu,gv]) j10).bind fun x i=>((rdr l es).must [[101,110,100]] i).bind fun _ i=>(zd9 (x.1.map Sta.name) x.2).bind fun jss _=>(.ok (.mk (zf9 x.1 jss)) i:PR Auto))= .ok xr jr;rw[hs];exact hr
   ·show l.length-j10<l.length-j3;omega
   ·show _=some ((Blk.cells [rowV 6 (ss++[s]).length 4]).ren _);show some (Blk.cells [SV.ms 6 27 0 (ss.length+1)])=some (.cells (rens _ [rowV 6 (ss++[s]).length 4]));simp only[rens,zds];rw[zcW oA,hxl];rfl
   ·show some (Blk.tail ((gs.map ggT).length+2))=some (Blk.tail ((gs++[gu,gv]).map ggT).length);rw[qaw,qab];rfl
   ·show _=some ((TL.rowB (ss++[s]).length (stC (ss++[s]))).ren _);rw[zb7 (show 0<(ss++[s]).length by omega)];show _=some (Blk.cells (rens _ (stCs (fun k=>5+k) 0 (ss++[s]))));rw[zyz _ s hlt4,hs];rfl
   ·show _=some ((rR (rowsOf (ss++[s])) k).ren _);rw[zz4,zz3];unfold rI;by_cases g1:k=2*ss.length
    ·rw[oG g1,oG g1,hs];rfl
    by_cases g2:k=2*ss.length+1
    ·rw[oH g1,oH g1,oG g2,oG g2,hs];rfl
    rw[oH g1,oH g1,oH g2,oH g2];clear g1 g2;rcases(by omega:k=0\/k=1\/k=2\/k=3\/k=4\/k=5\/k=6\/k=7\/k=8\/k=9\/k=10\/k=11\/k=12\/k=13\/k=14\/k=15)with rfl|rfl|rfl|rfl|rfl|rfl|rfl|rfl|rfl|rfl|rfl|rfl|rfl|rfl|rfl|rfl
    all_goals rfl
   ·show zaa 21 (rdB l n es j10::nilB:: .cells [rowV 6 (ss++[s]).length 4]:: .tail _::TL.rowB (ss++[s]).length (stC (ss++[s]))::zbV (rR (rowsOf (ss++[s]))))=true;have h1:=znS (n:=(ss++[s]).length) (zjL (h:=fun k=>5+k) (N:=21) 0 (ss++[s]) fun a _ ha=>by rw[hxl]at ha;show 5+a<21;omega);have h2:=zmk (zu0 21 (rowsOf (ss++[s])))
    have h3:(Blk.cells [rowV 6 (ss++[s]).length 4]).under 21=true:=by
     show unders 21 [rowV 6 (ss++[s]).length 4]=true;simp only[unders,zbT (show 4<21 by decide),qbx]
    simp only[zaa,h1,h2,h3,qbx];rfl
   ·intro a ha;have ha:a<4:=ha;rcases(by omega:a=0\/a=1\/a=2\/a=3)with rfl|rfl|rfl|rfl <;> rfl
   ·rfl
   ·show Le _ (.sl 1 ((gs++[gu,gv]).map ggT) 3);rw[qaw];exact Le.refl _
 | false=>
 rw[h1]at t1;rw[zn4 h1,zp2]at hr;refine wk ?_;repeat' (first|refine zqi ?_|refine wd t1 ?_|refine zfk.exit ?_|refine wk ?_|exact wkc|refine wk2 ?_ ?_|intro hc)
 obtain⟨u11,jj,qm11,m11,m11a,m11b,hr⟩:=(zcn l n es j [[101,110,100]] hl q2 oB).get hr;repeat' (first|refine zqi ?_|refine wd m11 ?_|refine wk ?_|exact wkc|refine wk2 ?_ ?_|intro hc)
 have hrl:=zdU ss;have hRg:(rowsOf ss).length=gs.length:=oA
 obtain⟨ns,hns⟩:∃ns:List Str,ns=ss.map Sta.name:=⟨_,rfl⟩;rw[<-hns]at hr;have hfst:TL.rowB ss.length (stC ss)=TL.rowB ss.length (stC ss):=rfl;refine TR.zay gs.length (fun i=>∀g∈gs.take i,okG ns g) (fun i=>[(0,.ref 0 0),(4,.ref 1 0),(5,.ref 2 0),(77,.sl 1 (gs.map ggT) 3),(78,.i (gs.map ggT).length),(79,.i i)]) (fun i=>GA l n es jj ss (curR ns (rowsOf ss) gs i) (gs.map ggT).length) (fun g hg=>by simp at hg) (fun i' hi' ha=>?_) (fun ha=>?_) ⟨rfl,rfl,rfl,rfl,rfl,rfl,trivial⟩ (by rw[zzb];rfl)
 ·have hx:(gs.map ggT)[i']?=some (.sl 2 (gs[i'].map goT)):=by rw[qan,qad hi'];rfl
  have hgi:gs[i']?=some gs[i']:=qad hi';have hui:(rowsOf ss)[i']?=some ((rowsOf ss)[i']' oA):=qad oA;have hcur:=zuj (ns:=ns) hRg (i:=i') oA;have hcst:=zrD (ns:=ns) hRg (i:=i') oA hgi
  have hln:((rowsOf ss)[i']' oA).length=gs[i'].length:=by
   have h1:((rowsOf ss).map List.length)[i']?=(gs.map List.length)[i']? :=by rw[q5]
   rw[qan,qan,hui,hgi]at h1;exact qci h1
  have hcl2:=zrC (ns:=ns) q5 i';have hu4:=q6 _ (qau hui);generalize gs[i']=g at*;generalize (rowsOf ss)[i']' oA=u at*;obtain⟨C,hC⟩:∃C,C=curR ns (rowsOf ss) gs i':=⟨_,rfl⟩;rw[<-hC]at hcur hcst hcl2;have hCl:C.length=gs.length:=by have:=oJ List.length hcl2;rw[qac,qac]at this;omega
  have hmu:(g.map goT).length=g.length:=qac _;show TR _ _ _ [(0,.ref 0 0),(4,.ref 1 0),(5,.ref 2 0),(77,.sl 1 (gs.map ggT) 3),(78,.i (gs.map ggT).length),(79,.i i')] (GA l n es jj ss (curR ns (rowsOf ss) gs i') (gs.map ggT).length) _;rw[<-hC];refine wk ?_;repeat' (first|refine zqi ?_|refine wk ?_|exact wkc|refine wk2 ?_ ?_|intro hc)
  have hC0:C.set i' u=C:=by
   obtain⟨h1,h2⟩:=qaa.1 hcur;rw[<-h2,qbv]
  refine TR.zay g.length (fun k=>okG ns (g.take k)) (fun k=>[(0,.ref 0 0),(4,.ref 1 0),(5,.ref 2 0),(10,.i i'),(77,.sl 1 (gs.map ggT) 3),(78,.i (gs.map ggT).length),(79,.i i'),(84,.t (.sl 2 (g.map goT))),(85,.i (g.map goT).length),(86,.i k)]) (fun k=>GA l n es jj ss (C.set i' (setK ns u g k)) (gs.map ggT).length) (fun x hx=>by simp at hx) (fun k hk2 hb=>?_) (fun hb=>?_) ⟨rfl,rfl,rfl,rfl,rfl,rfl,rfl,rfl,rfl,rfl,trivial⟩ (by show GA l n es jj ss C _=GA l n es jj ss (C.set i' (setK ns u g 0)) _;rw[zAb,hC0])
  ·have hxg:(g.map goT)[k]?=some (.ag [.s g[k].1,.i g[k].2]):=by rw[qan,qad hk2];rfl
   have hgk:g[k]?=some g[k]:=qad hk2;have huk:k<u.length:=oA
   have hw:=zu9 (ns:=ns) hln huk;have hwl:=zpy (ns:=ns) hln k;generalize g[k]=x at*;obtain⟨nm,at'⟩:=x;obtain⟨C',hC'⟩:∃C',C'=C.set i' (setK ns u g k):=⟨_,rfl⟩;have hCs:C'[i']?=some (setK ns u g k):=by rw[hC'];exact qaC oA
   have hCl':C'.map List.length=(rowsOf ss).map List.length:=by rw[hC',zva hcur hwl,hcl2]
   have hidx:=zlQ 180 [.cp [.s nm,.i at'] 0] rfl (fun s=>s.name == nm) (zdJ ss C') (by rw[zdZ];omega) (fun s=>zkM s nm at');have hCn:C'.length=2*ss.length:=by have:=oJ List.length hCl';rw[qac,qac]at this;omega
   have hlent:LeB (GA l n es jj ss C' (gs.map ggT).length) (rowV 6 ss.length 4) (.t (.sl 6 ((zdJ ss C').map staT))):=LeB.row rfl (fun j c hc=>ztr (fun k=>5+k) 0 ss C' hCl' (fun a w haw=>by
    have:=(qaa.1 haw).1
    rw[show 2*0+a=a by omega];exact(zoP _ oA).trans (oJ some (zgC haw))) j c hc) (by rw[qac,zdZ]) (fun e he=>by obtain⟨q,_,rfl⟩:=qaL.1 he;rw[zcD];rfl)
   show TR _ _ _ [(0,.ref 0 0),(4,.ref 1 0),(5,.ref 2 0),(10,.i i'),(77,.sl 1 (gs.map ggT) 3),(78,.i (gs.map ggT).length),(79,.i i'),(84,.t (.sl 2 (g.map goT))),(85,.i (g.map goT).length),(86,.i k)] (GA l n es jj ss (C.set i' (setK ns u g k)) (gs.map ggT).length) _;rw[<-hC'];rcases zvZ nm (zdJ ss C') 0 with ⟨z1,z2⟩|⟨q,z1,z2,z3⟩
   ·rw[zfA,<-hns]at z2;rw[z1]at hidx
    have hfx:zd9 ns gs= .er at' 6:=by
     have h1:=zpB hgi;have h2:=zpB hgk
     have:=zoR (gs:=gs.take i') (rs:=gs.drop (i'+1)) (r:=g.drop (k+1)) (k:=at') ha hb z2
     rw[<-h2,<-h1]at this;exact this
    rw[hfx]at hr;cases hr
   ·rw[zfA,<-hns,qaV]at z3;rw[z2]at hidx;rw[zdZ]at z1;have hst:=ztd (ns:=ns) hln huk hgk z3;have hts:=zpK _ k _ q hw;rw[hst]at hts;have hbk:(GA l n es jj ss C' (gs.map ggT).length)[4]?=some (.cells (stC ss)):=oJ some (zb7 oA)
    have hgetX:(GA l n es jj ss C' (gs.map ggT).length)[5+i']?=some (.cells ((trCs (setK ns u g k)).map .t)):=by
     refine(zoP _ oA).trans ?_;rw[zgC hCs,zb7 oA]
    have hoffX:0+((k:Int)).toNat*8+6<((trCs (setK ns u g k)).map SV.t).length:=by
     rw[qac,zkP];show 0+k*8+6<_;omega
    have hqT:SV.i (q:Int)= .n (toI (q:Int)):=oJ (fun z=>SV.t (T.v (Value.int .i64 z))) (zdI oA).symm
    have hsetX:(GA l n es jj ss C' (gs.map ggT).length).set (5+i') (.cells (((trCs (setK ns u g k)).map SV.t).set (0+((k:Int)).toNat*8+6) (.i (q:Int))))=GA l n es jj ss (C.set i' (setK ns u g (k+1))) (gs.map ggT).length:=by
     show List.set _ _ (Blk.cells (((trCs (setK ns u g k)).map SV.t).set (0+k*8+6) (.i (q:Int))))=_;rw[show 0+k*8+6=8*k+6 by omega,hqT,hts];refine(zuy _ oA _).trans ?_;have h1:=zz5 (R:=C') (i:=i') (w:=setK ns u g (k+1)) oA;rw[zb7 (by rw[zpy hln];omega)]at h1;rw[h1,hC',qcW]
    have hsg:=ztp (fun k=>5+k) i' 0 ss u hui;rw[show 2*0+i'=i' by omega]at hsg;by_cases hpar:i' % 2=0
    ·have hc4:(stC ss)[0+(((i' / 2:Nat):Int)).toNat*6+4]?=some (rowV 8 u.length (5+i')):=by
      show(stC ss)[0+(i' / 2)*6+4]?=_;rw[show 0+(i' / 2)*6+4=6*(i' / 2)+4+i' % 2 by omega];exact hsg
     exact zwc
    ·have hc4:(stC ss)[0+(((i' / 2:Nat):Int)).toNat*6+5]?=some (rowV 8 u.length (5+i')):=by
      show(stC ss)[0+(i' / 2)*6+5]?=_;rw[show 0+(i' / 2)*6+5=6*(i' / 2)+4+i' % 2 by omega];exact hsg
     exact zwc
  ·show TR _ _ _ [(0,.ref 0 0),(4,.ref 1 0),(5,.ref 2 0),(10,.i i'),(77,.sl 1 (gs.map ggT) 3),(78,.i (gs.map ggT).length),(79,.i i'),(84,.t (.sl 2 (g.map goT))),(85,.i (g.map goT).length),(86,.i g.length)] (GA l n es jj ss (C.set i' (setK ns u g g.length)) (gs.map ggT).length) _;rw[zu8 hln,hcst];refine wk ?_;repeat' (first|refine zqi ?_|refine wk ?_|exact wkc|refine wk2 ?_ ?_|intro hc)
   refine zab.zaD hi' fun y hy=>?_
   rw[qbJ,hgi]at hy;rcases qbe.1 hy with hy|hy
   ·exact ha y hy
   ·simp at hy;subst hy;rw[qap]at hb;exact hb
 ·rw[qap]at ha;obtain⟨jss,hfx,hfs⟩:=zoT ha;replace hfs:=hfs ss hgl;rw[hfx,zp2,hfs]at hr;show TR _ _ _ [(0,.ref 0 0),(4,.ref 1 0),(5,.ref 2 0),(77,.sl 1 (gs.map ggT) 3),(78,.i (gs.map ggT).length),(79,.i gs.length)] (GA l n es jj ss (curR ns (rowsOf ss) gs gs.length) (gs.map ggT).length) _;rw[zui hRg];obtain⟨C,hC⟩:∃C,C=List.zipWith (setG ns) (rowsOf ss) gs:=⟨_,rfl⟩;have hCl:C.map List.length=(rowsOf ss).map List.length:=by rw[hC,zir q5]
  rw[<-hC]at hr⊢;rcases Nat.eq_zero_or_pos ss.length with h0|hp
  ·have hse:ss=[]:=qaF h0;have hre:zdJ ss C=[]:=qaF (by rw[zdZ,h0]);rw[hre]at hr;cases hr;subst hse;refine wk ?_;repeat' (first|refine zqi ?_|refine wk ?_|exact wkc|refine wk2 ?_ ?_|intro hc)
   refine rdO rfl ?_;show Le _ (.t (zai (.mk [])));rw[zcc];exact leX
  ·refine wk ?_;refine znq hCl q4 hp ?_;refine TO.zkf 2 0 6 4 ss.length (ts:=(((zdJ ss C).map staT).map T.cells).flatten) (es:=(zdJ ss C).map staT) oB rfl rfl (oJ some (zb7 hp).symm) rfl (by rw[qac,zdZ]) (fun e he=>by obtain⟨q,_,rfl⟩:=qaL.1 he;rw[zcD];rfl) rfl rfl ?_;repeat' (first|refine zqi ?_|refine wk ?_|exact wkc|refine wk2 ?_ ?_|intro hc)
   cases hr;refine rdO rfl ?_;show Le _ (.t (zai (.mk (zdJ ss C))));rw[zcc];exact Le.toT rfl
end Go.Proofs.YtdicfgideclbdaaGreatDoor
