import Derived.Test.YtdicfgideclbdaaGreatDoorAk44
import Derived.Test.YtdicfgideclbdaaGreatDoorAk46
set_option maxHeartbeats 64000000
set_option linter.all false
namespace Go.Proofs.YtdicfgideclbdaaGreatDoor
open Go Go.TL
attribute [local irreducible] TR TO Then zaj RetK Sound zac Kf GG zaQ
abbrev eqZ:Blk:=.cells [.t (.v (.slice none 0 0)),.t (.v (.int .i64 0)),.t (.v (.int .i64 0)),.t (.v (.int .i64 0)),.t (.v (.int .i64 0)),.t (.v (str [])),.t (.v (.slice none 0 0))]
abbrev eqB (x:SV):Blk:=.cells [x,.t (.v (.int .i64 0)),.t (.v (.int .i64 0)),.t (.v (.int .i64 0)),.t (.v (.int .i64 0)),.t (.v (str [])),.t (.v (.slice none 0 0))]
abbrev vQ (q:Equ):SV:=.t (equT q)
abbrev eqH (l:List Tok)(n:Int)(es:List En)(j:Nat)(x:List T)(k:Nat):Heap:=[rdB l n es j,eqZ,eqB (.sl 1 x 3),.tail k]
theorem equK (l:List Tok) (n:Int) (es:List En) (hk:TkOk l) (hes:EsOk es) (i:Nat) (hi:i≤l.length):RdK l n es 151 [] i (i+1) ((rdr l es).equation (rdr l es).expr i) vQ:=by
 refine .of (fun h=>zh6 (fun j h=>zcZ _ _ h) h) hi fun x jx hr _ _=>?_
 have hl:=hk.len;unfold Rd.equation at hr;obtain⟨L,j,q,hr⟩:=zjm hr;have hj:=zsq (R:=rdr l es) (i:=i) (by rw[zau];exact hi);rw[q,zau]at hj;obtain⟨_,j2,_,k1,_,c1,hr⟩:=(zco l n es j [[61]] hl hj.2 oB).get hr;obtain⟨e,j3,_,k2,_,c2,hr⟩:=(zoR l n es hk hes j2 c1).get hr;obtain⟨_,j4,_,k3,_,c3,hr⟩:=(zco l n es j3 [[59]] hl c2 oB).get hr;cases hr;clear hj c1 c2 c3;have t0:=zay l n es i [40] hl hi;unfold Rd.left at q;refine so Tryz.func151 ?_;repeat' (first|refine wkb ?_|refine wk ?_|exact wkc|refine wk2 ?_ ?_|intro hc)
 split at q
 ·rename_i h0;rw[h0,oG rfl]at t0;have hlt0:=zal h0;rw[zau]at hlt0;refine TO.zdg 1 2 0 rfl rfl rfl ?_;repeat' (first|refine wz ?_|refine wd t0 ?_|exact wkc|refine wk2 ?_ ?_|intro hc)
  refine TR.zbk (ι:=Nat×Nat×List Str) (fun y=>y.2.1≤l.length/\l.length-y.2.1<y.1/\y.2.2.length≤y.2.1/\(((rdr l es).names 64 [44] y.1 y.2.2 y.2.1).bind fun l2 j=>((rdr l es).must [[41]] j).bind fun _ j=>(.ok l2 j:PR (List Str)))= .ok L j) (fun y=>l.length-y.2.1) (fun _=>[(0,.ref 0 0),(3,.ref 2 0),(2,.ref 1 0)]) (fun y=>eqH l n es y.2.1 (y.2.2.map T.s) (y.2.2.map T.s).length) ((rdr l es).K.length+1,i+1,[])
   ⟨hlt0,by rw[zau];show l.length-(i+1)<l.length+1;omega,by show 0≤i+1;omega,q⟩ ⟨rfl,rfl,rfl,trivial⟩ rfl ?_
  clear q t0;rintro⟨m,k,xs⟩ ⟨q2,q3,q4,q⟩;replace q2:k≤l.length:=q2;replace q3:l.length-k<m:=q3;replace q4:xs.length≤k:=q4;replace q:(((rdr l es).names 64 [44] m xs k).bind fun l2 j=>((rdr l es).must [[41]] j).bind fun _ j=>(.ok l2 j:PR (List Str)))= .ok L j:=q;have hml:(xs.map T.s).length=xs.length:=qac _;obtain⟨m,rfl⟩:∃m',m=m'+1:=⟨m-1,oA⟩;rw[Rd.names,Rd.zkD,zfK]at q;have t1:=zbT l n es k 1 hl;split at q
  ·rename_i h1;rw[h1]at t1;obtain⟨_,p2,q5,m3,_,b3,q⟩:=(limK l n es k (xs.map T.s).length xs.length 64 hl q2 hml).get q;obtain⟨hlt4,e4⟩:=zci q5;replace e4:=e4.symm;subst e4;rw[zfK]at q;obtain⟨s,p3,_,m4,b4,b5,q⟩:=(idK l n es k hl q2).get q;have t2:=zay l n es p3 [44] hl b5;refine wk ?_;repeat' (first|refine wz ?_|refine wd t1 ?_|refine wd m3 ?_|exact wkc|refine wk2 ?_ ?_|intro hc)
   refine rgY 3 m4 [(.ref 2 0,0,1),(.sl 1 (xs.map T.s) 3,0,1),(.ref 0 0,0,1),(.t (T.s s),1,0),(.t (.sl 1 [T.s s]),1,1),(.sl 1 (xs.map T.s++[T.s s]) 3,1,0),(.ref 2 0,0,2),(.t (.v undef),1,0)] [eqH l n es k (xs.map T.s) (xs.map T.s).length,eqH l n es p3 (xs.map T.s) (xs.map T.s).length,eqH l n es p3 (xs.map T.s) ((xs.map T.s).length+1),eqH l n es p3 (xs.map T.s++[T.s s]) ((xs.map T.s).length+1)] ?_;split at q
   ·rename_i h2;have hltb:=zal h2;rw[zau]at hltb;rw[h2,oG rfl]at t2;refine yg t2 ?_;refine zac.next (m,p3+1,xs++[s]) ⟨hltb,?_,?_,q⟩ ?_ ⟨rfl,rfl,rfl,trivial⟩ ?_
    ·show l.length-(p3+1)<m;omega
    ·show(xs++[s]).length≤p3+1;rw[qab];simp only[qae,qal];omega
    ·show l.length-(p3+1)<l.length-k;omega
    ·show _=eqH l n es (p3+1) ((xs++[s]).map T.s) ((xs++[s]).map T.s).length;exact zweu
   ·rename_i h2;rw[qaR.2 h2,oH oB]at t2;obtain⟨_,p4,_,m6,_,b6,q⟩:=(zco l n es p3 [[41]] hl b5 oB).get q;cases q;repeat' (first|refine wz ?_|refine wd t2 ?_|refine zac.exit ?_|refine wd m6 ?_|refine wd k1 ?_|refine wd k2 ?_|refine wd k3 ?_|exact wkc|refine wk2 ?_ ?_|intro hc)
    refine ya ?_;refine rdO rfl ?_;show Le _ (.t (.ag (.sl 1 ((xs++[s]).map T.s)::exC e)));rw[qaw,qaf,qaD];exact leX
  ·rename_i h1;have hid:(rdr l es).id k= .er k 5:=by unfold Rd.id;rw[oH h1]
   rw[hid]at q;cases q
 ·rename_i h0;rw[qaR.2 h0,oH oB]at t0;obtain⟨s,k,_,m5,_,_,q⟩:=(idK l n es i hl hi).get q;cases q;repeat' (first|refine wz ?_|refine wd t0 ?_|refine wd m5 ?_|refine wd k1 ?_|refine wd k2 ?_|refine wd k3 ?_|exact wkc|refine wk2 ?_ ?_|intro hc)
  refine ya ?_;refine rdO rfl ?_;show Le _ (.t (.ag (.sl 1 [T.s s]::exC e)));exact leX
end Go.Proofs.YtdicfgideclbdaaGreatDoor
namespace Go.Proofs.YtdicfgideclbdaaGreatDoor
open Go Go.TL
attribute [local irreducible] TR TO Then zaj RetK Sound zac Kf GG zaQ
attribute [local irreducible] zfq
def goT(x:Str×Nat):T:=.ag [.s x.1,.i x.2]
def trCs(l:List Tran):List T:=((l.map zaA).map T.cells).flatten
theorem zvi(l:List Tran)(q:Tran):trCs (l++[q])=trCs l++(zaA q).cells:=by simp[trCs]
theorem zk2:∀l:List Tran,(trCs l).length=l.length*8
 | []=>rfl
 | q::l=>by
   have:=zk2 l
   unfold trCs at this⊢;rw[qaf,qaf,qaK,qab,this,qae];show 8+_=_;omega
theorem zq2{R:Rd}{f:Nat->PR Ex}{w:Str}{m j:Nat}{xs:List Tran}{gs:List (Str×Nat)}(h:R.isAt j w=false):R.trans f w m xs gs j= .ok (xs,gs) j:=by
 cases m with
 | zero=>rfl
 | succ m=>unfold Rd.trans;rw[oH (by rw[h];decide)]
def RdY(l:List Tok)(n:Int)(es:List En)(f:FuncId)(args:List SV)(i lo:Nat){α:Type}(r:PR α)(V:α->SV)(X:α->Heap):Prop:=
 ∀x j,r= .ok x j->Sound Tryz.prog f (.ref 0 0::args) [rdB l n es i] (fun r H'=>r= .ret (V x)/\H'=rdB l n es j::X x)/\lo≤j/\j≤l.length
section
variable {l:List Tok}{n:Int}{es:List En}{f:FuncId}{args:List SV}{i lo:Nat}{α β:Type}{r:PR α}{V:α->SV}{X:α->Heap}
theorem RdY.of(hin:i≤(rdr l es).K.length->InR (rdr l es).K.length lo r)(hi:i≤l.length)(h:∀x j,r= .ok x j->lo≤j->j≤l.length->Sound Tryz.prog f (.ref 0 0::args) [rdB l n es i] (fun r H'=>r= .ret (V x)/\H'=rdB l n es j::X x)):RdY l n es f args i lo r V X:=fun x j e=>by
 exact zwfj
theorem RdY.get{F:α->Nat->PR β}{z:β}{m:Nat}(h:RdY l n es f args i lo r V X)(hr:r.bind F= .ok z m):∃y k,r= .ok y k/\Sound Tryz.prog f (.ref 0 0::args) [rdB l n es i] (fun r H'=>r= .ret (V y)/\H'=rdB l n es k::X y)/\lo≤k/\k≤l.length/\F y k= .ok z m:=by
 exact zwdr
end
abbrev vTr (x:List Tran×List (Str×Nat)):SV:=.tup [rowV 8 x.1.length 2,.t (.sl 2 (x.2.map goT))]
abbrev xTr (x:List Tran×List (Str×Nat)):Heap:=[.tail (x.2.map goT).length,TL.rowB x.1.length ((trCs x.1).map .t)]
theorem zwR (l:List Tok) (n:Int) (es:List En) (hk:TkOk l) (hes:EsOk es) (i:Nat) (hi:i≤l.length) (w:Str):RdY l n es 179 [.s w] i i ((rdr l es).trans (rdr l es).expr w (rdr l es).K.length [] [] i) vTr xTr:=by
 refine .of (fun h=>zhG (fun j h=>zcZ _ _ h) _ [] [] h) hi fun x jx hr _ _=>?_
 have hl:=hk.len;refine so Tryz.func179 ?_;repeat' (first|refine wkb ?_|fail)
 refine TR.tail 2 7 rfl ?_
 refine TR.zkI (ι:=Nat×Nat×List Tran×List (Str×Nat)) (fun x2=>x2.2.1≤l.length/\l.length-x2.2.1≤x2.1/\x2.2.2.1.length≤x2.2.1/\x2.2.2.2.length≤x2.2.1/\(rdr l es).trans (rdr l es).expr w x2.1 x2.2.2.1 x2.2.2.2 x2.2.1= .ok x jx) (fun x=>l.length-x.2.1) (fun x=>[(0,.ref 0 0),(1,.s w),(6,rowV 8 x.2.2.1.length 2),(7,.sl 2 (x.2.2.2.map goT) 1)]) (fun x=>[rdB l n es x.2.1,.tail (x.2.2.2.map goT).length,TL.rowB x.2.2.1.length ((trCs x.2.2.1).map .t)]) ((rdr l es).K.length,i,[],[])
  ⟨hi,by rw[zau];show l.length-i≤l.length;omega,by show 0≤i;omega,by show 0≤i;omega,hr⟩ ⟨rfl,rfl,rfl,rfl,trivial⟩ 1 rfl ?_
 clear hr;rintro⟨m,j,xs,gs⟩ ⟨q2,q3,q4,q5,hr⟩;replace q2:j≤l.length:=q2;replace q3:l.length-j≤m:=q3;replace q4:xs.length≤j:=q4;replace q5:gs.length≤j:=q5;replace hr:(rdr l es).trans (rdr l es).expr w m xs gs j= .ok x jx:=hr;have hmg:(gs.map goT).length=gs.length:=qac _;have hcl:((trCs xs).map SV.t).length=xs.length*8:=by rw[qac,zk2]
 have t1:=zbp l n es j w hl;show TR _ _ _ [(0,.ref 0 0),(1,.s w),(6,rowV 8 xs.length 2),(7,.sl 2 (gs.map goT) 1)] [rdB l n es j,.tail (gs.map goT).length,TL.rowB xs.length ((trCs xs).map .t)] _;cases h1:(rdr l es).isAt j w with
 | false=>
   rw[h1]at t1;rw[zq2 h1]at hr;refine wk ?_;repeat' (first|refine zqi ?_|refine wd t1 ?_|refine zfq.exit ?_|refine wk ?_|exact wkc|refine wk2 ?_ ?_|intro hc)
   cases hr;refine RetK.keep (v:=.tup [rowV 8 xs.length 2,.t (.sl 2 (gs.map goT))]) (H':=[rdB l n es jx,.tail (gs.map goT).length,TL.rowB xs.length ((trCs xs).map .t)]) 3 rfl (Le.tup ⟨Le.refl _,Le.own _ _ _,trivial⟩) rfl rfl ?_ rfl ?_ ⟨rfl,rfl⟩
   ·show SV.under 3 (.tup [rowV 8 xs.length 2,.t (.sl 2 (gs.map goT))])=true;simp only[SV.under,unders,zbV (show 2<3 by decide),qbx]
   ·show zaa 3 [rdB l n es jx,.tail _,TL.rowB xs.length ((trCs xs).map .t)]=true;simp only[zaa,zdX,qbx];rfl
 | true=>
   rw[h1]at t1;have hlt:=zal h1;rw[zau]at hlt;obtain⟨m,rfl⟩:∃m',m=m'+1:=⟨m-1,oA⟩;rw[Rd.trans,oG h1]at hr;obtain⟨_,j3,q6,m3,_,b3,hr⟩:=(limK l n es j xs.length xs.length 4 hl q2 rfl).get hr;obtain⟨hlt4,e4⟩:=zci q6;replace e4:=e4.symm;subst e4;obtain⟨e,k,_,m4,b4,b5,hr⟩:=(zoR l n es hk hes (j+1) hlt).get hr;have t5:=zay l n es k [99,111,110,116,105,110,117,101] hl b5;obtain⟨bb,k2,q7,hr⟩:=zjm hr;refine wk ?_;repeat' (first|refine zqi ?_|refine wd t1 ?_|(apply TO.lenR zaf;(iterate 4 exact rfl))|refine wd m3 ?_|refine wd m4 ?_|refine wk ?_|exact wkc|refine wk2 ?_ ?_|intro hc)
   apply zsk (ι:=Bool×Nat) (E:=fun _=>[(0,.ref 0 0),(1,.s w),(6,rowV 8 xs.length 2),(7,.sl 2 (gs.map goT) 1),(8,.ref 3 0),(33,.ref 0 0)]) (H:=fun z=>[rdB l n es z.2,.tail (gs.map goT).length,TL.rowB xs.length ((trCs xs).map .t),ceB (exC e++[T.i 0,T.v (.bool z.1)])]) (I:=fun z=>z.2≤l.length/\k<z.2/\(((rdr l es).id z.2).bind fun s j=>((rdr l es).must [[59]] j).bind fun _ k=>(rdr l es).trans (rdr l es).expr w m (xs++[⟨e,toI 0,z.1⟩]) (gs++[(s,j-1)]) k)= .ok x jx)
   ·intro key;unfold Rd.how at q7;split at q7
    ·rename_i h5;rw[h5,oG rfl]at t5;have hlt5:=zal h5;rw[zau]at hlt5;cases q7;refine yh t5 ?_;exact zjE key (true,k+1) ⟨hlt5,by show k<k+1;omega,hr⟩
    ·rename_i h5;rw[qaR.2 h5,oH oB]at t5;obtain⟨_,j6,_,m6,b6,b7,q7⟩:=(zco l n es k [[116,104,101,110]] hl b5 oB).get q7;cases q7;repeat' (first|refine zqi ?_|refine wd t5 ?_|refine wd m6 ?_|refine wk ?_|exact wkc|refine wk2 ?_ ?_|intro hc)
     exact zjE key (false,k2) ⟨b7,b6,hr⟩
   ·rintro⟨bb,k2⟩ ⟨c1,c2,hr⟩;replace c2:k<k2:=c2;show TO _ _ _ _ _ _ [rdB l n es k2,.tail (gs.map goT).length,TL.rowB xs.length ((trCs xs).map .t),ceB (exC e++[T.i 0,T.v (.bool bb)])] _;obtain⟨s,j7,_,m7,b6,b7,hr⟩:=(idK l n es k2 hl c1).get hr;obtain⟨_,j8,_,m8,b8,b9,hr⟩:=(zco l n es j7 [[59]] hl b7 oB).get hr;replace b8:j7+1≤j8:=b8;repeat' (first|refine zqi ?_|refine wd m7 ?_|refine wd m8 ?_|(apply TO.zm6 zaf;(iterate 10 exact rfl);exact hcl;exact rfl;exact rfl;exact leB;exact rfl;(simp only[qae,qal];omega);exact rfl)|refine wk ?_|exact wkc|refine wk2 ?_ ?_|intro hc)
    have hj7:((j7-1:Nat):Int)=(j7:Int)-1:=oA
    have hxl:(xs++[(⟨e,toI 0,bb⟩:Tran)]).length=xs.length+1:=by rw[qab];rfl
    refine zfq.next (m,j8,xs++[(⟨e,toI 0,bb⟩:Tran)],gs++[(s,j7-1)]) [0,1,4] ⟨b9,?_,?_,?_,hr⟩ ?_ (Hands.ofF oB ⟨rfl,?_,?_,trivial⟩ ?_) (leB) ?_ ?_ ⟨⟨_,rfl,Le.refl _⟩,⟨_,rfl,Le.refl _⟩,⟨_,rfl,?_⟩,⟨_,rfl,?_⟩,trivial⟩
    ·show l.length-j8≤m;omega
    ·show(xs++[(⟨e,toI 0,bb⟩:Tran)]).length≤j8;omega
    ·show(gs++[(s,j7-1)]).length≤j8;rw[qab];simp only[qae,qal];omega
    ·show l.length-j8<l.length-j;omega
    ·show _=some (Blk.tail ((gs++[(s,j7-1)]).map goT).length);rw[qaw,qab];rfl
    ·show _=some ((TL.rowB (xs++[(⟨e,toI 0,bb⟩:Tran)]).length ((trCs (xs++[(⟨e,toI 0,bb⟩:Tran)])).map .t)).ren _);rw[zen,zcb (show 0<(xs++[(⟨e,toI 0,bb⟩:Tran)]).length by omega),zvi,qaw];rfl
    ·show zaa 3 [rdB l n es j8,.tail _,TL.rowB _ ((trCs (xs++[(⟨e,toI 0,bb⟩:Tran)])).map .t)]=true;simp only[zaa,zdX,qbx];rfl
    ·intro a ha;have ha:a<2:=ha;rcases(by omega:a=0\/a=1)with rfl|rfl <;> rfl
    ·show Env.under 3 [(0,.ref 0 0),(1,.s w),(6,rowV 8 (xs++[(⟨e,toI 0,bb⟩:Tran)]).length 2),(7,.sl 2 _ 1)]=true;simp only[Env.under,qbH,List.all_nil,zbV (show 2<3 by decide),qbx];rfl
    ·show Le _ ((rowV 8 (xs++[(⟨e,toI 0,bb⟩:Tran)]).length 2).ren _);rw[zdw,zc0 oA,hxl];exact Le.refl _
    ·show Le _ (.sl 2 ((gs++[(s,j7-1)]).map goT) 1);rw[qaw];show Le _ (.sl 2 (gs.map goT++[.ag [.s s,.i ((j7-1:Nat):Int)]]) 1);rw[hj7];exact Le.refl _
end Go.Proofs.YtdicfgideclbdaaGreatDoor
namespace Go.Proofs.YtdicfgideclbdaaGreatDoor
open Go Go.TL
attribute [local irreducible] TR TO Then zaj RetK Sound zac Kf GG zaQ
variable {R:List (List Tran)}{k j:Nat}{u:List Tran}{g:List (Str×Nat)}{f:Nat->Blk}{ss:List Sta}{ns:List Str}{x:Str×Nat}{gs:List (List (Str×Nat))}
def rowsOf:List Sta->List (List Tran)
 | []=>[]
 | s::ss=>s.unl::s.unt::rowsOf ss
theorem zdY:∀ss:List Sta,(rowsOf ss).length=2*ss.length
 | []=>rfl
 | s::ss=>by rw[rowsOf,qae,qae,zdY ss,qae];omega
theorem zfa:∀(ss:List Sta) (s:Sta),rowsOf (ss++[s])=rowsOf ss++[s.unl,s.unt]
 | [],s=>rfl
 | x::ss,s=>by rw[qaZ,rowsOf,zfa ss s,rowsOf];rfl
def rR(R:List (List Tran))(k:Nat):Blk:=match R[k]? with
 | some u=>TL.rowB u.length ((trCs u).map .t)
 | none=>.dead
theorem zgG(h:R[k]?=some u):rR R k=TL.rowB u.length ((trCs u).map .t):=by unfold rR;rw[h]
theorem zzT(r:Nat->Nat)(R:List (List Tran))(k:Nat):(rR R k).ren r=rR R k:=by
 unfold rR;split
 ·exact zen _ _ _
 ·rfl
theorem zuW(N:Nat)(R:List (List Tran))(k:Nat):(rR R k).under N=true:=by
 unfold rR;split
 ·exact zdX _ _ _
 ·rfl
theorem zx4{S:List (List Tran)}(h:k<R.length):rR (R++S) k=rR R k:=by
 unfold rR;rw[qat h]
theorem zsV(h:R.length≤k):rR R k= .dead:=by
 unfold rR;rw[qa8 h]
def stCs(h:Nat->Nat):Nat->List Sta->List SV
 | _,[]=>[]
 | k,s::ss=>.s s.name:: .t (.sl 3 (s.locals.map zak)):: .t (.sl 7 (s.eqs.map equT)):: .t (.sl 1 (s.autos.map zam))::rowV 8 s.unl.length (h (2*k))::rowV 8 s.unt.length (h (2*k+1))::stCs h (k+1) ss
theorem zpJ(h:Nat->Nat):∀(k:Nat) (ss:List Sta),(stCs h k ss).length=ss.length*6
 | _,[]=>rfl
 | k,s::ss=>by
   have:=zpJ h (k+1) ss
   simp only[stCs,qae,this];omega
theorem zpI(h:Nat->Nat):∀(k:Nat) (ss:List Sta) (s:Sta),stCs h k (ss++[s])=stCs h k ss++stCs h (k+ss.length) [s]
 | k,[],s=>rfl
 | k,x::ss,s=>by
   rw[qaZ,stCs,zpI h (k+1) ss s,stCs,qae,show k+1+ss.length=k+(ss.length+1) by omega];rfl
theorem zpK(r h:Nat->Nat):∀(k:Nat) (ss:List Sta),rens r (stCs h k ss)=stCs (fun i=>r (h i)) k ss
 | _,[]=>rfl
 | k,s::ss=>by
   simp only[stCs,rens,SV.ren,zdw,zpK r h (k+1) ss]
theorem zj0{h h':Nat->Nat}:∀(k:Nat) (ss:List Sta),(∀i,2*k≤i->i<2*(k+ss.length)->h i=h' i)->stCs h k ss=stCs h' k ss
 | _,[],_=>rfl
 | k,s::ss,hh=>by
   rw[stCs,stCs,hh (2*k) oA (by rw[qae];omega),hh (2*k+1) oA (by rw[qae];omega),zj0 (k+1) ss fun i h1 h2=>hh i oA (by rw[qae];omega)]
theorem zj1{h:Nat->Nat}{N:Nat}:∀(k:Nat) (ss:List Sta),(∀i,2*k≤i->i<2*(k+ss.length)->h i<N)->unders N (stCs h k ss)=true
 | _,[],_=>rfl
 | k,s::ss,hh=>by
   have h1:=zbV (sz:=8) (n:=s.unl.length) (hh (2*k) oA (by rw[qae];omega));have h2:=zbV (sz:=8) (n:=s.unt.length) (hh (2*k+1) oA (by rw[qae];omega));have h3:=zj1 (k+1) ss fun i h1 h2=>hh i oA (by rw[qae];omega)
   simp only[stCs,unders,h1,h2,h3,SV.under,qbx]
def rI(n0 k:Nat):Nat:=if k=2*n0 then 23 else if k=2*n0+1 then 25 else 5+k
def idsA(n0:Nat):List Nat:=0::1::2::3::27::(List.range 16).map (rI n0)
theorem zqu{n0:Nat}(h:n0<8):(idsA n0).Nodup:=by
 rcases(by omega:n0=0\/n0=1\/n0=2\/n0=3\/n0=4\/n0=5\/n0=6\/n0=7)with rfl|rfl|rfl|rfl|rfl|rfl|rfl|rfl <;> decide
theorem zie(n0 N:Nat)(h:k<16):names (idsA n0) N (5+k)=rI n0 k:=by
 refine Go.TL.zbG ?_;rw[show 5+k=k+1+1+1+1+1 by omega];show((List.range 16).map (rI n0))[k]?=_;rw[qan,qcr h];rfl
theorem zer.map{H:Heap}{r:Nat->Nat}{g:Nat->Nat}{f:Nat->Blk}:∀(l:List Nat),(∀k∈l,H[g k]?=some ((f k).ren r))->zer H r (l.map g) (l.map f)
 | [],_=>trivial
 | a::l,h=>⟨h a qah,zer.map l fun k hk=>h k (qai _ hk)⟩
theorem zer.rows{H:Heap}{r:Nat->Nat}{g:Nat->Nat}(h:∀k,k<16->H[g k]?=some ((f k).ren r)):zer H r ((List.range 16).map g) (zb1 f):=
 zer.map (List.range 16) fun k hk=>h k (by simpa using hk)
theorem zmu{N:Nat}(h:∀k,(f k).under N=true):zaa N (zb1 f)=true:=by
 simp only[zb1,zaa,h,qbx]
theorem znY{N n:Nat}{cs:List SV}(h:unders N cs=true):(TL.rowB n cs).under N=true:=by
 unfold TL.rowB;cases n with
 | zero=>rfl
 | succ n=>exact h
theorem zym(N:Nat)(s:Sta)(h8:ss.length<8):rens (names (idsA ss.length) N) (stCs (fun k=>5+k) 0 (ss++[s]))=stCs (fun k=>5+k) 0 ss++[.s s.name,.t (.sl 3 (s.locals.map zak)),.t (.sl 7 (s.eqs.map equT)),.t (.sl 1 (s.autos.map zam)),rowV 8 s.unl.length 23,rowV 8 s.unt.length 25]:=by
 rw[zpK,zpI,zj0 (h':=fun k=>5+k) 0 ss (fun i _ hi=>by
  show names _ _ (5+i)=5+i;rw[zie _ _ oA];unfold rI;rw[oH oA,oH oA])]
 simp only[stCs,qaV];rw[zie _ _ oA,zie _ _ oA];unfold rI;rw[oG rfl,oH oA,oG rfl]
theorem zzS(s:Sta)(k:Nat):rR (rowsOf (ss++[s])) k=if k=2*ss.length then TL.rowB s.unl.length ((trCs s.unl).map .t) else if k=2*ss.length+1 then TL.rowB s.unt.length ((trCs s.unt).map .t) else rR (rowsOf ss) k:=by
 have hl:=zdY ss;rw[zfa];by_cases h1:k=2*ss.length
 ·rw[oG h1];exact zgG (by rw[qas oA,show k-(rowsOf ss).length=0 by omega];rfl)
 rw[oH h1];by_cases h2:k=2*ss.length+1
 ·rw[oG h2];exact zgG (by rw[qas oA,show k-(rowsOf ss).length=1 by omega];rfl)
 rw[oH h2];by_cases h3:k<2*ss.length
 ·exact zx4 oA
 ·rw[zsV (R:=rowsOf ss) oA,zsV (R:=rowsOf ss++[s.unl,s.unt]) (by rw[qab];simp only[qae,qal];omega)]
theorem ziT{R:Rd}{f:Nat->PR Ex}{w:Str}:∀(m:Nat) (xs:List Tran) (gs:List (Str×Nat)) {i:Nat} {ys:List Tran} {hs:List (Str×Nat)} {j:Nat},R.trans f w m xs gs i= .ok (ys,hs) j->xs.length=gs.length->ys.length=hs.length
 | 0,xs,gs,i,ys,hs,j,h,hl=>by cases h;exact hl
 | m+1,xs,gs,i,ys,hs,j,h,hl=>by
   unfold Rd.trans at h;split at h
   ·obtain⟨_,_,_,h⟩:=za3 h;obtain⟨_,_,_,h⟩:=za3 h;obtain⟨_,_,_,h⟩:=za3 h;obtain⟨_,_,_,h⟩:=za3 h;obtain⟨_,_,_,h⟩:=za3 h;exact ziT m _ _ h (by rw[qab,qab,hl];rfl)
   ·cases h;exact hl
theorem zk5{R:Rd}{f:Nat->PR Ex}{w:Str}:∀(m:Nat) (xs:List Tran) (gs:List (Str×Nat)) {i:Nat} {ys:List Tran} {hs:List (Str×Nat)} {j:Nat},R.trans f w m xs gs i= .ok (ys,hs) j->xs.length≤4->ys.length≤4
 | 0,xs,gs,i,ys,hs,j,h,hl=>by cases h;exact hl
 | m+1,xs,gs,i,ys,hs,j,h,hl=>by
   unfold Rd.trans at h;split at h
   ·obtain⟨_,_,hq,h⟩:=za3 h;obtain⟨_,_,_,h⟩:=za3 h;obtain⟨_,_,_,h⟩:=za3 h;obtain⟨_,_,_,h⟩:=za3 h;obtain⟨_,_,_,h⟩:=za3 h
    have:=(zci hq).1
    exact zk5 m _ _ h (by rw[qab];simp only[qae,qal];omega)
   ·cases h;exact hl
def setG(ns:List Str)(u:List Tran)(g:List (Str×Nat)):List Tran:=List.zipWith (fun(q:Tran) (x:Str×Nat)=>match idxOf x.1 0 ns with
 | some k=>⟨q.cond,toI (k:Int),q.resume⟩
 | none=>q) u g
def okG(ns:List Str)(g:List (Str×Nat)):Prop:=∀x∈g,∃k,idxOf x.1 0 ns=some k
theorem zia{ns:List Str}:∀ {g:List (Str×Nat)},okG ns g->∃js,fixG ns g= .ok js 0/\∀u:List Tran,zjb u js=setG ns u g
 | [],_=>⟨[],rfl,fun u=>by cases u <;> rfl⟩
 | (s,k)::g,h=>by
   obtain⟨j,hj⟩:=h (s,k) qah;obtain⟨js,h1,h2⟩:=zia (g:=g) fun x hx=>h x (qai _ hx)
   refine⟨j::js,by rw[fixG,hj];simp only[h1,PR.bind],fun u=>?_⟩;cases u with
   | nil=>rfl
   | cons q u=>
     have:=h2 u
     unfold zjb setG at this⊢;rw[qbo,qbo,this];simp only at hj;simp only[hj]
theorem zr4{ns:List Str}{s:Str}{k:Nat}:∀ {g r:List (Str×Nat)},okG ns g->idxOf s 0 ns=none->fixG ns (g++(s,k)::r)= .er k 6
 | [],r,_,h=>by rw[qaP,fixG,h]
 | (t,a)::g,r,hg,h=>by
   obtain⟨j,hj⟩:=hg (t,a) qah;rw[qaZ,fixG];simp only at hj;rw[hj];simp only[zr4 (g:=g) (fun x hx=>hg x (qai _ hx)) h,PR.bind]
theorem zoV{ns:List Str}{s:Str}{k:Nat}{g r:List (Str×Nat)}:∀ {gs rs:List (List (Str×Nat))},(∀g∈gs,okG ns g)->okG ns g->idxOf s 0 ns=none->zef ns (gs++(g++(s,k)::r)::rs)= .er k 6
 | [],rs,_,hg,h=>by rw[qaP,zef,zr4 hg h];rfl
 | x::gs,rs,hx,hg,h=>by
   obtain⟨js,h1,_⟩:=zia (hx x qah);rw[qaZ,zef,h1];simp only[PR.bind,zoV (gs:=gs) (fun y hy=>hx y (qai _ hy)) hg h]
def zdO:List Sta->List (List Tran)->List Sta
 | s::ss,u::v::R=>.mk s.name s.locals s.eqs s.autos u v::zdO ss R
 | ss,_=>ss
theorem zoX{ns:List Str}:∀ {gs:List (List (Str×Nat))},(∀g∈gs,okG ns g)->∃jss,zef ns gs= .ok jss 0/\∀ss:List Sta,gs.length=2*ss.length->zgd ss jss=zdO ss (List.zipWith (setG ns) (rowsOf ss) gs)
 | [],_=>⟨[],rfl,fun ss h=>by
     cases ss with
     | nil=>rfl
     | cons s ss=>rw[qae,qal]at h;omega⟩
 | [g],hx=>by
   obtain⟨js,h1,h2⟩:=zia (hx g qah);exact⟨[js],by simp only[zef,h1,PR.bind],fun ss h=>by simp only[qae,qal]at h;omega⟩
 | g::g'::gs,hx=>by
   obtain⟨js,h1,h2⟩:=zia (hx g qah);obtain⟨js',h1',h2'⟩:=zia (hx g' (qai _ qah));obtain⟨jss,h3,h4⟩:=zoX (gs:=gs) fun y hy=>hx y (qai _ (qai _ hy))
   refine⟨js::js'::jss,by simp only[zef,h1,h1',h3,PR.bind],fun ss h=>?_⟩;cases ss with
   | nil=>simp at h
   | cons s ss=>
     rw[zgd,h2,h2',h4 ss (by simp only[qae]at h;omega),rowsOf,qbo,qbo,zdO]
theorem zkZ(s:Sta)(nm:Str)(k:Int):Pure Tryz.prog 180 [.t (staT s),.cp [.s nm,.i k] 0] (.b (s.name == nm)):=by
 rw[zdf];refine so Tryz.func180 ?_;repeat' (first|refine wu ?_|exact wkc|refine wk2 ?_ ?_|intro hc)
 all_goals try(refine RetK.pure rfl ?_ rfl;exact Le.of_eq (by simp_all [pack,staT] <;> omega))
theorem zlY(fid:FuncId)(caps:List SV)(hcaps:unders 0 caps=true)(p:Sta->Bool)(l:List Sta)(hl:l.length≤1000000000)(hp:∀d,Pure Tryz.prog fid (.t (staT d)::caps) (.b (p d))):
  Pure Tryz.prog 167 [.t (.sl 6 (l.map staT)),.fn fid caps] (.i (idxI p l)):=by
 have hml:(l.map staT).length=l.length:=qac _;refine so Tryz.func167 ?_;repeat' (first|refine wk ?_|exact wkc|refine wk2 ?_ ?_|intro hc)
 refine TR.zaz l.length (fun k=>(l.take k).all (fun x=>!p x)=true) (fun k=>[(0,.t (.sl 6 (l.map staT))),(1,.fn fid caps),(7,.i l.length),(8,.i k)]) (fun _=>[]) rfl (fun k hlt ha=>?_) (fun ha=>?_) ⟨rfl,rfl,by rw[<-hml];rfl,rfl,trivial⟩
 ·have hx:=zbc staT hlt;have htk:=zbg hlt;have hat:=zfx p l k hlt ha;have hd:=hp l[k];generalize l[k]=d at hx htk hat hd;rw[zdf]at hx hd;have hu:unders 0 (.t (staT d)::caps)=true:=by simp[unders,SV.under,hcaps]
  rw[zdf]at hu;repeat' (first|refine wk ?_|exact wkc|refine wk2 ?_ ?_|(apply TO.zgs hd;(iterate 3 exact rfl);exact Les.refl _;exact hu;exact rfl)|intro hc)
  ·rw[hat hc];exact wkr
  ·exact zwfm
 ·exact zwev
theorem zvS(nm:Str):∀(l:List Sta) (k:Nat),(idxI (fun d=>d.name == nm) l= -1/\idxOf nm k (l.map Sta.name)=none)\/∃j:Nat,j<l.length/\idxI (fun d=>d.name == nm) l=j/\idxOf nm k (l.map Sta.name)=some (k+j)
 | [],_=>.inl ⟨rfl,rfl⟩
 | d::l,k=>by
   unfold idxI;rw[qaf,idxOf];by_cases hd:d.name=nm
   ·exact zweq
   ·rw[oH hd,oH (by simpa using hd)];rcases zvS nm l (k+1)with ⟨h1,h2⟩|⟨j,h1,h2,h3⟩
    ·rw[h1];exact .inl ⟨rfl,h2⟩
    ·exact zwdm
theorem zd3:∀(ss:List Sta) (R:List (List Tran)),(zdO ss R).length=ss.length
 | [],R=>by cases R <;> rfl
 | s::ss,[]=>rfl
 | s::ss,[u]=>rfl
 | s::ss,u::v::R=>by rw[zdO,qae,zd3 ss R,qae]
theorem zfG:∀(ss:List Sta) (R:List (List Tran)),(zdO ss R).map Sta.name=ss.map Sta.name
 | [],R=>by cases R <;> rfl
 | s::ss,[]=>rfl
 | s::ss,[u]=>rfl
 | s::ss,u::v::R=>by rw[zdO,qaf,zfG ss R,qaf];rfl
theorem ztE(u:List Tran):trCs u=((u.map zaA).map T.cells).flatten:=rfl
theorem ztn{H:Heap}(h:Nat->Nat):∀(k:Nat) (ss:List Sta) (R:List (List Tran)),R.map List.length=(rowsOf ss).map List.length->(∀i u,R[i]?=some u->H[h (2*k+i)]?=some (TL.rowB u.length ((trCs u).map .t)))->
  ∀(j:Nat) c,((((zdO ss R).map staT).map T.cells).flatten)[j]?=some c->∃s,(stCs h k ss)[j]?=some s/\LeB H s (.t c)
 | k,[],R,hR,hH,j,c,hc=>by
   cases R with
   | nil=>simp[zdO]at hc
   | cons u R=>simp[rowsOf]at hR
 | k,s::ss,[],hR,hH,j,c,hc=>by simp[rowsOf]at hR
 | k,s::ss,[u],hR,hH,j,c,hc=>by simp[rowsOf]at hR
 | k,s::ss,u::v::R,hR,hH,j,c,hc=>by
   simp only[rowsOf,qaf,qbd]at hR;obtain⟨h1,h2,h3⟩:=hR;rw[zdO,qaf,qaf,qaK,zdf]at hc;have hu:=hH 0 u rfl;have hv:=hH 1 v rfl
   have row:∀(w:List Tran) (id:Nat),H[id]?=some (TL.rowB w.length ((trCs w).map .t))->LeB H (rowV 8 w.length id) (.t (.sl 8 (w.map zaA))):=fun w id hw=>by
    refine LeB.row hw (fun j c hc=>⟨.t c,by rw[qan,ztE,hc];rfl,LeB.t c⟩) (by rw[qac]) (fun e he=>?_);obtain⟨q,_,rfl⟩:=qaL.1 he;rfl
   match j,hc with
   | 0,hc=>cases hc;exact⟨_,rfl,LeB.t _⟩
   | 1,hc=>cases hc;exact⟨_,rfl,LeB.t _⟩
   | 2,hc=>cases hc;exact⟨_,rfl,LeB.t _⟩
   | 3,hc=>cases hc;exact⟨_,rfl,LeB.t _⟩
   | 4,hc=>cases hc;exact⟨_,rfl,by rw[<-h1];exact row u _ hu⟩
   | 5,hc=>cases hc;exact⟨_,rfl,by rw[<-h2];exact row v _ hv⟩
   | j+6,hc=>
     exact ztn h (k+1) ss R h3 (fun i w hw=>by
      have:=hH (i+2) w hw
      rw[show 2*k+(i+2)=2*(k+1)+i by omega]at this;exact this) j c hc
def fzCs(h:Nat->Nat)(a:Nat):Nat->List Sta->List (List Tran)->List SV
 | k,s::ss,u::v::R=>.s s.name:: .t (.sl 3 (s.locals.map zak)):: .t (.sl 7 (s.eqs.map equT)):: .t (.sl 1 (s.autos.map zam))::(if 2*k<a then .t (.sl 8 (u.map zaA)) else rowV 8 s.unl.length (h (2*k)))::(if 2*k+1<a then .t (.sl 8 (v.map zaA)) else rowV 8 s.unt.length (h (2*k+1)))::fzCs h a (k+1) ss R
 | _,_,_=>[]
theorem zsb(h:Nat->Nat){a a':Nat}:∀(k:Nat) (ss:List Sta) (R:List (List Tran)),a≤2*k->a'≤2*k->fzCs h a k ss R=fzCs h a' k ss R
 | k,[],R,_,_=>by simp[fzCs]
 | k,s::ss,[],_,_=>by simp[fzCs]
 | k,s::ss,[u],_,_=>by simp[fzCs]
 | k,s::ss,u::v::R,h1,h2=>by
   rw[fzCs,fzCs,zsb h (a:=a) (a':=a') (k+1) ss R oA oA,oH oA,oH oA,oH oA,oH oA]
theorem fz_0(h:Nat->Nat):∀(k:Nat) (ss:List Sta) (R:List (List Tran)),R.length=2*ss.length->fzCs h 0 k ss R=stCs h k ss
 | k,[],R,hl=>by simp[fzCs,stCs]
 | k,s::ss,[],hl=>by simp at hl
 | k,s::ss,[u],hl=>by simp only[qae,qal]at hl;omega
 | k,s::ss,u::v::R,hl=>by
   rw[fzCs,stCs,oH oA,oH oA,fz_0 h (k+1) ss R (by simp only[qae]at hl;omega)]
theorem zvP(h:Nat->Nat){a:Nat}:∀(k:Nat) (ss:List Sta) (R:List (List Tran)),R.length=2*ss.length->2*(k+ss.length)≤a->fzCs h a k ss R=((((zdO ss R).map staT).map T.cells).flatten).map .t
 | k,[],R,hl,_=>by cases R <;> simp[fzCs,zdO]
 | k,s::ss,[],hl,_=>by simp at hl
 | k,s::ss,[u],hl,_=>by simp only[qae,qal]at hl;omega
 | k,s::ss,u::v::R,hl,ha=>by
   simp only[qae]at hl ha;rw[fzCs,oG oA,oG oA,zvP h (k+1) ss R oA oA,zdO,qaf,qaf,qaK,zdf,qaw];rfl
theorem zvQ(h:Nat->Nat):∀(b k:Nat) (ss:List Sta) (R:List (List Tran)) (u:List Tran),R.map List.length=(rowsOf ss).map List.length->R[b]?=some u->(fzCs h (2*k+b) k ss R)[6*(b / 2)+4+b % 2]?=some (rowV 8 u.length (h (2*k+b)))
 | b,k,[],R,u,hR,hu=>by
   cases R with
   | nil=>simp at hu
   | cons u R=>simp[rowsOf]at hR
 | b,k,s::ss,[],u,hR,hu=>by simp at hu
 | b,k,s::ss,[w],u,hR,hu=>by simp[rowsOf]at hR
 | 0,k,s::ss,w::v::R,u,hR,hu=>by
   simp only[rowsOf,qaf,qbd]at hR;simp at hu;subst hu
   rw[fzCs,oH oA,hR.1];rfl
 | 1,k,s::ss,w::v::R,u,hR,hu=>by
   simp only[rowsOf,qaf,qbd]at hR;simp at hu;subst hu
   rw[fzCs,oH (show ¬2*k+1<2*k+1 by omega),hR.2.1];rfl
 | b+2,k,s::ss,w::v::R,u,hR,hu=>by
   simp only[rowsOf,qaf,qbd]at hR
   have:=zvQ h b (k+1) ss R u hR.2.2 (by simpa using hu)
   rw[show 2*(k+1)+b=2*k+(b+2) by omega]at this;rw[fzCs,show 6*((b+2) / 2)+4+(b+2) % 2=(6*(b / 2)+4+b % 2)+6 by omega];exact this
theorem zvR(h:Nat->Nat):∀(b k:Nat) (ss:List Sta) (R:List (List Tran)) (u:List Tran),R.map List.length=(rowsOf ss).map List.length->R[b]?=some u->(fzCs h (2*k+b) k ss R).set (6*(b / 2)+4+b % 2) (.t (.sl 8 (u.map zaA)))=fzCs h (2*k+b+1) k ss R
 | b,k,[],R,u,hR,hu=>by
   cases R with
   | nil=>simp at hu
   | cons u R=>simp[rowsOf]at hR
 | b,k,s::ss,[],u,hR,hu=>by simp at hu
 | b,k,s::ss,[w],u,hR,hu=>by simp[rowsOf]at hR
 | 0,k,s::ss,w::v::R,u,hR,hu=>by
   simp at hu;subst hu
   rw[fzCs,fzCs,oG (show 2*k<2*k+0+1 by omega),oH (show ¬2*k+1<2*k+0 by omega),oH (show ¬2*k+1<2*k+0+1 by omega),zsb h (a:=2*k+0) (a':=2*k+0+1) (k+1) ss R oA oA];rfl
 | 1,k,s::ss,w::v::R,u,hR,hu=>by
   simp at hu;subst hu
   rw[fzCs,fzCs,oG (show 2*k<2*k+1 by omega),oG (show 2*k<2*k+1+1 by omega),oG (show 2*k+1<2*k+1+1 by omega),zsb h (a:=2*k+1) (a':=2*k+1+1) (k+1) ss R oA oA];rfl
 | b+2,k,s::ss,w::v::R,u,hR,hu=>by
   simp only[rowsOf,qaf,qbd]at hR
   have:=zvR h b (k+1) ss R u hR.2.2 (by simpa using hu)
   rw[show 2*(k+1)+b=2*k+(b+2) by omega]at this;rw[fzCs,fzCs,show 6*((b+2) / 2)+4+(b+2) % 2=(6*(b / 2)+4+b % 2)+6 by omega,<-this,oG (show 2*k<2*k+(b+2) by omega),oG (show 2*k<2*k+(b+2)+1 by omega),oG (show 2*k+1<2*k+(b+2) by omega),oG (show 2*k+1<2*k+(b+2)+1 by omega)];rfl
theorem ztl(h:Nat->Nat):∀(b k:Nat) (ss:List Sta) (u:List Tran),(rowsOf ss)[b]?=some u->(stCs h k ss)[6*(b / 2)+4+b % 2]?=some (rowV 8 u.length (h (2*k+b)))
 | b,k,[],u,hu=>by simp[rowsOf]at hu
 | 0,k,s::ss,u,hu=>by
   simp[rowsOf]at hu;subst hu;rfl
 | 1,k,s::ss,u,hu=>by
   simp[rowsOf]at hu;subst hu;rfl
 | b+2,k,s::ss,u,hu=>by
   have:=ztl h b (k+1) ss u (by simpa [rowsOf]using hu)
   rw[show 2*(k+1)+b=2*k+(b+2) by omega]at this;rw[stCs,show 6*((b+2) / 2)+4+(b+2) % 2=(6*(b / 2)+4+b % 2)+6 by omega];exact this
theorem zgc(h:u.length=g.length):(setG ns u g).length=u.length:=by
 unfold setG;rw[qcc];omega
def setK(ns:List Str)(u:List Tran)(g:List (Str×Nat))(k:Nat):List Tran:=setG ns (u.take k) (g.take k)++u.drop k
theorem zz1(ns:List Str)(u:List Tran)(g:List (Str×Nat)):setK ns u g 0=u:=by simp[setK,setG]
theorem zu2(h:u.length=g.length):setK ns u g g.length=setG ns u g:=by
 unfold setK;exact zwcf
theorem zpE(h:u.length=g.length)(k:Nat):(setK ns u g k).length=u.length:=by
 unfold setK;rw[qab,zgc (by simp[h]),qba,qa4];omega
theorem zu3(h:u.length=g.length)(hk:k<u.length):(setK ns u g k)[k]?=some u[k]:=by
 unfold setK;rw[qas (by rw[zgc (by simp[h])];simp;omega),zgc (by simp[h]),qbb,qba,show k+(k-min k u.length)=k by omega];exact qad hk
theorem zs9(h:u.length=g.length)(hk:k<u.length)(hx:g[k]?=some x)(hj:idxOf x.1 0 ns=some j):(setK ns u g k).set k ⟨u[k].cond,toI (j:Int),u[k].resume⟩=setK ns u g (k+1):=by
 have hgk:g.take (k+1)=g.take k++[x]:=by rw[qbK,hx];rfl
 have huk:u.take (k+1)=u.take k++[u[k]]:=by rw[qbK,qad hk];rfl
 have hlk:(setG ns (u.take k) (g.take k)).length=k:=by rw[zgc (by simp[h]),qba];omega
 unfold setK;rw[qbS _ _ oA,hlk,qb6,qaN hk,qch,hgk,huk];unfold setG;rw[List.zipWith_append (by simp[h])];simp only[qbo,qcM,hj,qay];rfl
theorem zpR:∀(w:List Tran) (k:Nat) (q:Tran) (j:Nat),w[k]?=some q->((trCs w).map SV.t).set (8*k+6) (.n (toI (j:Int)))=(trCs (w.set k ⟨q.cond,toI (j:Int),q.resume⟩)).map SV.t
 | [],k,q,j,h=>by simp at h
 | p::w,0,q,j,h=>by
   simp at h;subst h
   rfl
 | p::w,k+1,q,j,h=>by
   have:=zpR w k q j (by simpa using h)
   rw[List.set_cons_succ,show 8*(k+1)+6=(8*k+6)+8 by omega];show(SV.t _::SV.t _::SV.t _::SV.t _::SV.t _::SV.t _::SV.t _::SV.t _::(trCs w).map SV.t).set (8*k+6+8) _=SV.t _::SV.t _::SV.t _::SV.t _::SV.t _::SV.t _::SV.t _::SV.t _::(trCs (w.set k ⟨q.cond,toI (j:Int),q.resume⟩)).map SV.t;rw[<-this];rfl
def curR(ns:List Str)(R:List (List Tran))(gs:List (List (Str×Nat)))(i:Nat):List (List Tran):=List.zipWith (setG ns) (R.take i) (gs.take i)++R.drop i
theorem zy1(ns:List Str)(R:List (List Tran))(gs:List (List (Str×Nat))):curR ns R gs 0=R:=by simp[curR]
theorem zue(h:R.length=gs.length):curR ns R gs gs.length=List.zipWith (setG ns) R gs:=by
 unfold curR;exact zwcf
theorem zuf(h:R.length=gs.length){i:Nat}(hi:i<R.length):(curR ns R gs i)[i]?=some R[i]:=by
 unfold curR;rw[qas (by rw[qcc,qba,qba];omega),qcc,qba,qba,qbb,show i+(i-min (min i R.length) (min i gs.length))=i by omega];exact qad hi
theorem zrF(h:R.length=gs.length){i:Nat}(hi:i<R.length)(hg:gs[i]?=some g):(curR ns R gs i).set i (setG ns R[i] g)=curR ns R gs (i+1):=by
 have hgk:gs.take (i+1)=gs.take i++[g]:=by rw[qbK,hg];rfl
 have huk:R.take (i+1)=R.take i++[R[i]]:=by rw[qbK,qad hi];rfl
 have hlk:(List.zipWith (setG ns) (R.take i) (gs.take i)).length=i:=by rw[qcc,qba,qba];omega
 unfold curR;rw[qbS _ _ oA,hlk,qb6,qaN hi,qch,hgk,huk,List.zipWith_append oF];simp only[qbo,qcM,qay];rfl
theorem ziC{ns:List Str}:∀ {R:List (List Tran)} {gs:List (List (Str×Nat))},R.map List.length=gs.map List.length->(List.zipWith (setG ns) R gs).map List.length=R.map List.length
 | [],gs,h=>oC
 | u::R,[],h=>by simp at h
 | u::R,g::gs,h=>by
   simp only[qaf,qbd]at h;rw[qbo,qaf,qaf,ziC h.2,zgc h.1]
theorem zrE(h:R.map List.length=gs.map List.length)(i:Nat):(curR ns R gs i).map List.length=R.map List.length:=by
 unfold curR;rw[qaw,ziC (by rw[qbB,qbB,h]),<-qaw,qaX]
theorem zu4{i:Nat}{w:List Tran}(hu:R[i]?=some u)(h:w.length=u.length):(R.set i w).map List.length=R.map List.length:=by
 rw[qcU,h];obtain⟨h1,h2⟩:=qaa.1 hu
 have:u.length=(R.map List.length)[i]'(by simpa using h1):=by rw[qcb,h2]
 rw[this,qbv]
theorem zzU{i:Nat}{w:List Tran}(hi:i<R.length):(fun k=>if k=i then TL.rowB w.length ((trCs w).map .t) else rR R k)=rR (R.set i w):=by
 funext k
 by_cases hk:k=i
 ·subst hk;rw[oG rfl];exact(zgG (qaC hi)).symm
 ·rw[oH hk];unfold rR;rw[qaW (fun h=>hk h.symm)]
theorem zuO(hx:g[k]?=some x)(hj:idxOf x.1 0 ns=some j)(h:okG ns (g.take k)):okG ns (g.take (k+1)):=by
 intro y hy;rw[qbK,hx]at hy;rcases qbe.1 hy with hy|hy
 ·exact h y hy
 ·simp at hy;subst hy;exact⟨j,hj⟩
theorem zpH{α:Type}{l:List α}{x:α}(h:l[k]?=some x):l=l.take k++x::l.drop (k+1):=by
 obtain⟨h1,h2⟩:=qaa.1 h
 conv=>lhs;rw[<-qaX k l,qaN h1,h2]
section rules
variable {P:Program}{n:Nat}{env:Env}{K:TK}{all ops:List Oper}{al:Array Oper}
theorem znx{b0 b1 b2 b3:Blk}(hR:R.map List.length=(rowsOf ss).map List.length)(h8:ss.length≤8)(hp:0<ss.length)
  (k:TO false P n al ops env (b0::b1::b2::b3:: .cells (((((zdO ss R).map staT).map T.cells).flatten).map .t)::zb1 (fun _=>.dead)) K):
  TO false P n al ops env (b0::b1::b2::b3::TL.rowB ss.length (stCs (fun k=>5+k) 0 ss)::zb1 (rR R)) K:=by
 have hRl:R.length=2*ss.length:=by have:=oJ List.length hR;rw[qac,qac,zdY]at this;exact this
 have go:∀d a:Nat,a+d=R.length->TO false P n al ops env (b0::b1::b2::b3:: .cells (fzCs (fun k=>5+k) a 0 ss R)::zb1 (fun k=>if k<a then .dead else rR R k)) K:=by
  intro d
  induction d with
  | zero=>
    intro a ha
    have h1:zb1 (fun k=>if k<a then .dead else rR R k)=zb1 fun _=>.dead:=by
     congr 1
     funext k
     by_cases hk:k<a
     ·rw[oG hk]
     ·rw[oH hk,zsV oA]
    rw[h1,zvP _ 0 ss R hRl oA];exact k
  | succ d ih=>
    intro a ha;have hal:a<R.length:=oA
    have hu:R[a]?=some R[a]:=qad hal;generalize R[a]=u at hu;have hg:=zvQ (fun k=>5+k) a 0 ss R u hR hu;have hs:=zvR (fun k=>5+k) a 0 ss R u hR hu;rw[show 2*0+a=a by omega]at hg hs;refine TO.zku 4 (6*(a / 2)+4+a % 2) 8 (5+a) u.length (ts:=trCs u) (es:=u.map zaA) oA rfl hg ?_ (ztE u) (by rw[qac]) (fun e he=>?_) rfl ?_ (ih (a+1) oA)
    ·show(b0::b1::b2::b3::Blk.cells _::zb1 _)[5+a]?=_;rw[show 5+a=a+1+1+1+1+1 by omega,qaU,qaU,qaU,qaU,qaU,zjT _ oA,oH oA,zgG hu]
    ·obtain⟨q,_,rfl⟩:=qaL.1 he;rfl
    ·show(List.set (b0::b1::b2::b3::Blk.cells _::zb1 _) (5+a) .dead).set 4 _=_;have e1:∀(x:Blk) (L:Heap),List.set (b0::b1::b2::b3::x::L) (5+a) .dead=b0::b1::b2::b3::x::L.set a .dead:=fun x L=>by rw[qck];rfl
     rw[e1,zjU _ oA];show b0::b1::b2::b3::Blk.cells _::_=_;rw[hs];congr 6
     funext k
     by_cases h1:k=a
     ·rw[oG h1,oG oA]
     ·rw[oH h1];by_cases h2:k<a
      ·rw[oG h2,oG oA]
      ·rw[oH h2,oH oA]
 have:=go R.length 0 oA
 rw[fz_0 _ 0 ss R hRl,show zb1 (fun k=>if k<0 then .dead else rR R k)=zb1 (rR R) from by congr 1]at this;rw[zcb hp];exact this
end rules
end Go.Proofs.YtdicfgideclbdaaGreatDoor
namespace Go.Proofs.YtdicfgideclbdaaGreatDoor
open Go Go.TL
attribute [local irreducible] TR TO Then zaj RetK Sound zac Kf GG zaQ
attribute [local irreducible] zfq
variable {a j:Nat}{f:Nat->PR Ex}{R:Rd}{bd:Nat->PR (List Equ×List Auto)}
theorem ztF(r:Nat->Nat)(k:Nat)(x:T):(SV.tup [rowV 8 k 2,.t x]).ren r= .tup [rowV 8 k (r 2),.t x]:=by
 simp only[SV.ren,rens,zdw]
theorem ztG(r:Nat->Nat)(g k:Nat)(ts:List T):[Blk.tail g,TL.rowB k (ts.map .t)].map (Blk.ren r)=[.tail g,TL.rowB k (ts.map .t)]:=by
 have h:=zen r k ts;simp only[qaf,qaD,h];rfl
abbrev ggT (g:List (Str×Nat)):T:=.sl 2 (g.map goT)
abbrev stC (ss:List Sta):List SV:=stCs (fun k=>5+k) 0 ss
abbrev nilB:Blk:=.cells [.t (.v (.slice none 0 0))]
abbrev GA (l:List Tok)(n:Int)(es:List En)(j:Nat)(ss:List Sta)(R:List (List Tran))(g:Nat):Heap:=rdB l n es j::nilB:: .cells [rowV 6 ss.length 4]:: .tail g::TL.rowB ss.length (stC ss)::zb1 (rR R)
theorem zoT{b0 b1 b2 b3 b4:Blk}(f:Nat->Blk)(h:a<16):(b0::b1::b2::b3::b4::zb1 f)[5+a]?=some (f a):=by
 rw[show 5+a=a+1+1+1+1+1 by omega,qaU,qaU,qaU,qaU,qaU,zjT f h]
theorem zuu{b0 b1 b2 b3 b4:Blk}(f:Nat->Blk)(h:a<16)(x:Blk):List.set (b0::b1::b2::b3::b4::zb1 f) (5+a) x=b0::b1::b2::b3::b4::zb1 fun k=>if k=a then x else f k:=by
 rw[<-zjU f h,qck];rfl
theorem zp7{α β:Type}{f:α->Nat->PR β}{x:α}:(PR.ok x j).bind f=f x j:=rfl
abbrev vB (x:List Equ×List Auto):SV:=.tup [.t (.sl 7 (x.1.map equT)),.t (.sl 1 (x.2.map zam))]
abbrev vA (a:Auto):SV:=.t (zam a)
def zyw(l:List Tok)(n:Int)(es:List En)(d:Nat)(bd:Nat->PR (List Equ×List Auto)):Prop:=∀j,j≤l.length->RdK l n es 116 [.i d] j j (bd j) vB
theorem toX{P:Program}{f:FuncId}{args:List SV}{H H1:Heap}{v:SV}{N:Nat}(h:Sound P f args H (fun r H'=>r= .ret v/\H'=H1)):Sound P f args H (ErrX 0 v (.b true) H1 N):=by
 have e:ErrX 0 v (.b true) H1 N=fun r H'=>r= .ret v/\H'=H1:=by funext r H';unfold ErrX;rw[oG rfl]
 rw[e];exact h
theorem zn9{m:Nat}{ss:List Sta}{gs:List (List (Str×Nat))}(h:R.isAt j [115,116,97,116,101]=false):R.states f bd m ss gs j= .ok (ss,gs) j:=by
 cases m with
 | zero=>rfl
 | succ m=>unfold Rd.states;rw[oH (by rw[h];decide)]
theorem zAG{i:Nat}{s:Str}(h:R.id i= .ok s j):j≤R.K.length:=by
 unfold Rd.id at h;split at h
 ·rename_i hk;cases h;exact zdJ hk
 ·cases h
theorem zk4{R:Rd}{f:Nat->PR Ex}{w:Str}:∀(m:Nat) (xs:List Tran) (gs:List (Str×Nat)) {i:Nat} {ys:List Tran} {hs:List (Str×Nat)} {j:Nat},R.trans f w m xs gs i= .ok (ys,hs) j->(∀x∈gs,x.2≤R.K.length)->∀x∈hs,x.2≤R.K.length
 | 0,xs,gs,i,ys,hs,j,h,hl=>by cases h;exact hl
 | m+1,xs,gs,i,ys,hs,j,h,hl=>by
   unfold Rd.trans at h;split at h
   ·obtain⟨_,_,_,h⟩:=za3 h;obtain⟨_,_,_,h⟩:=za3 h;obtain⟨_,_,_,h⟩:=za3 h;obtain⟨_,_,hi,h⟩:=za3 h;obtain⟨_,_,_,h⟩:=za3 h
    have:=zAG hi
    refine zk4 m _ _ h fun x hx=>?_
    rcases qbe.1 hx with hx|hx
    ·exact hl x hx
    ·simp at hx;subst hx;show _-1≤_;omega
   ·cases h;exact hl
theorem zmD{R:Rd}{f:Nat->PR Ex}{bd:Nat->PR (List Equ×List Auto)}:∀(m:Nat) (xs:List Sta) (gs:List (List (Str×Nat))) {i:Nat} {ys:List Sta} {hs:List (List (Str×Nat))} {j:Nat},R.states f bd m xs gs i= .ok (ys,hs) j->(∀g∈gs,∀x∈g,x.2≤R.K.length)->∀g∈hs,∀x∈g,x.2≤R.K.length
 | 0,xs,gs,i,ys,hs,j,h,hl=>by cases h;exact hl
 | m+1,xs,gs,i,ys,hs,j,h,hl=>by
   unfold Rd.states at h;split at h
   ·obtain⟨_,_,_,h⟩:=za3 h;obtain⟨x,_,hst,h⟩:=za3 h;unfold Rd.state at hst;obtain⟨_,_,_,hst⟩:=za3 hst;obtain⟨_,_,_,hst⟩:=za3 hst;obtain⟨⟨us,gu⟩,_,hu,hst⟩:=za3 hst;obtain⟨_,_,_,hst⟩:=za3 hst;obtain⟨_,_,_,hst⟩:=za3 hst;obtain⟨⟨vs,gv⟩,_,hv,hst⟩:=za3 hst;obtain⟨_,_,_,hst⟩:=za3 hst;cases hst;have h1:=zk4 _ _ _ hu (fun x hx=>by cases hx);have h2:=zk4 _ _ _ hv (fun x hx=>by cases hx);refine zmD m _ _ h fun g hg=>?_
    rcases qbe.1 hg with hg|hg
    ·exact hl g hg
    ·rcases qa5.1 hg with rfl|hg
     ·exact h1
     ·rcases qa5.1 hg with rfl|hg
      ·exact h2
      ·cases hg
   ·cases h;exact hl
theorem zr5{ns:List Str}{N:Nat}:∀ {g:List (Str×Nat)} {k:Nat} {c:Int},fixG ns g= .er k c->(∀x∈g,x.2≤N)->k≤N/\c≠0
 | [],k,c,h,_=>by cases h
 | (s,a)::g,k,c,h,hg=>by
   rw[fixG]at h;split at h
   ·cases h;exact⟨hg (s,a) qah,oB⟩
   ·cases hq:fixG ns g with
    | ok v j=>rw[hq]at h;cases h
    | er k' c'=>
      rw[hq]at h;cases h;exact zr5 hq fun x hx=>hg x (qai _ hx)
theorem zoW{ns:List Str}{N:Nat}:∀ {gs:List (List (Str×Nat))} {k:Nat} {c:Int},zef ns gs= .er k c->(∀g∈gs,∀x∈g,x.2≤N)->k≤N/\c≠0
 | [],k,c,h,_=>by cases h
 | g::gs,k,c,h,hg=>by
   rw[zef]at h;cases hp:fixG ns g with
   | er k' c'=>
     rw[hp]at h;cases h;exact zr5 hp (hg g qah)
   | ok v j=>
     rw[hp]at h;cases hq:zef ns gs with
     | ok v j=>simp only[PR.bind,hq]at h;cases h
     | er k' c'=>
       simp only[PR.bind,hq]at h;cases h;exact zoW hq fun x hx=>hg x (qai _ hx)
theorem zgX(hf:∀i,i≤R.K.length->InR R.K.length (i+1) (f i))(hb:∀i,i≤R.K.length->InR R.K.length i (bd i)){i:Nat}(h:i≤R.K.length):InR R.K.length i (R.automaton f bd i):=by
 unfold Rd.automaton;have h1:=zmE hf hb R.K.length [] [] h;cases hs:R.states f bd R.K.length [] [] i with
 | er k c=>rw[hs]at h1;exact h1
 | ok x j=>
   rw[hs]at h1;obtain⟨ss,gs⟩:=x;have hg:=zmD _ _ _ hs (fun g hg=>by cases hg);refine(zaO _ h1.2).bind fun _ j2 h2 h3=>?_
   cases hq:zef (ss.map Sta.name) gs with
   | er k c=>exact zoW hq hg
   | ok v a=>
     have:=h1.1
     exact⟨oA,h3⟩
set_option maxRecDepth 20000 in
theorem zAt (l:List Tok) (n:Int) (es:List En) (hk:TkOk l) (hes:EsOk es) (i:Nat) (hi:i≤l.length) (d:Nat) (hd:d≤3) (bd:Nat->PR (List Equ×List Auto)) (hbd:zyw l n es (d+1) bd) (hbi:∀j,j≤(rdr l es).K.length->InR (rdr l es).K.length j (bd j)):RdK l n es 150 [.i d] i i ((rdr l es).automaton (rdr l es).expr bd i) vA:=by
 refine .of (fun h=>zgX (fun j h=>zcZ _ _ h) hbi h) hi fun xr jr hr _ _=>?_
 have hl:=hk.len;unfold Rd.automaton at hr;refine so Tryz.func150 ?_;repeat' (first|refine wk ?_|fail)
 refine TR.tail 1 6 rfl ?_
 refine TR.zkI (ι:=Nat×Nat×List Sta×List (List (Str×Nat))) (fun x=>i≤x.2.1/\x.2.1≤l.length/\l.length-x.2.1≤x.1/\x.2.2.1.length≤8/\(rowsOf x.2.2.1).map List.length=x.2.2.2.map List.length/\(∀u∈rowsOf x.2.2.1,u.length≤4)/\(((rdr l es).states (rdr l es).expr bd x.1 x.2.2.1 x.2.2.2 x.2.1).bind fun x i=>((rdr l es).must [[101,110,100]] i).bind fun _ i=>(zef (x.1.map Sta.name) x.2).bind fun jss _=>(.ok (.mk (zgd x.1 jss)) i:PR Auto))= .ok xr jr) (fun x=>l.length-x.2.1) (fun x=>[(0,.ref 0 0),(1,.i d),(4,.ref 1 0),(5,.ref 2 0),(6,.sl 1 (x.2.2.2.map ggT) 3)]) (fun x=>GA l n es x.2.1 x.2.2.1 (rowsOf x.2.2.1) (x.2.2.2.map ggT).length) ((rdr l es).K.length,i,[],[])
  ⟨by show i≤i;omega,hi,by rw[zau];show l.length-i≤l.length;omega,by show 0≤8;omega,rfl,(fun u hu=>by cases hu),hr⟩ ⟨rfl,rfl,rfl,rfl,rfl,trivial⟩ 17 rfl ?_
 clear hr;rintro⟨m,j,ss,gs⟩ ⟨q1,q2,q3,q4,q5,q6,hr⟩;replace q1:i≤j:=q1;replace q2:j≤l.length:=q2;replace q3:l.length-j≤m:=q3;replace q4:ss.length≤8:=q4;replace q5:(rowsOf ss).map List.length=gs.map List.length:=q5;replace q6:∀u∈rowsOf ss,u.length≤4:=q6;replace hr:(((rdr l es).states (rdr l es).expr bd m ss gs j).bind fun x i=>((rdr l es).must [[101,110,100]] i).bind fun _ i=>(zef (x.1.map Sta.name) x.2).bind fun jss _=>(.ok (.mk (zgd x.1 jss)) i:PR Auto))= .ok xr jr:=hr;have hgl:gs.length=2*ss.length:=by have:=oJ List.length q5;rw[qac,qac,zdY]at this;exact this.symm
 have hmg:(gs.map ggT).length=gs.length:=qac _;have hcl:(stC ss).length=ss.length*6:=zpJ _ _ _;have t1:=zbp l n es j [115,116,97,116,101] hl;show TR _ _ _ [(0,.ref 0 0),(1,.i d),(4,.ref 1 0),(5,.ref 2 0),(6,.sl 1 (gs.map ggT) 3)] (GA l n es j ss (rowsOf ss) (gs.map ggT).length) _;cases h1:(rdr l es).isAt j [115,116,97,116,101] with
 | true=>
   have hlth1:=zal h1;rw[zau]at hlth1;rw[h1]at t1;cases m with
   | zero=>exfalso;omega
   | succ m=>
   rw[Rd.states,oG h1,Rd.state]at hr;simp only[zfK,zp7]at hr;refine wk ?_;repeat' (first|refine zqi ?_|refine wd t1 ?_|(apply TO.lenR zaf;(iterate 4 exact rfl))|refine wk ?_|exact wkc|refine wk2 ?_ ?_|intro hc)
   obtain⟨u3,j3,qm3,m3,m3a,m3b,hr⟩:=(limK l n es j ss.length ss.length 8 hl q2 rfl).get hr;obtain⟨hlt4,rfl⟩:=zci qm3;repeat' (first|refine zqi ?_|refine wd m3 ?_|refine wk ?_|exact wkc|refine wk2 ?_ ?_|intro hc)
   obtain⟨nm,j4,qm4,m4,m4a,m4b,hr⟩:=(idK l n es (j3+1) hl hlth1).get hr;repeat' (first|refine zqi ?_|refine wd m4 ?_|refine wk ?_|exact wkc|refine wk2 ?_ ?_|intro hc)
   obtain⟨ds,j5,qm5,m5,m5a,m5b,hr⟩:=(zsv l n es hk hes j4 m4b).get hr;repeat' (first|refine zqi ?_|refine wd m5 ?_|refine wk ?_|exact wkc|refine wk2 ?_ ?_|intro hc)
   obtain⟨xm6,j6,qm6,m6,m6a,m6b,hr⟩:=(zwR l n es hk hes j5 m5b [117,110,108,101,115,115]).get hr;obtain⟨us,gu⟩:=xm6;have hlm6:=ziT _ _ _ qm6 rfl;repeat' (first|refine zqi ?_|(refine TO.zvz (toX m6) rfl rfl rfl ⟨Le.refl _,Le.refl _,trivial⟩ rfl rfl rfl (fun _=>rfl) (fun _=>rfl) (ztF _ _ _) (fun _=>rfl) (ztG _ _ _ _) (fun _=>?_) (fun h=>oI rfl h))|(apply TO.zmG zaf;(iterate 3 exact rfl);exact zjS _ _ _;exact zjR _ _ _;exact rfl;exact rfl;exact leB;exact rfl)|refine wk ?_|exact wkc|refine wk2 ?_ ?_|intro hc)
   obtain⟨u7,j7,qm7,m7,m7a,m7b,hr⟩:=(zco l n es j6 [[100,111]] hl m6b oB).get hr;repeat' (first|refine zqi ?_|refine wd m7 ?_|refine wk ?_|exact wkc|refine wk2 ?_ ?_|intro hc)
   obtain⟨bb,j8,qm8,m8,m8a,m8b,hr⟩:=(hbd j7 m7b).get hr;obtain⟨eqs,ats⟩:=bb;repeat' (first|refine zqi ?_|refine wd m8 ?_|refine wk ?_|exact wkc|refine wk2 ?_ ?_|intro hc)
   obtain⟨xm9,j9,qm9,m9,m9a,m9b,hr⟩:=(zwR l n es hk hes j8 m8b [117,110,116,105,108]).get hr;obtain⟨vs,gv⟩:=xm9;have hlm9:=ziT _ _ _ qm9 rfl;repeat' (first|refine zqi ?_|(refine TO.zvz (toX m9) rfl rfl rfl ⟨Le.refl _,Le.refl _,trivial⟩ rfl rfl rfl (fun _=>rfl) (fun _=>rfl) (ztF _ _ _) (fun _=>rfl) (ztG _ _ _ _) (fun _=>?_) (fun h=>oI rfl h))|(apply TO.zmG zaf;(iterate 3 exact rfl);exact zjS _ _ _;exact zjR _ _ _;exact rfl;exact rfl;exact leB;exact rfl)|refine wk ?_|exact wkc|refine wk2 ?_ ?_|intro hc)
   obtain⟨u10,j10,qm10,m10,m10a,m10b,hr⟩:=(zco l n es j9 [[100,111,110,101]] hl m9b oB).get hr;repeat' (first|refine zqi ?_|refine wd m10 ?_|(apply TO.zt8 zaf;(iterate 11 exact rfl))|(apply TO.zt3 zaf;(iterate 10 exact rfl);exact hcl;(iterate 3 exact rfl);exact leB;exact rfl;omega;exact rfl)|refine wk ?_|exact wkc|refine wk2 ?_ ?_|intro hc)
   obtain⟨s,hs⟩:∃s:Sta,s= .mk nm ds eqs ats us vs:=⟨_,rfl⟩;have hxl:(ss++[s]).length=ss.length+1:=by rw[qab];rfl
   refine zfq.next (m,j10,ss++[s],gs++[gu,gv]) (idsA ss.length) ⟨?_,m10b,?_,?_,?_,?_,?_⟩ ?_ (Hands.ofF (zqu hlt4) ⟨rfl,rfl,?_,?_,?_,zer.rows fun k hk=>?_⟩ ?_) (leB) ?_ ?_ ⟨⟨_,rfl,Le.refl _⟩,⟨_,rfl,Le.refl _⟩,⟨_,rfl,Le.refl _⟩,⟨_,rfl,Le.refl _⟩,⟨_,rfl,?_⟩,trivial⟩
   ·show i≤j10;omega
   ·show l.length-j10≤m;omega
   ·show(ss++[s]).length≤8;omega
   ·show(rowsOf (ss++[s])).map List.length=(gs++[gu,gv]).map List.length;rw[zfa,qaw,qaw,q5,hs];show _++[us.length,vs.length]=_++[gu.length,gv.length];rw[hlm6,hlm9]
   ·show ∀u∈rowsOf (ss++[s]),u.length≤4;intro u hu;rw[zfa,hs]at hu;rcases qbe.1 hu with hu|hu
    ·exact q6 u hu
    ·rcases qa5.1 hu with rfl|hu
     ·exact zk5 _ _ _ qm6 oC
     ·rcases qa5.1 hu with rfl|hu
      ·exact zk5 _ _ _ qm9 oC
      ·cases hu
   ·show(((rdr l es).states (rdr l es).expr bd m (ss++[s]) (gs++[gu,gv]) j10).bind fun x i=>((rdr l es).must [[101,110,100]] i).bind fun _ i=>(zef (x.1.map Sta.name) x.2).bind fun jss _=>(.ok (.mk (zgd x.1 jss)) i:PR Auto))= .ok xr jr;rw[hs];exact hr
   ·show l.length-j10<l.length-j3;omega
   ·show _=some ((Blk.cells [rowV 6 (ss++[s]).length 4]).ren _);show some (Blk.cells [SV.ms 6 27 0 (ss.length+1)])=some (.cells (rens _ [rowV 6 (ss++[s]).length 4]));simp only[rens,zdw];rw[zc0 oA,hxl];rfl
   ·show some (Blk.tail ((gs.map ggT).length+2))=some (Blk.tail ((gs++[gu,gv]).map ggT).length);rw[qaw,qab];rfl
   ·show _=some ((TL.rowB (ss++[s]).length (stC (ss++[s]))).ren _);rw[zcb (show 0<(ss++[s]).length by omega)];show _=some (Blk.cells (rens _ (stCs (fun k=>5+k) 0 (ss++[s]))));rw[zym _ s hlt4,hs];rfl
   ·show _=some ((rR (rowsOf (ss++[s])) k).ren _);rw[zzT,zzS];unfold rI;by_cases g1:k=2*ss.length
    ·rw[oG g1,oG g1,hs];rfl
    by_cases g2:k=2*ss.length+1
    ·rw[oH g1,oH g1,oG g2,oG g2,hs];rfl
    rw[oH g1,oH g1,oH g2,oH g2];clear g1 g2;rcases(by omega:k=0\/k=1\/k=2\/k=3\/k=4\/k=5\/k=6\/k=7\/k=8\/k=9\/k=10\/k=11\/k=12\/k=13\/k=14\/k=15)with rfl|rfl|rfl|rfl|rfl|rfl|rfl|rfl|rfl|rfl|rfl|rfl|rfl|rfl|rfl|rfl
    all_goals rfl
   ·show zaa 21 (rdB l n es j10::nilB:: .cells [rowV 6 (ss++[s]).length 4]:: .tail _::TL.rowB (ss++[s]).length (stC (ss++[s]))::zb1 (rR (rowsOf (ss++[s]))))=true;have h1:=znY (n:=(ss++[s]).length) (zj1 (h:=fun k=>5+k) (N:=21) 0 (ss++[s]) fun a _ ha=>by rw[hxl]at ha;show 5+a<21;omega);have h2:=zmu (zuW 21 (rowsOf (ss++[s])))
    have h3:(Blk.cells [rowV 6 (ss++[s]).length 4]).under 21=true:=by
     show unders 21 [rowV 6 (ss++[s]).length 4]=true;simp only[unders,zbV (show 4<21 by decide),qbx]
    simp only[zaa,h1,h2,h3,qbx];rfl
   ·intro a ha;have ha:a<4:=ha;rcases(by omega:a=0\/a=1\/a=2\/a=3)with rfl|rfl|rfl|rfl <;> rfl
   ·rfl
   ·show Le _ (.sl 1 ((gs++[gu,gv]).map ggT) 3);rw[qaw];exact Le.refl _
 | false=>
 rw[h1]at t1;rw[zn9 h1,zp7]at hr;refine wk ?_;repeat' (first|refine zqi ?_|refine wd t1 ?_|refine zfq.exit ?_|refine wk ?_|exact wkc|refine wk2 ?_ ?_|intro hc)
 obtain⟨u11,jj,qm11,m11,m11a,m11b,hr⟩:=(zco l n es j [[101,110,100]] hl q2 oB).get hr;repeat' (first|refine zqi ?_|refine wd m11 ?_|refine wk ?_|exact wkc|refine wk2 ?_ ?_|intro hc)
 have hrl:=zdY ss;have hRg:(rowsOf ss).length=gs.length:=oA
 obtain⟨ns,hns⟩:∃ns:List Str,ns=ss.map Sta.name:=⟨_,rfl⟩;rw[<-hns]at hr;have hfst:TL.rowB ss.length (stC ss)=TL.rowB ss.length (stC ss):=rfl;refine TR.zaz gs.length (fun i=>∀g∈gs.take i,okG ns g) (fun i=>[(0,.ref 0 0),(4,.ref 1 0),(5,.ref 2 0),(77,.sl 1 (gs.map ggT) 3),(78,.i (gs.map ggT).length),(79,.i i)]) (fun i=>GA l n es jj ss (curR ns (rowsOf ss) gs i) (gs.map ggT).length) (fun g hg=>by simp at hg) (fun i' hi' ha=>?_) (fun ha=>?_) ⟨rfl,rfl,rfl,rfl,rfl,rfl,trivial⟩ (by rw[zy1];rfl)
 ·have hx:(gs.map ggT)[i']?=some (.sl 2 (gs[i'].map goT)):=by rw[qan,qad hi'];rfl
  have hgi:gs[i']?=some gs[i']:=qad hi';have hui:(rowsOf ss)[i']?=some ((rowsOf ss)[i']' oA):=qad oA;have hcur:=zuf (ns:=ns) hRg (i:=i') oA;have hcst:=zrF (ns:=ns) hRg (i:=i') oA hgi
  have hln:((rowsOf ss)[i']' oA).length=gs[i'].length:=by
   have h1:((rowsOf ss).map List.length)[i']?=(gs.map List.length)[i']? :=by rw[q5]
   rw[qan,qan,hui,hgi]at h1;exact qci h1
  have hcl2:=zrE (ns:=ns) q5 i';have hu4:=q6 _ (qau hui);generalize gs[i']=g at*;generalize (rowsOf ss)[i']' oA=u at*;obtain⟨C,hC⟩:∃C,C=curR ns (rowsOf ss) gs i':=⟨_,rfl⟩;rw[<-hC]at hcur hcst hcl2;have hCl:C.length=gs.length:=by have:=oJ List.length hcl2;rw[qac,qac]at this;omega
  have hmu:(g.map goT).length=g.length:=qac _;show TR _ _ _ [(0,.ref 0 0),(4,.ref 1 0),(5,.ref 2 0),(77,.sl 1 (gs.map ggT) 3),(78,.i (gs.map ggT).length),(79,.i i')] (GA l n es jj ss (curR ns (rowsOf ss) gs i') (gs.map ggT).length) _;rw[<-hC];refine wk ?_;repeat' (first|refine zqi ?_|refine wk ?_|exact wkc|refine wk2 ?_ ?_|intro hc)
  have hC0:C.set i' u=C:=by
   obtain⟨h1,h2⟩:=qaa.1 hcur;rw[<-h2,qbv]
  refine TR.zaz g.length (fun k=>okG ns (g.take k)) (fun k=>[(0,.ref 0 0),(4,.ref 1 0),(5,.ref 2 0),(10,.i i'),(77,.sl 1 (gs.map ggT) 3),(78,.i (gs.map ggT).length),(79,.i i'),(84,.t (.sl 2 (g.map goT))),(85,.i (g.map goT).length),(86,.i k)]) (fun k=>GA l n es jj ss (C.set i' (setK ns u g k)) (gs.map ggT).length) (fun x hx=>by simp at hx) (fun k hk2 hb=>?_) (fun hb=>?_) ⟨rfl,rfl,rfl,rfl,rfl,rfl,rfl,rfl,rfl,rfl,trivial⟩ (by show GA l n es jj ss C _=GA l n es jj ss (C.set i' (setK ns u g 0)) _;rw[zz1,hC0])
  ·have hxg:(g.map goT)[k]?=some (.ag [.s g[k].1,.i g[k].2]):=by rw[qan,qad hk2];rfl
   have hgk:g[k]?=some g[k]:=qad hk2;have huk:k<u.length:=oA
   have hw:=zu3 (ns:=ns) hln huk;have hwl:=zpE (ns:=ns) hln k;generalize g[k]=x at*;obtain⟨nm,at'⟩:=x;obtain⟨C',hC'⟩:∃C',C'=C.set i' (setK ns u g k):=⟨_,rfl⟩;have hCs:C'[i']?=some (setK ns u g k):=by rw[hC'];exact qaC oA
   have hCl':C'.map List.length=(rowsOf ss).map List.length:=by rw[hC',zu4 hcur hwl,hcl2]
   have hidx:=zlY 180 [.cp [.s nm,.i at'] 0] rfl (fun s=>s.name == nm) (zdO ss C') (by rw[zd3];omega) (fun s=>zkZ s nm at');have hCn:C'.length=2*ss.length:=by have:=oJ List.length hCl';rw[qac,qac]at this;omega
   have hlent:LeB (GA l n es jj ss C' (gs.map ggT).length) (rowV 6 ss.length 4) (.t (.sl 6 ((zdO ss C').map staT))):=LeB.row rfl (fun j c hc=>ztn (fun k=>5+k) 0 ss C' hCl' (fun a w haw=>by
    have:=(qaa.1 haw).1
    rw[show 2*0+a=a by omega];exact(zoT _ oA).trans (oJ some (zgG haw))) j c hc) (by rw[qac,zd3]) (fun e he=>by obtain⟨q,_,rfl⟩:=qaL.1 he;rw[zdf];rfl)
   show TR _ _ _ [(0,.ref 0 0),(4,.ref 1 0),(5,.ref 2 0),(10,.i i'),(77,.sl 1 (gs.map ggT) 3),(78,.i (gs.map ggT).length),(79,.i i'),(84,.t (.sl 2 (g.map goT))),(85,.i (g.map goT).length),(86,.i k)] (GA l n es jj ss (C.set i' (setK ns u g k)) (gs.map ggT).length) _;rw[<-hC'];rcases zvS nm (zdO ss C') 0 with ⟨z1,z2⟩|⟨q,z1,z2,z3⟩
   ·rw[zfG,<-hns]at z2;rw[z1]at hidx
    have hfx:zef ns gs= .er at' 6:=by
     have h1:=zpH hgi;have h2:=zpH hgk
     have:=zoV (gs:=gs.take i') (rs:=gs.drop (i'+1)) (r:=g.drop (k+1)) (k:=at') ha hb z2
     rw[<-h2,<-h1]at this;exact this
    rw[hfx]at hr;cases hr
   ·rw[zfG,<-hns,qaV]at z3;rw[z2]at hidx;rw[zd3]at z1;have hst:=zs9 (ns:=ns) hln huk hgk z3;have hts:=zpR _ k _ q hw;rw[hst]at hts;have hbk:(GA l n es jj ss C' (gs.map ggT).length)[4]?=some (.cells (stC ss)):=oJ some (zcb oA)
    have hgetX:(GA l n es jj ss C' (gs.map ggT).length)[5+i']?=some (.cells ((trCs (setK ns u g k)).map .t)):=by
     refine(zoT _ oA).trans ?_;rw[zgG hCs,zcb oA]
    have hoffX:0+((k:Int)).toNat*8+6<((trCs (setK ns u g k)).map SV.t).length:=by
     rw[qac,zk2];show 0+k*8+6<_;omega
    have hqT:SV.i (q:Int)= .n (toI (q:Int)):=oJ (fun z=>SV.t (T.v (Value.int .i64 z))) (zdN oA).symm
    have hsetX:(GA l n es jj ss C' (gs.map ggT).length).set (5+i') (.cells (((trCs (setK ns u g k)).map SV.t).set (0+((k:Int)).toNat*8+6) (.i (q:Int))))=GA l n es jj ss (C.set i' (setK ns u g (k+1))) (gs.map ggT).length:=by
     show List.set _ _ (Blk.cells (((trCs (setK ns u g k)).map SV.t).set (0+k*8+6) (.i (q:Int))))=_;rw[show 0+k*8+6=8*k+6 by omega,hqT,hts];refine(zuu _ oA _).trans ?_;have h1:=zzU (R:=C') (i:=i') (w:=setK ns u g (k+1)) oA;rw[zcb (by rw[zpE hln];omega)]at h1;rw[h1,hC',qcV]
    have hsg:=ztl (fun k=>5+k) i' 0 ss u hui;rw[show 2*0+i'=i' by omega]at hsg;by_cases hpar:i' % 2=0
    ·have hc4:(stC ss)[0+(((i' / 2:Nat):Int)).toNat*6+4]?=some (rowV 8 u.length (5+i')):=by
      show(stC ss)[0+(i' / 2)*6+4]?=_;rw[show 0+(i' / 2)*6+4=6*(i' / 2)+4+i' % 2 by omega];exact hsg
     exact zwc
    ·have hc4:(stC ss)[0+(((i' / 2:Nat):Int)).toNat*6+5]?=some (rowV 8 u.length (5+i')):=by
      show(stC ss)[0+(i' / 2)*6+5]?=_;rw[show 0+(i' / 2)*6+5=6*(i' / 2)+4+i' % 2 by omega];exact hsg
     exact zwc
  ·show TR _ _ _ [(0,.ref 0 0),(4,.ref 1 0),(5,.ref 2 0),(10,.i i'),(77,.sl 1 (gs.map ggT) 3),(78,.i (gs.map ggT).length),(79,.i i'),(84,.t (.sl 2 (g.map goT))),(85,.i (g.map goT).length),(86,.i g.length)] (GA l n es jj ss (C.set i' (setK ns u g g.length)) (gs.map ggT).length) _;rw[zu2 hln,hcst];refine wk ?_;repeat' (first|refine zqi ?_|refine wk ?_|exact wkc|refine wk2 ?_ ?_|intro hc)
   refine zac.zaH hi' fun y hy=>?_
   rw[qbK,hgi]at hy;rcases qbe.1 hy with hy|hy
   ·exact ha y hy
   ·simp at hy;subst hy;rw[qap]at hb;exact hb
 ·rw[qap]at ha;obtain⟨jss,hfx,hfs⟩:=zoX ha;replace hfs:=hfs ss hgl;rw[hfx,zp7,hfs]at hr;show TR _ _ _ [(0,.ref 0 0),(4,.ref 1 0),(5,.ref 2 0),(77,.sl 1 (gs.map ggT) 3),(78,.i (gs.map ggT).length),(79,.i gs.length)] (GA l n es jj ss (curR ns (rowsOf ss) gs gs.length) (gs.map ggT).length) _;rw[zue hRg];obtain⟨C,hC⟩:∃C,C=List.zipWith (setG ns) (rowsOf ss) gs:=⟨_,rfl⟩;have hCl:C.map List.length=(rowsOf ss).map List.length:=by rw[hC,ziC q5]
  rw[<-hC]at hr⊢;rcases Nat.eq_zero_or_pos ss.length with h0|hp
  ·have hse:ss=[]:=qaF h0;have hre:zdO ss C=[]:=qaF (by rw[zd3,h0]);rw[hre]at hr;cases hr;subst hse;refine wk ?_;repeat' (first|refine zqi ?_|refine wk ?_|exact wkc|refine wk2 ?_ ?_|intro hc)
   refine rdO rfl ?_;show Le _ (.t (zam (.mk [])));rw[zd6];exact leX
  ·refine wk ?_;refine znx hCl q4 hp ?_;refine TO.zku 2 0 6 4 ss.length (ts:=(((zdO ss C).map staT).map T.cells).flatten) (es:=(zdO ss C).map staT) oB rfl rfl (oJ some (zcb hp).symm) rfl (by rw[qac,zd3]) (fun e he=>by obtain⟨q,_,rfl⟩:=qaL.1 he;rw[zdf];rfl) rfl rfl ?_;repeat' (first|refine zqi ?_|refine wk ?_|exact wkc|refine wk2 ?_ ?_|intro hc)
   cases hr;refine rdO rfl ?_;show Le _ (.t (zam (.mk (zdO ss C))));rw[zd6];exact Le.toT rfl
end Go.Proofs.YtdicfgideclbdaaGreatDoor
namespace Go.Proofs.YtdicfgideclbdaaGreatDoor
open Go Go.TL
attribute [local irreducible] TR TO Then zaj RetK Sound zac Kf GG zaQ
theorem zxq(q:Equ):equT q= .ag [.sl 1 (q.left.map T.s),T.n q.right.kind,T.n q.right.op,T.n q.right.t,T.n q.right.v,.s q.right.name,.sl 6 (q.right.args.map exT)]:=rfl
def zAr(l:List Tok)(n:Int)(es:List En)(d:Nat)(au:Nat->PR Auto):Prop:=∀j,j+1≤l.length->RdK l n es 150 [.i d] (j+1) (j+1) (au (j+1)) vA
theorem zyO (l:List Tok) (n:Int) (es:List En) (hk:TkOk l) (hes:EsOk es) (i:Nat) (hi:i≤l.length) (d:Nat) (hd:d≤3) (au:Nat->PR Auto) (hau:d<3->zAr l n es d au) (hai:∀j,j≤(rdr l es).K.length->InR (rdr l es).K.length j (au j)):RdK l n es 116 [.i d] i i ((rdr l es).body (rdr l es).expr au (decide (3≤d)) ((rdr l es).K.length+1) [] [] i) vB:=by
 refine .of (fun h=>zhT (fun j h=>zcZ _ _ h) hai _ [] [] h) hi fun xr jr hr _ _=>?_
 have hl:=hk.len;refine so Tryz.func116 ?_;repeat' (first|refine wkb ?_|fail)
 refine TR.tail 7 6 rfl ?_;refine TR.tail 1 7 rfl ?_
 refine TR.zbk (ι:=Nat×Nat×List Equ×List Auto) (fun x=>i≤x.2.1/\x.2.1≤l.length/\l.length-x.2.1<x.1/\x.2.2.1.length≤x.2.1/\x.2.2.2.length≤x.2.1/\(rdr l es).body (rdr l es).expr au (decide (3≤d)) x.1 x.2.2.1 x.2.2.2 x.2.1= .ok xr jr) (fun x=>l.length-x.2.1) (fun x=>[(0,.ref 0 0),(1,.i d),(6,.sl 7 (x.2.2.1.map equT) 1),(7,.sl 1 (x.2.2.2.map zam) 2)]) (fun x=>[rdB l n es x.2.1,.tail (x.2.2.1.map equT).length,.tail (x.2.2.2.map zam).length]) ((rdr l es).K.length+1,i,[],[])
  ⟨by show i≤i;omega,hi,by rw[zau];show l.length-i<l.length+1;omega,by show 0≤i;omega,by show 0≤i;omega,hr⟩ ⟨rfl,rfl,rfl,rfl,trivial⟩ rfl ?_
 clear hr;rintro⟨m,j,xs,as'⟩ ⟨q1,q2,q3,q4,q5,hr⟩;replace q1:i≤j:=q1;replace q2:j≤l.length:=q2;replace q3:l.length-j<m:=q3;replace q4:xs.length≤j:=q4;replace q5:as'.length≤j:=q5;replace hr:(rdr l es).body (rdr l es).expr au (decide (3≤d)) m xs as' j= .ok xr jr:=hr;have hml:(xs.map equT).length=xs.length:=qac _;have hma:(as'.map zam).length=as'.length:=qac _;cases m with
 | zero=>exfalso;omega
 | succ m=>
 rw[Rd.body]at hr;have t1:=zbp l n es j [97,117,116,111,109,97,116,111,110] hl;cases h1:(rdr l es).isAt j [97,117,116,111,109,97,116,111,110] with
 | true=>
   have hlth1:=zal h1;rw[zau]at hlth1;rw[h1]at t1;rw[oG h1]at hr;by_cases hdd:3≤d
   ·rw[oG (by simpa using hdd)]at hr;cases hr
   ·rw[oH (by simpa using hdd)]at hr;refine wk ?_;repeat' (first|refine wkt ?_|refine zqi ?_|refine wd t1 ?_|exact wkc|refine wk2 ?_ ?_|intro hc)
    obtain⟨u3,j3,qm3,m3,m3a,m3b,hr⟩:=(limK l n es j (as'.map zam).length as'.length 8 hl q2 hma).get hr;obtain⟨hlt4,rfl⟩:=zci qm3;repeat' (first|refine wkt ?_|refine zqi ?_|refine wd m3 ?_|exact wkc|refine wk2 ?_ ?_|intro hc)
    obtain⟨a,k,qm4,m4,m4a,m4b,hr⟩:=(hau oA j3 hlth1).get hr;unfold vA at m4;rw[zd6 a]at m4;refine yk m4 ?_;refine zac.next (m,k,xs,as'++[a]) ⟨?_,m4b,?_,?_,?_,hr⟩ ?_ ⟨rfl,rfl,rfl,?_,trivial⟩ ?_
    ·show i≤k;omega
    ·show l.length-k<m;omega
    ·show xs.length≤k;omega
    ·show(as'++[a]).length≤k;rw[qab];simp only[qae,qal];omega
    ·show l.length-k<l.length-j3;omega
    ·show _=some (SV.sl 1 ((as'++[a]).map zam) 2);rw[qaw,qaf,qaD,zd6 a];rfl
    ·show _=[rdB l n es k,.tail (xs.map equT).length,.tail ((as'++[a]).map zam).length];rw[qaw,qaf,qaD,qab];rfl
 | false=>
 rw[h1]at t1;rw[oH (by rw[h1];decide)]at hr;have t2:=zbT l n es j 1 hl;have t3:=zbp l n es j [40] hl;cases h2:(rdr l es).kind j 1 with
 | true=>
   rw[h2]at t2;have hor:((rdr l es).kind j 1 || (rdr l es).isAt j [40])=true:=by rw[h2];rfl
   rw[oG hor]at hr;refine wk ?_;repeat' (first|refine wkt ?_|refine zqi ?_|refine wd t1 ?_|refine wd t2 ?_|refine wd t3 ?_|exact wkc|refine wk2 ?_ ?_|intro hc)
   obtain⟨u3,j3,qm3,m3,m3a,m3b,hr⟩:=(limK l n es j (xs.map equT).length xs.length 256 hl q2 hml).get hr;obtain⟨hlt4,rfl⟩:=zci qm3;repeat' (first|refine wkt ?_|refine zqi ?_|refine wd m3 ?_|exact wkc|refine wk2 ?_ ?_|intro hc)
   obtain⟨e,k,qm4,m4,m4a,m4b,hr⟩:=(equK l n es hk hes j3 q2).get hr;refine yk m4 ?_;refine zac.next (m,k,xs++[e],as') ⟨?_,m4b,?_,?_,?_,hr⟩ ?_ ⟨rfl,rfl,?_,rfl,trivial⟩ ?_
   ·show i≤k;omega
   ·show l.length-k<m;omega
   ·exact zwdh
   ·show as'.length≤k;omega
   ·show l.length-k<l.length-j3;omega
   ·exact zwcu
   ·exact zwbo
 | false=>
 rw[h2]at t2;cases h3:(rdr l es).isAt j [40] with
 | true=>
   rw[h3]at t3;have hor:((rdr l es).kind j 1 || (rdr l es).isAt j [40])=true:=by rw[h2,h3];rfl
   rw[oG hor]at hr;refine wk ?_;repeat' (first|refine wkt ?_|refine zqi ?_|refine wd t1 ?_|refine wd t2 ?_|refine wd t3 ?_|exact wkc|refine wk2 ?_ ?_|intro hc)
   obtain⟨u3,j3,qm3,m3,m3a,m3b,hr⟩:=(limK l n es j (xs.map equT).length xs.length 256 hl q2 hml).get hr;obtain⟨hlt4,rfl⟩:=zci qm3;repeat' (first|refine wkt ?_|refine zqi ?_|refine wd m3 ?_|exact wkc|refine wk2 ?_ ?_|intro hc)
   obtain⟨e,k,qm4,m4,m4a,m4b,hr⟩:=(equK l n es hk hes j3 q2).get hr;refine yk m4 ?_;refine zac.next (m,k,xs++[e],as') ⟨?_,m4b,?_,?_,?_,hr⟩ ?_ ⟨rfl,rfl,?_,rfl,trivial⟩ ?_
   ·show i≤k;omega
   ·show l.length-k<m;omega
   ·exact zwdh
   ·show as'.length≤k;omega
   ·show l.length-k<l.length-j3;omega
   ·exact zwcu
   ·exact zwbo
 | false=>
 rw[h3]at t3;rw[oH (by rw[h2,h3];decide)]at hr;cases hr;refine wk ?_;repeat' (first|refine wkt ?_|refine zqi ?_|refine wd t1 ?_|refine wd t2 ?_|refine wd t3 ?_|refine zac.ret ?_|exact wkc|refine wk2 ?_ ?_|intro hc)
 exact rdO rfl (Le.tup ⟨Le.own _ _ _,Le.own _ _ _,trivial⟩)
theorem zlr(l:List Tok)(n:Int)(es:List En)(hk:TkOk l)(hes:EsOk es):∀(b d:Nat),b+d=3->zyw l n es d ((rdr l es).zhe (rdr l es).expr b)/\∀j,j≤(rdr l es).K.length->InR (rdr l es).K.length j ((rdr l es).zhe (rdr l es).expr b j)
 | 0,d,hd=>by
   obtain rfl:d=3:=oA
   exact⟨fun j hj=>zyO l n es hk hes j hj 3 oB (fun i=>.er i 5) (fun h=>oI h oB) fun i hi=>⟨hi,oB⟩,fun j hj=>zhT (au:=fun i=>.er i 5) (fun j h=>zcZ _ _ h) (fun i hi=>⟨hi,oB⟩) _ [] [] hj⟩
 | b+1,d,hd=>by
   obtain⟨hB,hI⟩:=zlr l n es hk hes b (d+1) oA;have hA:=fun i hi=>zgX (R:=rdr l es) (f:=(rdr l es).expr) (fun j h=>zcZ _ _ h) hI (i:=i) hi
   have hdd:decide (3≤d)=false:=oF
   refine⟨fun j hj=>?_,fun j hj=>zhT (fun j h=>zcZ _ _ h) hA _ [] [] hj⟩;have h:=zyO l n es hk hes j hj d oA ((rdr l es).automaton (rdr l es).expr ((rdr l es).zhe (rdr l es).expr b)) (fun _ i hi=>zAt l n es hk hes (i+1) hi d oA _ hB hI) hA;rw[hdd]at h;exact h
end Go.Proofs.YtdicfgideclbdaaGreatDoor
