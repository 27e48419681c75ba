import Derived.Test.YtpfnfpaahefdaaaGreatPk24
set_option linter.all false
namespace Go.Proofs.YtpfnfpaahefdaaaGreat
open Go Go.TL
attribute [local irreducible] TR TO Then zab RetK Sound zac Kf GG za2
theorem zjv(q:Equ):equT q= .ag [.sl 1 (q.left.map T.s),T.n q.right.kind,T.n q.right.op,T.n q.right.t,T.n q.right.v,.s q.right.name,.sl 6 (q.right.args.map exT)]:=rfl
abbrev noA:Auto:=.mk []
def zrh(l:List Tok)(n:Int)(es:List En)(d:Nat)(au:Nat->PR Auto):Prop:=∀j,(rdr l es).isAt j [97,117,116,111,109,97,116,111,110]=true->RdS l n es 88 [.i d] (j+1) (au (j+1)) (.t (zaG ((au (j+1)).vl noA)))/\InR l.length (j+1) (au (j+1))
set_option maxHeartbeats 16000000 in
theorem zg1 (l:List Tok) (n:Int) (es:List En) (i:Nat) (hk:TkOk l) (hes:EsOk es) (hi:i≤l.length) (d:Nat) (hd:d≤3) (au:Nat->PR Auto) (hau:d<3->zrh l n es d au):RdS l n es 69 [.i d] i ((rdr l es).body (rdr l es).expr au (decide (3≤d)) ((rdr l es).K.length+1) [] [] i) (.tup [.t (.sl 7 ((((rdr l es).body (rdr l es).expr au (decide (3≤d)) ((rdr l es).K.length+1) [] [] i).vl ([],[])).1.map equT)),.t (.sl 1 ((((rdr l es).body (rdr l es).expr au (decide (3≤d)) ((rdr l es).K.length+1) [] [] i).vl ([],[])).2.map zaG))]):=by
 have hl:=hk.len
 generalize hr:(rdr l es).body (rdr l es).expr au (decide (3≤d)) ((rdr l es).K.length+1) [] [] i=r
 refine Sound.err rfl (fun _=>rfl) ?_
 refine so Tryz.func69 ?_
 repeat' (first|refine wkb ?_|fail)
 refine TR.tail 7 6 rfl ?_
 refine TR.tail 1 7 rfl ?_
 refine TR.zbd (ι:=Nat×Nat×List Equ×List Auto) (fun x=>i≤x.2.1/\x.2.1≤l.length/\l.length-x.2.1<x.1/\x.2.2.1.length≤x.2.1/\x.2.2.2.length≤x.2.1/\(rdr l es).body (rdr l es).expr au (decide (3≤d)) x.1 x.2.2.1 x.2.2.2 x.2.1=r) (fun x=>l.length-x.2.1) (fun x=>[(0,.ref 0 0),(1,.i d),(6,.sl 7 (x.2.2.1.map equT) 1),(7,.sl 1 (x.2.2.2.map zaG) 2)]) (fun x=>[rdB l n es x.2.1,.tail (x.2.2.1.map equT).length,.tail (x.2.2.2.map zaG).length]) ((rdr l es).K.length+1,i,[],[])
  ⟨by show i≤i;omega,hi,by rw[zaf];show l.length-i<l.length+1;omega,by show 0≤i;omega,by show 0≤i;omega,hr⟩ ⟨rfl,rfl,rfl,rfl,trivial⟩ rfl ?_
 clear hr
 rintro⟨m,j,xs,as'⟩ ⟨q1,q2,q3,q4,q5,hr⟩
 replace q1:i≤j:=q1
 replace q2:j≤l.length:=q2
 replace q3:l.length-j<m:=q3
 replace q4:xs.length≤j:=q4
 replace q5:as'.length≤j:=q5
 replace hr:(rdr l es).body (rdr l es).expr au (decide (3≤d)) m xs as' j=r:=hr
 have hml:(xs.map equT).length=xs.length:=qad _
 have hma:(as'.map zaG).length=as'.length:=qad _
 cases m with
 | zero=>exfalso;omega
 | succ m=>
 rw[Rd.body]at hr
 have t1:=zaO l n es j [97,117,116,111,109,97,116,111,110] hl
 cases h1:(rdr l es).isAt j [97,117,116,111,109,97,116,111,110] with
 | true=>
   have hlth1:=zam h1
   rw[zaf]at hlth1
   rw[h1]at t1
   rw[if_pos h1]at hr
   by_cases hdd:3≤d
   ·have hd3:d=3:=by omega
    have m3:=zbi l n es j j 3 (by decide) hl
    have hc0:(3:Int)≠0:=by decide
    rw[if_pos (by simpa using hdd)]at hr
    refine wk ?_
    repeat' (first|refine wkt ?_|refine zqn ?_|refine wd t1 ?_|refine we m3 ?_ ?_|exact wkc|intro hc|refine wk2 ?_ ?_|fail)
    repeat' (first|refine zac.panic ?_|refine wk ?_|fail)
    exact rdP hr.symm hc0
   ·rw[if_neg (by simpa using hdd)]at hr
    refine wk ?_
    repeat' (first|refine wkt ?_|refine zqn ?_|refine wd t1 ?_|exact wkc|intro hc|refine wk2 ?_ ?_|fail)
    obtain⟨m3,m3i⟩:=limC l n es j (as'.map zaG).length as'.length 8 hl q2 hma
    cases qm3:limR as'.length 8 j with
    | er ke c=>
      rw[qm3]at m3 m3i hr
      have hc0:=m3i.2
      replace m3:=m3.er
      try simp only[PR.vl]at m3
      simp only[PR.bind]at hr
      repeat' (first|refine wkt ?_|refine zqn ?_|refine we m3 ?_ ?_|exact wkc|intro hc|refine wk2 ?_ ?_|fail)
      repeat' (first|refine zac.panic ?_|refine wk ?_|fail)
      exact rdP hr.symm hc0
    | ok u3 j3=>
    rw[qm3]at m3 m3i hr
    obtain⟨m3a,m3b⟩:=m3i
    replace m3:=m3.ok
    try simp only[PR.vl]at m3
    simp only[PR.bind]at hr
    obtain⟨hlt4,rfl⟩:=zbh qm3
    repeat' (first|refine wkt ?_|refine zqn ?_|refine we m3 ?_ ?_|exact wkc|intro hc|refine wk2 ?_ ?_|fail)
    obtain⟨m4,m4i⟩:=hau (by omega) j3 h1
    cases qm4:au (j3+1) with
    | er ke c=>
      rw[qm4]at m4 m4i hr
      have hc0:=m4i.2
      replace m4:=m4.er
      try simp only[PR.vl]at m4
      simp only[PR.bind]at hr
      repeat' (first|refine wkt ?_|refine zqn ?_|refine we m4 ?_ ?_|exact wkc|intro hc|refine wk2 ?_ ?_|fail)
      repeat' (first|refine zac.panic ?_|refine wk ?_|fail)
      exact rdP hr.symm hc0
    | ok a k=>
    rw[qm4]at m4 m4i hr
    obtain⟨m4a,m4b⟩:=m4i
    replace m4:=m4.ok
    try simp only[PR.vl]at m4
    simp only[PR.bind]at hr
    rw[zdt a]at m4
    repeat' (first|refine wkt ?_|refine zqn ?_|refine zqb ?_|refine we m4 ?_ ?_|exact wkc|intro hc|refine wk2 ?_ ?_|fail)
    refine zac.next (m,k,xs,as'++[a]) ⟨?_,m4b,?_,?_,?_,hr⟩ ?_ ⟨rfl,rfl,rfl,?_,trivial⟩ ?_
    ·show i≤k;omega
    ·show l.length-k<m;omega
    ·show xs.length≤k;omega
    ·show(as'++[a]).length≤k;rw[qal];simp only[qac,qaf];omega
    ·show l.length-k<l.length-j3;omega
    ·show _=some (SV.sl 1 ((as'++[a]).map zaG) 2);rw[qav,qah,qas,zdt a];rfl
    ·show _=[rdB l n es k,.tail (xs.map equT).length,.tail ((as'++[a]).map zaG).length];rw[qav,qah,qas,qal];rfl
 | false=>
 rw[h1]at t1
 rw[if_neg (by rw[h1];decide)]at hr
 have t2:=zaK l n es j 1 hl
 have t3:=zaO l n es j [40] hl
 cases h2:(rdr l es).kind j 1 with
 | true=>
   rw[h2]at t2
   have hor:((rdr l es).kind j 1 || (rdr l es).isAt j [40])=true:=by rw[h2];rfl
   rw[if_pos hor]at hr
   refine wk ?_
   repeat' (first|refine wkt ?_|refine zqn ?_|refine wd t1 ?_|refine wd t2 ?_|refine wd t3 ?_|exact wkc|intro hc|refine wk2 ?_ ?_|fail)
   obtain⟨m3,m3i⟩:=limC l n es j (xs.map equT).length xs.length 256 hl q2 hml
   cases qm3:limR xs.length 256 j with
   | er ke c=>
     rw[qm3]at m3 m3i hr
     have hc0:=m3i.2
     replace m3:=m3.er
     try simp only[PR.vl]at m3
     simp only[PR.bind]at hr
     repeat' (first|refine wkt ?_|refine zqn ?_|refine we m3 ?_ ?_|exact wkc|intro hc|refine wk2 ?_ ?_|fail)
     repeat' (first|refine zac.panic ?_|refine wk ?_|fail)
     exact rdP hr.symm hc0
   | ok u3 j3=>
   rw[qm3]at m3 m3i hr
   obtain⟨m3a,m3b⟩:=m3i
   replace m3:=m3.ok
   try simp only[PR.vl]at m3
   simp only[PR.bind]at hr
   obtain⟨hlt4,rfl⟩:=zbh qm3
   repeat' (first|refine wkt ?_|refine zqn ?_|refine we m3 ?_ ?_|exact wkc|intro hc|refine wk2 ?_ ?_|fail)
   obtain⟨m4,m4i⟩:=ziq l n es j3 hk hes q2
   cases qm4:(rdr l es).equation (rdr l es).expr j3 with
   | er ke c=>
     rw[qm4]at m4 m4i hr
     have hc0:=m4i.2
     replace m4:=m4.er
     try simp only[PR.vl]at m4
     simp only[PR.bind]at hr
     repeat' (first|refine wkt ?_|refine zqn ?_|refine we m4 ?_ ?_|exact wkc|intro hc|refine wk2 ?_ ?_|fail)
     repeat' (first|refine zac.panic ?_|refine wk ?_|fail)
     exact rdP hr.symm hc0
   | ok e k=>
   rw[qm4]at m4 m4i hr
   obtain⟨m4a,m4b⟩:=m4i
   replace m4:=m4.ok
   try simp only[PR.vl]at m4
   simp only[PR.bind]at hr
   rw[zjv e]at m4
   repeat' (first|refine wkt ?_|refine zqn ?_|refine zqb ?_|refine we m4 ?_ ?_|exact wkc|intro hc|refine wk2 ?_ ?_|fail)
   refine zac.next (m,k,xs++[e],as') ⟨?_,m4b,?_,?_,?_,hr⟩ ?_ ⟨rfl,rfl,?_,rfl,trivial⟩ ?_
   ·show i≤k;omega
   ·show l.length-k<m;omega
   ·exact zwea
   ·show as'.length≤k;omega
   ·show l.length-k<l.length-j3;omega
   ·exact zwdk
   ·exact zwcl
 | false=>
 rw[h2]at t2
 cases h3:(rdr l es).isAt j [40] with
 | true=>
   rw[h3]at t3
   have hor:((rdr l es).kind j 1 || (rdr l es).isAt j [40])=true:=by rw[h2,h3];rfl
   rw[if_pos hor]at hr
   refine wk ?_
   repeat' (first|refine wkt ?_|refine zqn ?_|refine wd t1 ?_|refine wd t2 ?_|refine wd t3 ?_|exact wkc|intro hc|refine wk2 ?_ ?_|fail)
   obtain⟨m3,m3i⟩:=limC l n es j (xs.map equT).length xs.length 256 hl q2 hml
   cases qm3:limR xs.length 256 j with
   | er ke c=>
     rw[qm3]at m3 m3i hr
     have hc0:=m3i.2
     replace m3:=m3.er
     try simp only[PR.vl]at m3
     simp only[PR.bind]at hr
     repeat' (first|refine wkt ?_|refine zqn ?_|refine we m3 ?_ ?_|exact wkc|intro hc|refine wk2 ?_ ?_|fail)
     repeat' (first|refine zac.panic ?_|refine wk ?_|fail)
     exact rdP hr.symm hc0
   | ok u3 j3=>
   rw[qm3]at m3 m3i hr
   obtain⟨m3a,m3b⟩:=m3i
   replace m3:=m3.ok
   try simp only[PR.vl]at m3
   simp only[PR.bind]at hr
   obtain⟨hlt4,rfl⟩:=zbh qm3
   repeat' (first|refine wkt ?_|refine zqn ?_|refine we m3 ?_ ?_|exact wkc|intro hc|refine wk2 ?_ ?_|fail)
   obtain⟨m4,m4i⟩:=ziq l n es j3 hk hes q2
   cases qm4:(rdr l es).equation (rdr l es).expr j3 with
   | er ke c=>
     rw[qm4]at m4 m4i hr
     have hc0:=m4i.2
     replace m4:=m4.er
     try simp only[PR.vl]at m4
     simp only[PR.bind]at hr
     repeat' (first|refine wkt ?_|refine zqn ?_|refine we m4 ?_ ?_|exact wkc|intro hc|refine wk2 ?_ ?_|fail)
     repeat' (first|refine zac.panic ?_|refine wk ?_|fail)
     exact rdP hr.symm hc0
   | ok e k=>
   rw[qm4]at m4 m4i hr
   obtain⟨m4a,m4b⟩:=m4i
   replace m4:=m4.ok
   try simp only[PR.vl]at m4
   simp only[PR.bind]at hr
   rw[zjv e]at m4
   repeat' (first|refine wkt ?_|refine zqn ?_|refine zqb ?_|refine we m4 ?_ ?_|exact wkc|intro hc|refine wk2 ?_ ?_|fail)
   refine zac.next (m,k,xs++[e],as') ⟨?_,m4b,?_,?_,?_,hr⟩ ?_ ⟨rfl,rfl,?_,rfl,trivial⟩ ?_
   ·show i≤k;omega
   ·show l.length-k<m;omega
   ·exact zwea
   ·show as'.length≤k;omega
   ·show l.length-k<l.length-j3;omega
   ·exact zwdk
   ·exact zwcl
 | false=>
 rw[h3]at t3
 rw[if_neg (by rw[h2,h3];decide)]at hr
 subst hr
 refine wk ?_
 repeat' (first|refine wkt ?_|refine zqn ?_|refine wd t1 ?_|refine wd t2 ?_|refine wd t3 ?_|refine zac.ret ?_|exact wkc|intro hc|refine wk2 ?_ ?_|fail)
 apply rdV rfl
 ·exact rfl
 ·rw[vlE]
  exact Le.tup ⟨Le.own _ _ _,Le.own _ _ _,trivial⟩
 all_goals exact rfl
end Go.Proofs.YtpfnfpaahefdaaaGreat
namespace Go.Proofs.YtpfnfpaahefdaaaGreat
open Go Go.TL
attribute [local irreducible] TR TO Then zab RetK Sound zac Kf GG za2
section rules
variable {P:Program}{n:Nat}{env:Env}{H:Heap}{K:TK}{all:Array Oper}{rest:List Oper}{d:Nat}{ty:TypeId}{pos:String}{aft:Array Edge}
theorem TO.zjl{cargs:List SV}{a b:Int}{cs:List SV}{f:Operand}{fid:FuncId}{caps:List SV}{args:Array Operand}{ts:Array TypeId}{vs:List SV}
  (hs:Sound P fid cargs [] fun r H'=>r= .ret (.tup [.ref 0 0,.i a,.i b])/\H'=[.cells cs])(hd:Nat.ble (d+1) n=true)
  (hf:env.val f=some (.fn fid caps))(ha:env.vals args.toList=some vs)(hl:Les (vs++caps) cargs)(hu:unders 0 cargs=true)(hcs:unders 0 cs=true)
  (k:TO false P n all rest ((d,.tup [.ref H.length 0,.i a,.i b])::env) (H++[.cells cs]) K):
  TO false P n all (⟨some d,.call { callee:=.value f,args:=args,argTypes:=ts },ty,pos,aft,none⟩::rest) env H K:=
 TO.zcC [] hs hd hf ha (by rw[zbA (N:=0) (fun j hj=>by omega) _ hu];exact hl) hu (zg9 H) (by simp[SV.ren,rens,names]) (by
  simp only[patch,qah,qas,Blk.ren,zhr _ hcs]) k
end rules
theorem zfY(a c:Int)(x0 x1 x2 x3 x4 x5 b d:SV)(Hr:Heap)(hb:zad (Hr.length+3) Hr=true):
  zcb Tryz.prog 33 [.ref 0 0,.ref 1 0,.ref 2 0] (.cells [x0,x1,x2,x3,x4,x5]:: .cells [b]:: .cells [d]::Hr) (some (.ifc 98 (.t (.ag [T.i a,T.i c])))) (fun H3=>H3=exZ:: .cells [.i a]:: .cells [.i c]::Hr):=by
 have hc:=zfg a c
 refine zcb.of (tab:=tab) Tryz.func33 (by kernel_rfl) rfl rfl rfl rfl ?_
 repeat' (first|refine wkb ?_|(apply TO.zhb;exact rfl;exact rfl;kernel_rfl)|refine Then.normal ?_|refine wv hc ?_|fail)
 have ht:(exZ::Blk.cells [.i a]::Blk.cells [.i c]::Hr).take (Blk.cells [x0,x1,x2,x3,x4,x5]::Blk.cells [b]::Blk.cells [d]::Hr).length=exZ::Blk.cells [.i a]::Blk.cells [.i c]::Hr:=by simp
 refine⟨qae _,?_,ht⟩
 show zad _ (List.take _ (exZ::Blk.cells [.i a]::Blk.cells [.i c]::Hr))=true
 rw[ht]
 exact hb
theorem zfX(H:Heap)(hb:zad H.length H=true):
  zcb Tryz.prog 33 [.ref 0 0,.ref 1 0,.ref 2 0] H none (fun H3=>H3=H):=by
 refine zcb.of (tab:=tab) Tryz.func33 (by kernel_rfl) rfl rfl rfl rfl ?_
 repeat' (first|refine wkb ?_|(apply TO.zgl;exact rfl;exact rfl;kernel_rfl)|refine Then.normal ?_|fail)
 exact⟨qae _,by rw[qaH (qae _)];exact hb,qaH (qae _)⟩
theorem we4{G Q1 Q2:Prop}{f:FuncId}{cargs:List SV}{v pv:SV}{c:Int}{Hc H1:Heap}(hs:Sound Tryz.prog f cargs Hc (Err c v pv H1))(k1:Q1)(k2:Q2)(h:Sound Tryz.prog f cargs Hc (Err c v pv H1)->Hold Q1->Hold Q2->G:=by
  intro hs k1 k2
  (apply TO.zqx [3] hs;(iterate 3 exact rfl);exact zqa;exact rfl;exact Hands.one rfl rfl;(iterate 4 exact rfl);exact k1.p;exact k2.p)):G:=h hs ⟨k1⟩ ⟨k2⟩
def zd8(es:List En)(s:Str):Ex×Int×Int:=
 if(scan s).2.2≠0 then(noE,(scan s).2.1,(scan s).2.2) else
 match (rdr (scan s).1 es).expr 0 with
 | .er k c=>(noE,placeOf (scan s).1 s.length k,c)
 | .ok e j=>if j<(scan s).1.length then(noE,placeOf (scan s).1 s.length j,5) else if zcp es e=0 then(e,0,0) else(noE,0,zcp es e)
theorem noET:exT noE= .ag [T.i 0,T.i 0,T.i 0,T.i 0,T.s [],T.sl 6 []]:=by
 unfold noE
 rw[zbG _ _ _ _ _ _ rfl rfl rfl rfl]
 rfl
theorem znt{P:Program}{n:Nat}{c:Code}{K KD:TK}{gf:FuncId}{cv:List SV}{env:Env}{H:Heap}(h:K .ret env H):zk6 P n c K gf cv KD .ret env H:=h
theorem zaC{P:Program}{n:Nat}{c:Code}{K KD:TK}{gf:FuncId}{cv:List SV}{env:Env}{H:Heap}(h:TD P n c env H K gf cv KD):zk6 P n c K gf cv KD .normal env H:=h
attribute [local irreducible] TD zk6
set_option maxHeartbeats 4000000 in
theorem zjw (es:List En) (s:Str) (hb:s.length≤1000000) (hk:TkOk (scan s).1) (hes:EsOk es) (hw:∀e j,(rdr (scan s).1 es).expr 0= .ok e j->wEx e≤1000000000):
  Pure Tryz.prog 12 [.t (ensT es),.s s] (.tup [.t (exT (zd8 es s).1),.i (zd8 es s).2.1,.i (zd8 es s).2.2]):=by
 have hz:zd8 es s=zd8 es s:=rfl
 conv at hz=>rhs;unfold zd8
 generalize zd8 es s=z at hz⊢
 by_cases hs:(scan s).2.2≠0
 ·have h1:=zkf s es hs
  rw[if_pos hs]at hz
  subst hz
  try simp only[noET]
  refine Sound.zdb zaa Tryz.func12 (by kernel_rfl) rfl rfl (gf:=33) (cv:=[.ref 0 0,.ref 1 0,.ref 2 0]) ?_
  refine TD.seq ?_
  repeat' (first|refine wkb ?_|refine wk ?_|fail)
  refine zaC ?_
  refine TD.seq ?_
  repeat' (first|refine wkb ?_|refine wv h1 ?_|refine wk ?_|exact wkc|intro hc|refine wk2 ?_ ?_|fail)
  refine zaC ?_
  refine TD.seq ?_
  repeat' (first|refine wkb ?_|exact wkc|intro hc|refine wk2 ?_ ?_|fail)
  refine rgX 0 (g:=True) [(.t (.ag [T.i 0,T.i 0,T.i 0,T.i 0,T.s [],.v (.slice none 0 0)]),0,0),(.i (scan s).2.1,0,1),(.i (scan s).2.2,0,2),(.any,1,0),(.any,1,0),(.any,1,0)] [[exZ,.cells [.i (scan s).2.1],.cells [.i (scan s).2.2]],[exZ,.cells [.i (scan s).2.1],.cells [.i (scan s).2.2]],[exZ,.cells [.i (scan s).2.1],.cells [.i (scan s).2.2]],[exZ,.cells [.i (scan s).2.1],.cells [.i (scan s).2.2]]] ?_ (fun _=>?_)
  ·repeat' (first|refine wkt ?_|exact trivial|exact⟨⟨rfl,rfl⟩,trivial⟩|refine qai (fun env=>?_) ?_|refine qai ?_ ?_|refine wk ?_|exact wkc|intro hc|refine wk2 ?_ ?_|fail)
   done
  ·repeat' (first|refine wkb ?_|fail)
   refine znt ?_
   exact wkr
 have h1:=znP s es (by simpa using hs) hb
 rw[if_neg hs]at hz
 clear hs
 generalize (scan s).1=l at*
 obtain⟨hx,hin⟩:=zf6 l s.length es hk hes 0 (qaV _)
 cases hq:(rdr l es).expr 0 with
 | er k c=>
   rw[hq]at hx hin hz
   have hc0:=hin.2
   replace hx:=hx.er
   simp only[PR.vl]at hx
   simp only at hz
   subst hz
   try simp only[noET]
   refine Sound.zdb zaa Tryz.func12 (by kernel_rfl) rfl rfl (gf:=33) (cv:=[.ref 0 0,.ref 1 0,.ref 2 0]) ?_
   refine TD.seq ?_
   repeat' (first|refine wkb ?_|refine wk ?_|fail)
   refine zaC ?_
   refine TD.seq ?_
   refine wk ?_
   repeat' (first|refine wkb ?_|(apply TO.zjl h1;(iterate 3 exact rfl);exact⟨Le.refl _,Le.refl _,trivial⟩;exact rfl;exact rfl)|refine wk ?_|exact wkc|intro hc|refine wk2 ?_ ?_|fail)
   refine zaC ?_
   refine TD.seq ?_
   repeat' (first|refine wkb ?_|refine wk ?_|exact wkc|intro hc|refine wk2 ?_ ?_|fail)
   refine zaC ?_
   refine TD.defer (tz:=0) rfl rfl ?_
   repeat' (first|refine wkb ?_|refine wk ?_|refine we4 hx ?_ ?_|exact wkc|intro hc|refine wk2 ?_ ?_|fail)
   exact⟨_,zfY _ _ _ _ _ _ _ _ _ _ _ rfl,fun H3 h=>by subst h;exact wkr⟩
 | ok e j=>
   have hwe:=hw e j hq
   rw[hq]at hx hin hz
   obtain⟨_,hj⟩:=hin
   replace hx:=hx.ok
   simp only[PR.vl]at hx
   simp only at hz
   have hfi:=zfk l s.length es j hk.len hj
   by_cases hlt:j<l.length
   ·rw[if_pos hlt]at hz hfi
    subst hz
    try simp only[noET]
    replace hfi:=hfi.er
    rw[zao e]at hx
    unfold exC at hx
    refine Sound.zdb zaa Tryz.func12 (by kernel_rfl) rfl rfl (gf:=33) (cv:=[.ref 0 0,.ref 1 0,.ref 2 0]) ?_
    refine TD.seq ?_
    repeat' (first|refine wkb ?_|refine wk ?_|fail)
    refine zaC ?_
    refine TD.seq ?_
    refine wk ?_
    repeat' (first|refine wkb ?_|(apply TO.zjl h1;(iterate 3 exact rfl);exact⟨Le.refl _,Le.refl _,trivial⟩;exact rfl;exact rfl)|refine wk ?_|exact wkc|intro hc|refine wk2 ?_ ?_|fail)
    refine zaC ?_
    refine TD.seq ?_
    repeat' (first|refine wkb ?_|refine wk ?_|exact wkc|intro hc|refine wk2 ?_ ?_|fail)
    refine zaC ?_
    refine TD.defer (tz:=0) rfl rfl ?_
    repeat' (first|refine wkb ?_|refine wk ?_|refine we4 hx ?_ ?_|refine we4 hfi ?_ ?_|exact wkc|intro hc|refine wk2 ?_ ?_|fail)
    exact⟨_,zfY _ _ _ _ _ _ _ _ _ _ _ rfl,fun H3 h=>by subst h;exact wkr⟩
   ·rw[if_neg hlt]at hz hfi
    replace hfi:=hfi.ok
    have hsh:=zcL es e hwe
    generalize zcp es e=x at*
    rw[zao e]at hx hsh
    unfold exC at hx hsh
    by_cases hx0:x=0
    ·rw[if_pos hx0]at hz
     subst hx0
     subst hz
     try simp only[noET]
     try simp only
     rw[zao e]
     unfold exC
     refine Sound.zdb zaa Tryz.func12 (by kernel_rfl) rfl rfl (gf:=33) (cv:=[.ref 0 0,.ref 1 0,.ref 2 0]) ?_
     refine TD.seq ?_
     repeat' (first|refine wkb ?_|refine wk ?_|fail)
     refine zaC ?_
     refine TD.seq ?_
     refine wk ?_
     repeat' (first|refine wkb ?_|(apply TO.zjl h1;(iterate 3 exact rfl);exact⟨Le.refl _,Le.refl _,trivial⟩;exact rfl;exact rfl)|refine wk ?_|exact wkc|intro hc|refine wk2 ?_ ?_|fail)
     refine zaC ?_
     refine TD.seq ?_
     repeat' (first|refine wkb ?_|refine wk ?_|exact wkc|intro hc|refine wk2 ?_ ?_|fail)
     refine zaC ?_
     refine TD.defer (tz:=0) rfl rfl ?_
     repeat' (first|refine wkb ?_|refine wk ?_|refine we4 hx ?_ ?_|refine we4 hfi ?_ ?_|refine wv hsh ?_|exact wkc|intro hc|refine wk2 ?_ ?_|fail)
     exact⟨_,zfX _ rfl,fun H3 h=>by subst h;exact wkr⟩
    ·rw[if_neg hx0]at hz
     subst hz
     try simp only[noET]
     refine Sound.zdb zaa Tryz.func12 (by kernel_rfl) rfl rfl (gf:=33) (cv:=[.ref 0 0,.ref 1 0,.ref 2 0]) ?_
     refine TD.seq ?_
     repeat' (first|refine wkb ?_|refine wk ?_|fail)
     refine zaC ?_
     refine TD.seq ?_
     refine wk ?_
     repeat' (first|refine wkb ?_|(apply TO.zjl h1;(iterate 3 exact rfl);exact⟨Le.refl _,Le.refl _,trivial⟩;exact rfl;exact rfl)|refine wk ?_|exact wkc|intro hc|refine wk2 ?_ ?_|fail)
     refine zaC ?_
     refine TD.seq ?_
     repeat' (first|refine wkb ?_|refine wk ?_|exact wkc|intro hc|refine wk2 ?_ ?_|fail)
     refine zaC ?_
     refine TD.defer (tz:=0) rfl rfl ?_
     repeat' (first|refine wkb ?_|refine wk ?_|refine we4 hx ?_ ?_|refine we4 hfi ?_ ?_|refine wv hsh ?_|exact wkc|intro hc|refine wk2 ?_ ?_|fail)
     exact⟨_,zfX _ rfl,fun H3 h=>by subst h;exact wkr⟩
end Go.Proofs.YtpfnfpaahefdaaaGreat
namespace Go.Proofs.YtpfnfpaahefdaaaGreat
open Go Go.TL
attribute [local irreducible] TR TO Then zab RetK Sound zac Kf GG za2
abbrev bldT:TypeId:=81
abbrev bld0 (l:Str):Heap:=[.cells [.t (.v (.pointer none)),.rw 1 l.length],.row 5 (zbD l)]
abbrev bld1 (l:Str):Heap:=[.cells [.tref bldT 2 0 0,.rw 1 l.length],.row 5 (zbD l)]
set_option maxHeartbeats 1000000 in
theorem zft (l:Str):Sound Tryz.prog 59 [.tref bldT 2 0 0] (bld0 l) (fun r H'=>r= .ret (.tup [])/\H'=bld1 l):=by
 refine so Tryz.func59 ?_
 repeat' (first
  | (apply TO.move;exact rfl;exact rfl)
  | (apply TO.assign;exact rfl;exact rfl)
  | (apply TO.want;exact rfl)
  | refine zqn ?_
  | refine zqc ?_
  | (apply TO.eqs;(iterate 3 exact rfl))
  | (apply TO.nes;(iterate 3 exact rfl))
  | (apply TO.cmp;(iterate 4 exact rfl))
  | (intro hc;exact absurd hc (by decide))
  | (intro hc;exfalso;simp only[decide_eq_true_eq,decide_eq_false_iff_not,beq_iff_eq,beq_eq_false_iff_ne,bne_iff_ne,bne_eq_false_iff_eq,ne_eq,qam,not_true_eq_false]at hc;done)
  | (intro hc;exfalso;(first|simp only[decide_eq_true_eq,decide_eq_false_iff_not,beq_iff_eq,beq_eq_false_iff_ne,bne_iff_ne,bne_eq_false_iff_eq,ne_eq,qam,not_true_eq_false]at hc|skip);first|omega|(simp only[qaf,qac]at *;omega))
  | intro hc
  | (apply TO.pick;(iterate 3 exact rfl))
  | (apply TO.pass;exact rfl;exact rfl)
  | (apply TO.zbP;exact rfl)
  | (apply TO.load zaa;(iterate 5 exact rfl))
  | (apply TO.zaD zaa;(iterate 6 exact rfl))
  | (apply TO.fieldAddr zaa;(iterate 5 exact rfl);decide;exact rfl)
  | (apply TO.zaj zaa;(iterate 5 exact rfl);decide;exact rfl)
  | (apply TO.nilCheck;(iterate 3 exact rfl))
  | (apply TO.zaw zaa;(iterate 5 exact rfl);assumption)
  | (apply TO.zau zaa;(iterate 5 exact rfl);decide;exact rfl)
  | (apply TO.zaT zaa;(iterate 4 exact rfl))
  | (apply TO.zba zaa;(iterate 7 exact rfl))
  | refine zqg ?_
  | (apply TO.extract;(iterate 3 exact rfl))
  | (apply TO.zoD zaa;(iterate 4 exact rfl);decide;kernel_rfl;exact rfl;exact rfl)
  | (apply TO.zls zaa;(iterate 4 exact rfl);kernel_rfl;exact rfl;kernel_rfl)
  | (apply TO.zjx;exact rfl;exact Tryz.func79;kernel_rfl;kernel_rfl;kernel_rfl;kernel_rfl;exact rfl)
  | refine TO.nil ?_
  | refine TR.seq ?_
  | refine TR.region ?_
  | (apply TR.zbO;exact rfl)
  | (apply TR.zbN;exact rfl)
  | refine Then.normal ?_
  | refine TR.block ?_
  | refine TR.skip ?_
  | (apply TR.zaU hmix;kernel_rfl;exact rfl)
  | refine TR.exit ?_
  | refine TR.ret ?_
  | refine Then.exit ?_
  | refine Then.ret ?_
  | refine zac.exit ?_
  | refine zac.ret ?_
  | refine zab.normal ?_
  | refine zab.ret ?_
  | (apply zab.same;exact rfl)
  | (apply zab.other;exact rfl)
  | (apply TO.zaI;(iterate 3 exact rfl);omega;omega)
  | (apply TO.mul64;(iterate 3 exact rfl);omega;omega)
  | (apply TO.convert_u8;exact rfl;kernel_rfl;kernel_rfl;exact rfl)
  | (apply TO.bin;(iterate 4 exact rfl))
  | (apply TO.zbb zaa;(iterate 6 exact rfl);omega;omega)
  | (apply TO.zaB zaa;(iterate 5 exact rfl);omega)
  | (apply TO.zaE zaa;(iterate 5 exact rfl);omega)
  | (apply TO.not;exact rfl;exact rfl)
  | (apply TO.zan;exact rfl;exact rfl)
  | (apply TO.zaH zaa;(iterate 4 exact rfl);exact leB)
  | (apply TO.zak zaa;(iterate 5 exact rfl);exact leB)
  | (apply TO.za9 zaa;(iterate 4 exact rfl))
  | (apply TO.za6 zaa;(iterate 7 exact rfl))
  | (apply TO.build zaa;(iterate 6 exact rfl))
  | refine zqp ?_
  | refine zqo ?_
  | refine zqe ?_
  | refine zqk ?_
  | refine zqb ?_
  | (apply TO.eqb;(iterate 3 exact rfl);kernel_rfl)
  | (apply TO.neb;(iterate 3 exact rfl);kernel_rfl)
  | (apply TO.zay (j:=0) zaa;(iterate 10 exact rfl))
  | (apply TO.makeFunc;exact rfl;exact rfl)
  | (apply TO.zah zaa;(iterate 5 exact rfl);decide;exact rfl)
  | (apply TO.zar zaa;(iterate 5 exact rfl))
  | (apply TO.zaq zaa;(iterate 4 exact rfl))
  | (apply TO.ne_nil_ptr zaa;(iterate 5 exact rfl))
  | (apply TO.ne_nil_nil zaa;(iterate 4 exact rfl))
  | refine zqj ?_
  | refine zql ?_
  | (apply TO.ssl_hi zaa;(iterate 8 exact rfl);omega))
 all_goals exact zwet
set_option maxHeartbeats 1000000 in
theorem zfu (l:Str):Sound Tryz.prog 59 [.tref bldT 2 0 0] (bld1 l) (fun r H'=>r= .ret (.tup [])/\H'=bld1 l):=by
 refine so Tryz.func59 ?_
 repeat' (first
  | (apply TO.move;exact rfl;exact rfl)
  | (apply TO.assign;exact rfl;exact rfl)
  | (apply TO.want;exact rfl)
  | refine zqn ?_
  | refine zqc ?_
  | (apply TO.eqs;(iterate 3 exact rfl))
  | (apply TO.nes;(iterate 3 exact rfl))
  | (apply TO.cmp;(iterate 4 exact rfl))
  | (intro hc;exact absurd hc (by decide))
  | (intro hc;exfalso;simp only[decide_eq_true_eq,decide_eq_false_iff_not,beq_iff_eq,beq_eq_false_iff_ne,bne_iff_ne,bne_eq_false_iff_eq,ne_eq,qam,not_true_eq_false]at hc;done)
  | (intro hc;exfalso;(first|simp only[decide_eq_true_eq,decide_eq_false_iff_not,beq_iff_eq,beq_eq_false_iff_ne,bne_iff_ne,bne_eq_false_iff_eq,ne_eq,qam,not_true_eq_false]at hc|skip);first|omega|(simp only[qaf,qac]at *;omega))
  | intro hc
  | (apply TO.pick;(iterate 3 exact rfl))
  | (apply TO.pass;exact rfl;exact rfl)
  | (apply TO.zbP;exact rfl)
  | (apply TO.load zaa;(iterate 5 exact rfl))
  | (apply TO.zaD zaa;(iterate 6 exact rfl))
  | (apply TO.fieldAddr zaa;(iterate 5 exact rfl);decide;exact rfl)
  | (apply TO.zaj zaa;(iterate 5 exact rfl);decide;exact rfl)
  | (apply TO.nilCheck;(iterate 3 exact rfl))
  | (apply TO.zaw zaa;(iterate 5 exact rfl);assumption)
  | (apply TO.zau zaa;(iterate 5 exact rfl);decide;exact rfl)
  | (apply TO.zaT zaa;(iterate 4 exact rfl))
  | (apply TO.zba zaa;(iterate 7 exact rfl))
  | refine zqg ?_
  | (apply TO.extract;(iterate 3 exact rfl))
  | (apply TO.zjJ zaa;(iterate 6 exact rfl);exact Le.tref _ _ _ _;exact Le.tref _ _ _ _)
  | refine TO.nil ?_
  | refine TR.seq ?_
  | refine TR.region ?_
  | (apply TR.zbO;exact rfl)
  | (apply TR.zbN;exact rfl)
  | refine Then.normal ?_
  | refine TR.block ?_
  | refine TR.skip ?_
  | (apply TR.zaU hmix;kernel_rfl;exact rfl)
  | refine TR.exit ?_
  | refine TR.ret ?_
  | refine Then.exit ?_
  | refine Then.ret ?_
  | refine zac.exit ?_
  | refine zac.ret ?_
  | refine zab.normal ?_
  | refine zab.ret ?_
  | (apply zab.same;exact rfl)
  | (apply zab.other;exact rfl)
  | (apply TO.zaI;(iterate 3 exact rfl);omega;omega)
  | (apply TO.mul64;(iterate 3 exact rfl);omega;omega)
  | (apply TO.convert_u8;exact rfl;kernel_rfl;kernel_rfl;exact rfl)
  | (apply TO.bin;(iterate 4 exact rfl))
  | (apply TO.zbb zaa;(iterate 6 exact rfl);omega;omega)
  | (apply TO.zaB zaa;(iterate 5 exact rfl);omega)
  | (apply TO.zaE zaa;(iterate 5 exact rfl);omega)
  | (apply TO.not;exact rfl;exact rfl)
  | (apply TO.zan;exact rfl;exact rfl)
  | (apply TO.zaH zaa;(iterate 4 exact rfl);exact leB)
  | (apply TO.zak zaa;(iterate 5 exact rfl);exact leB)
  | (apply TO.za9 zaa;(iterate 4 exact rfl))
  | (apply TO.za6 zaa;(iterate 7 exact rfl))
  | (apply TO.build zaa;(iterate 6 exact rfl))
  | refine zqp ?_
  | refine zqo ?_
  | refine zqe ?_
  | refine zqk ?_
  | refine zqb ?_
  | (apply TO.eqb;(iterate 3 exact rfl);kernel_rfl)
  | (apply TO.neb;(iterate 3 exact rfl);kernel_rfl)
  | (apply TO.zay (j:=0) zaa;(iterate 10 exact rfl))
  | (apply TO.makeFunc;exact rfl;exact rfl)
  | (apply TO.zah zaa;(iterate 5 exact rfl);decide;exact rfl)
  | (apply TO.zar zaa;(iterate 5 exact rfl))
  | (apply TO.zaq zaa;(iterate 4 exact rfl))
  | (apply TO.ne_nil_ptr zaa;(iterate 5 exact rfl))
  | (apply TO.ne_nil_nil zaa;(iterate 4 exact rfl))
  | refine zqj ?_
  | refine zql ?_
  | (apply TO.ssl_hi zaa;(iterate 8 exact rfl);omega))
 all_goals exact zwet
def bldH(a:Bool)(l:Str):Heap:=bif a then bld1 l else bld0 l
theorem zdN(a:Bool)(l:Str):Sound Tryz.prog 59 [.tref bldT 2 0 0] (bldH a l) (fun r H'=>r= .ret (.tup [])/\H'=bld1 l):=by
 cases a
 ·exact zft l
 ·exact zfu l
theorem Hands.two{G:Heap}{i j:Nat}{b c:Blk}(hij:i≠j)(h1:G[i]?=some (b.ren (names [i,j] G.length)))(h2:G[j]?=some (c.ren (names [i,j] G.length)))(hb:b.under 2=true)(hc:c.under 2=true):Hands G [i,j] [b,c] where
 nodup:=by simp[hij]
 lt:=fun x hx=>by
  rcases qa8.1 hx with rfl|hx
  ·exact(qaa.1 h1).1
  ·have:x=j:=by simpa using hx
   subst this
   exact(qaa.1 h2).1
 len:=rfl
 H:=fun k m d g1 g2=>by
  match k,g1,g2 with
  | 0,g1,g2=>simp at g1 g2;subst g1;subst g2;exact h1
  | 1,g1,g2=>simp at g1 g2;subst g1;subst g2;exact h2
  | k+2,g1,g2=>simp at g1
 under:=fun k d g2=>by
  match k,g2 with
  | 0,g2=>simp at g2;subst g2;exact hb
  | 1,g2=>simp at g2;subst g2;exact hc
  | k+2,g2=>simp at g2
set_option maxHeartbeats 1000000 in
theorem zgO (a:Bool) (l:Str) (c:UInt8) (hl:l.length+1≤1000000000):Sound Tryz.prog 25 [.tref bldT 2 0 0,.t (.v (.int .u8 c.toNat))] (bldH a l) (fun r H'=>r= .ret (.t (.v .nilIface))/\H'=bld1 (l++[c])):=by
 have hC:=zdN a l
 cases a
 all_goals
  refine so Tryz.func25 ?_
  repeat' (first
   | (apply TO.move;exact rfl;exact rfl)
   | (apply TO.assign;exact rfl;exact rfl)
   | (apply TO.want;exact rfl)
   | refine zqn ?_
   | refine zqc ?_
   | (apply TO.eqs;(iterate 3 exact rfl))
   | (apply TO.nes;(iterate 3 exact rfl))
   | (apply TO.cmp;(iterate 4 exact rfl))
   | (intro hc;exact absurd hc (by decide))
   | (intro hc;exfalso;simp only[decide_eq_true_eq,decide_eq_false_iff_not,beq_iff_eq,beq_eq_false_iff_ne,bne_iff_ne,bne_eq_false_iff_eq,ne_eq,qam,not_true_eq_false]at hc;done)
   | (intro hc;exfalso;(first|simp only[decide_eq_true_eq,decide_eq_false_iff_not,beq_iff_eq,beq_eq_false_iff_ne,bne_iff_ne,bne_eq_false_iff_eq,ne_eq,qam,not_true_eq_false]at hc|skip);first|omega|(simp only[qaf,qac]at *;omega))
   | intro hc
   | (apply TO.pick;(iterate 3 exact rfl))
   | (apply TO.pass;exact rfl;exact rfl)
   | (apply TO.zbP;exact rfl)
   | (apply TO.load zaa;(iterate 5 exact rfl))
   | (apply TO.zaD zaa;(iterate 6 exact rfl))
   | (apply TO.fieldAddr zaa;(iterate 5 exact rfl);decide;exact rfl)
   | (apply TO.zaj zaa;(iterate 5 exact rfl);decide;exact rfl)
   | (apply TO.nilCheck;(iterate 3 exact rfl))
   | (apply TO.zaw zaa;(iterate 5 exact rfl);assumption)
   | (apply TO.zau zaa;(iterate 5 exact rfl);decide;exact rfl)
   | (apply TO.zaT zaa;(iterate 4 exact rfl))
   | (apply TO.zba zaa;(iterate 7 exact rfl))
   | refine zqg ?_
   | (apply TO.extract;(iterate 3 exact rfl))
   | (apply TO.zcC [0,1] (v':=.tup []) (H':=bld1 l) hC;(iterate 3 exact rfl);exact⟨Le.refl _,trivial⟩;exact rfl;exact Hands.two (by decide) rfl rfl rfl rfl;exact rfl;exact rfl)
   | (apply TO.zje zaa;(iterate 13 exact rfl);omega;exact rfl)
   | refine TO.nil ?_
   | refine TR.seq ?_
   | refine TR.region ?_
   | (apply TR.zbO;exact rfl)
   | (apply TR.zbN;exact rfl)
   | refine Then.normal ?_
   | refine TR.block ?_
   | refine TR.skip ?_
   | (apply TR.zaU hmix;kernel_rfl;exact rfl)
   | refine TR.exit ?_
   | refine TR.ret ?_
   | refine Then.exit ?_
   | refine Then.ret ?_
   | refine zac.exit ?_
   | refine zac.ret ?_
   | refine zab.normal ?_
   | refine zab.ret ?_
   | (apply zab.same;exact rfl)
   | (apply zab.other;exact rfl)
   | (apply TO.zaI;(iterate 3 exact rfl);omega;omega)
   | (apply TO.mul64;(iterate 3 exact rfl);omega;omega)
   | (apply TO.convert_u8;exact rfl;kernel_rfl;kernel_rfl;exact rfl)
   | (apply TO.bin;(iterate 4 exact rfl))
   | (apply TO.zbb zaa;(iterate 6 exact rfl);omega;omega)
   | (apply TO.zaB zaa;(iterate 5 exact rfl);omega)
   | (apply TO.zaE zaa;(iterate 5 exact rfl);omega)
   | (apply TO.not;exact rfl;exact rfl)
   | (apply TO.zan;exact rfl;exact rfl)
   | (apply TO.zaH zaa;(iterate 4 exact rfl);exact leB)
   | (apply TO.zak zaa;(iterate 5 exact rfl);exact leB)
   | (apply TO.za9 zaa;(iterate 4 exact rfl))
   | (apply TO.za6 zaa;(iterate 7 exact rfl))
   | (apply TO.build zaa;(iterate 6 exact rfl))
   | refine zqp ?_
   | refine zqo ?_
   | refine zqe ?_
   | refine zqk ?_
   | refine zqb ?_
   | (apply TO.eqb;(iterate 3 exact rfl);kernel_rfl)
   | (apply TO.neb;(iterate 3 exact rfl);kernel_rfl)
   | (apply TO.zay (j:=0) zaa;(iterate 10 exact rfl))
   | (apply TO.makeFunc;exact rfl;exact rfl)
   | (apply TO.zah zaa;(iterate 5 exact rfl);decide;exact rfl)
   | (apply TO.zar zaa;(iterate 5 exact rfl))
   | (apply TO.zaq zaa;(iterate 4 exact rfl))
   | (apply TO.ne_nil_ptr zaa;(iterate 5 exact rfl))
   | (apply TO.ne_nil_nil zaa;(iterate 4 exact rfl))
   | refine zqj ?_
   | refine zql ?_
   | (apply TO.ssl_hi zaa;(iterate 8 exact rfl);omega))
  exact RetK.keep 2 rfl (Le.refl _) rfl rfl rfl rfl rfl ⟨rfl,rfl⟩
set_option maxHeartbeats 1000000 in
theorem zbU (a:Bool) (l s:Str) (hl:l.length+s.length≤1000000000):Sound Tryz.prog 26 [.tref bldT 2 0 0,.s s] (bldH a l) (fun r H'=>r= .ret (.tup [.i s.length,.t (.v .nilIface)])/\H'=bld1 (l++s)):=by
 have hC:=zdN a l
 cases a
 all_goals
  refine so Tryz.func26 ?_
  repeat' (first
   | (apply TO.move;exact rfl;exact rfl)
   | (apply TO.assign;exact rfl;exact rfl)
   | (apply TO.want;exact rfl)
   | refine zqn ?_
   | refine zqc ?_
   | (apply TO.eqs;(iterate 3 exact rfl))
   | (apply TO.nes;(iterate 3 exact rfl))
   | (apply TO.cmp;(iterate 4 exact rfl))
   | (intro hc;exact absurd hc (by decide))
   | (intro hc;exfalso;simp only[decide_eq_true_eq,decide_eq_false_iff_not,beq_iff_eq,beq_eq_false_iff_ne,bne_iff_ne,bne_eq_false_iff_eq,ne_eq,qam,not_true_eq_false]at hc;done)
   | (intro hc;exfalso;(first|simp only[decide_eq_true_eq,decide_eq_false_iff_not,beq_iff_eq,beq_eq_false_iff_ne,bne_iff_ne,bne_eq_false_iff_eq,ne_eq,qam,not_true_eq_false]at hc|skip);first|omega|(simp only[qaf,qac]at *;omega))
   | intro hc
   | (apply TO.pick;(iterate 3 exact rfl))
   | (apply TO.pass;exact rfl;exact rfl)
   | (apply TO.zbP;exact rfl)
   | (apply TO.load zaa;(iterate 5 exact rfl))
   | (apply TO.zaD zaa;(iterate 6 exact rfl))
   | (apply TO.fieldAddr zaa;(iterate 5 exact rfl);decide;exact rfl)
   | (apply TO.zaj zaa;(iterate 5 exact rfl);decide;exact rfl)
   | (apply TO.nilCheck;(iterate 3 exact rfl))
   | (apply TO.zaw zaa;(iterate 5 exact rfl);assumption)
   | (apply TO.zau zaa;(iterate 5 exact rfl);decide;exact rfl)
   | (apply TO.zaT zaa;(iterate 4 exact rfl))
   | (apply TO.zba zaa;(iterate 7 exact rfl))
   | refine zqg ?_
   | (apply TO.extract;(iterate 3 exact rfl))
   | (apply TO.zcC [0,1] (v':=.tup []) (H':=bld1 l) hC;(iterate 3 exact rfl);exact⟨Le.refl _,trivial⟩;exact rfl;exact Hands.two (by decide) rfl rfl rfl rfl;exact rfl;exact rfl)
   | (apply TO.zla zaa;(iterate 12 exact rfl);omega;exact rfl)
   | refine TO.nil ?_
   | refine TR.seq ?_
   | refine TR.region ?_
   | (apply TR.zbO;exact rfl)
   | (apply TR.zbN;exact rfl)
   | refine Then.normal ?_
   | refine TR.block ?_
   | refine TR.skip ?_
   | (apply TR.zaU hmix;kernel_rfl;exact rfl)
   | refine TR.exit ?_
   | refine TR.ret ?_
   | refine Then.exit ?_
   | refine Then.ret ?_
   | refine zac.exit ?_
   | refine zac.ret ?_
   | refine zab.normal ?_
   | refine zab.ret ?_
   | (apply zab.same;exact rfl)
   | (apply zab.other;exact rfl)
   | (apply TO.zaI;(iterate 3 exact rfl);omega;omega)
   | (apply TO.mul64;(iterate 3 exact rfl);omega;omega)
   | (apply TO.convert_u8;exact rfl;kernel_rfl;kernel_rfl;exact rfl)
   | (apply TO.bin;(iterate 4 exact rfl))
   | (apply TO.zbb zaa;(iterate 6 exact rfl);omega;omega)
   | (apply TO.zaB zaa;(iterate 5 exact rfl);omega)
   | (apply TO.zaE zaa;(iterate 5 exact rfl);omega)
   | (apply TO.not;exact rfl;exact rfl)
   | (apply TO.zan;exact rfl;exact rfl)
   | (apply TO.zaH zaa;(iterate 4 exact rfl);exact leB)
   | (apply TO.zak zaa;(iterate 5 exact rfl);exact leB)
   | (apply TO.za9 zaa;(iterate 4 exact rfl))
   | (apply TO.za6 zaa;(iterate 7 exact rfl))
   | (apply TO.build zaa;(iterate 6 exact rfl))
   | refine zqp ?_
   | refine zqo ?_
   | refine zqe ?_
   | refine zqk ?_
   | refine zqb ?_
   | (apply TO.eqb;(iterate 3 exact rfl);kernel_rfl)
   | (apply TO.neb;(iterate 3 exact rfl);kernel_rfl)
   | (apply TO.zay (j:=0) zaa;(iterate 10 exact rfl))
   | (apply TO.makeFunc;exact rfl;exact rfl)
   | (apply TO.zah zaa;(iterate 5 exact rfl);decide;exact rfl)
   | (apply TO.zar zaa;(iterate 5 exact rfl))
   | (apply TO.zaq zaa;(iterate 4 exact rfl))
   | (apply TO.ne_nil_ptr zaa;(iterate 5 exact rfl))
   | (apply TO.ne_nil_nil zaa;(iterate 4 exact rfl))
   | refine zqj ?_
   | refine zql ?_
   | (apply TO.ssl_hi zaa;(iterate 8 exact rfl);omega))
  exact RetK.keep 2 rfl (Le.refl _) rfl rfl rfl rfl rfl ⟨rfl,rfl⟩
end Go.Proofs.YtpfnfpaahefdaaaGreat
