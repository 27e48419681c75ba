import Derived.Test.YtpfnfpaahefdaaaGreatPk27
set_option linter.all false
namespace Go.Proofs.YtpfnfpaahefdaaaGreat
open Go Go.TL
attribute [local irreducible] TR TO Then zac RetK Sound zaf Kf GG zaY
theorem ziM(q:Equ):equT q= .ag [.sl 1 (q.left.map T.s),T.n q.right.kind,T.n q.right.op,T.n q.right.t,T.n q.right.v,.s q.right.name,.sl 6 (q.right.args.map exT)]:=rfl
abbrev noA:Auto:=.mk []
def zpJ(l:List Tok)(n:Int)(es:List En)(d:Nat)(au:Nat->PR Auto):Prop:=∀j,(rdr l es).isAt j [97,117,116,111,109,97,116,111,110]=true->RdS l n es 88 [.i d] (j+1) (au (j+1)) (.t (zaP ((au (j+1)).vl noA)))/\InR l.length (j+1) (au (j+1))
set_option maxHeartbeats 16000000 in
theorem zgn (l:List Tok) (n:Int) (es:List En) (i:Nat) (hk:TkOk l) (hes:EsOk es) (hi:i≤l.length) (d:Nat) (hd:d≤3) (au:Nat->PR Auto) (hau:d<3->zpJ l n es d au):RdS l n es 69 [.i d] i ((rdr l es).body (rdr l es).expr au (decide (3≤d)) ((rdr l es).K.length+1) [] [] i) (.tup [.t (.sl 7 ((((rdr l es).body (rdr l es).expr au (decide (3≤d)) ((rdr l es).K.length+1) [] [] i).vl ([],[])).1.map equT)),.t (.sl 1 ((((rdr l es).body (rdr l es).expr au (decide (3≤d)) ((rdr l es).K.length+1) [] [] i).vl ([],[])).2.map zaP))]):=by
 have hl:=hk.len
 generalize hr:(rdr l es).body (rdr l es).expr au (decide (3≤d)) ((rdr l es).K.length+1) [] [] i=r
 refine Sound.err rfl (fun _=>rfl) ?_
 refine so Tryz.func69 ?_
 repeat' (first|refine wkb ?_|fail)
 refine TR.tail 7 6 rfl ?_
 refine TR.tail 1 7 rfl ?_
 refine TR.za3 (ι:=Nat×Nat×List Equ×List Auto) (fun x=>i≤x.2.1/\x.2.1≤l.length/\l.length-x.2.1<x.1/\x.2.2.1.length≤x.2.1/\x.2.2.2.length≤x.2.1/\(rdr l es).body (rdr l es).expr au (decide (3≤d)) x.1 x.2.2.1 x.2.2.2 x.2.1=r) (fun x=>l.length-x.2.1) (fun x=>[(0,.ref 0 0),(1,.i d),(6,.sl 7 (x.2.2.1.map equT) 1),(7,.sl 1 (x.2.2.2.map zaP) 2)]) (fun x=>[rdB l n es x.2.1,.tail (x.2.2.1.map equT).length,.tail (x.2.2.2.map zaP).length]) ((rdr l es).K.length+1,i,[],[])
  ⟨by show i≤i;omega,hi,by rw[zae];show l.length-i<l.length+1;omega,by show 0≤i;omega,by show 0≤i;omega,hr⟩ ⟨rfl,rfl,rfl,rfl,trivial⟩ rfl ?_
 clear hr
 rintro⟨m,j,xs,as'⟩ ⟨q1,q2,q3,q4,q5,hr⟩
 replace q1:i≤j:=q1
 replace q2:j≤l.length:=q2
 replace q3:l.length-j<m:=q3
 replace q4:xs.length≤j:=q4
 replace q5:as'.length≤j:=q5
 replace hr:(rdr l es).body (rdr l es).expr au (decide (3≤d)) m xs as' j=r:=hr
 have hml:(xs.map equT).length=xs.length:=qad _
 have hma:(as'.map zaP).length=as'.length:=qad _
 cases m with
 | zero=>exfalso;omega
 | succ m=>
 rw[Rd.body]at hr
 have t1:=zaF l n es j [97,117,116,111,109,97,116,111,110] hl
 cases h1:(rdr l es).isAt j [97,117,116,111,109,97,116,111,110] with
 | true=>
   have hlth1:=zaj h1
   rw[zae]at hlth1
   rw[h1]at t1
   rw[if_pos h1]at hr
   by_cases hdd:3≤d
   ·have hd3:d=3:=by omega
    have m3:=za7 l n es j j 3 (by decide) hl
    have hc0:(3:Int)≠0:=by decide
    rw[if_pos (by simpa using hdd)]at hr
    refine wk ?_
    repeat' (first|refine wkt ?_|refine zql ?_|refine wd t1 ?_|refine we m3 ?_ ?_|exact wkc|intro hc|refine wk2 ?_ ?_|fail)
    repeat' (first|refine zaf.panic ?_|refine wk ?_|fail)
    exact rdP hr.symm hc0
   ·rw[if_neg (by simpa using hdd)]at hr
    refine wk ?_
    repeat' (first|refine wkt ?_|refine zql ?_|refine wd t1 ?_|exact wkc|intro hc|refine wk2 ?_ ?_|fail)
    obtain⟨m3,m3i⟩:=limC l n es j (as'.map zaP).length as'.length 8 hl q2 hma
    cases qm3:limR as'.length 8 j with
    | er ke c=>
      rw[qm3]at m3 m3i hr
      have hc0:=m3i.2
      replace m3:=m3.er
      try simp only[PR.vl]at m3
      simp only[PR.bind]at hr
      repeat' (first|refine wkt ?_|refine zql ?_|refine we m3 ?_ ?_|exact wkc|intro hc|refine wk2 ?_ ?_|fail)
      repeat' (first|refine zaf.panic ?_|refine wk ?_|fail)
      exact rdP hr.symm hc0
    | ok u3 j3=>
    rw[qm3]at m3 m3i hr
    obtain⟨m3a,m3b⟩:=m3i
    replace m3:=m3.ok
    try simp only[PR.vl]at m3
    simp only[PR.bind]at hr
    obtain⟨hlt4,rfl⟩:=za6 qm3
    repeat' (first|refine wkt ?_|refine zql ?_|refine we m3 ?_ ?_|exact wkc|intro hc|refine wk2 ?_ ?_|fail)
    obtain⟨m4,m4i⟩:=hau (by omega) j3 h1
    cases qm4:au (j3+1) with
    | er ke c=>
      rw[qm4]at m4 m4i hr
      have hc0:=m4i.2
      replace m4:=m4.er
      try simp only[PR.vl]at m4
      simp only[PR.bind]at hr
      repeat' (first|refine wkt ?_|refine zql ?_|refine we m4 ?_ ?_|exact wkc|intro hc|refine wk2 ?_ ?_|fail)
      repeat' (first|refine zaf.panic ?_|refine wk ?_|fail)
      exact rdP hr.symm hc0
    | ok a k=>
    rw[qm4]at m4 m4i hr
    obtain⟨m4a,m4b⟩:=m4i
    replace m4:=m4.ok
    try simp only[PR.vl]at m4
    simp only[PR.bind]at hr
    rw[zdK a]at m4
    repeat' (first|refine wkt ?_|refine zql ?_|refine zqb ?_|refine we m4 ?_ ?_|exact wkc|intro hc|refine wk2 ?_ ?_|fail)
    refine zaf.next (m,k,xs,as'++[a]) ⟨?_,m4b,?_,?_,?_,hr⟩ ?_ ⟨rfl,rfl,rfl,?_,trivial⟩ ?_
    ·show i≤k;omega
    ·show l.length-k<m;omega
    ·show xs.length≤k;omega
    ·show(as'++[a]).length≤k;rw[qal];simp only[qac,qai];omega
    ·show l.length-k<l.length-j3;omega
    ·show _=some (SV.sl 1 ((as'++[a]).map zaP) 2);rw[qav,qag,qas,zdK a];rfl
    ·show _=[rdB l n es k,.tail (xs.map equT).length,.tail ((as'++[a]).map zaP).length];rw[qav,qag,qas,qal];rfl
 | false=>
 rw[h1]at t1
 rw[if_neg (by rw[h1];decide)]at hr
 have t2:=zay l n es j 1 hl
 have t3:=zaF l n es j [40] hl
 cases h2:(rdr l es).kind j 1 with
 | true=>
   rw[h2]at t2
   have hor:((rdr l es).kind j 1 || (rdr l es).isAt j [40])=true:=by rw[h2];rfl
   rw[if_pos hor]at hr
   refine wk ?_
   repeat' (first|refine wkt ?_|refine zql ?_|refine wd t1 ?_|refine wd t2 ?_|refine wd t3 ?_|exact wkc|intro hc|refine wk2 ?_ ?_|fail)
   obtain⟨m3,m3i⟩:=limC l n es j (xs.map equT).length xs.length 256 hl q2 hml
   cases qm3:limR xs.length 256 j with
   | er ke c=>
     rw[qm3]at m3 m3i hr
     have hc0:=m3i.2
     replace m3:=m3.er
     try simp only[PR.vl]at m3
     simp only[PR.bind]at hr
     repeat' (first|refine wkt ?_|refine zql ?_|refine we m3 ?_ ?_|exact wkc|intro hc|refine wk2 ?_ ?_|fail)
     repeat' (first|refine zaf.panic ?_|refine wk ?_|fail)
     exact rdP hr.symm hc0
   | ok u3 j3=>
   rw[qm3]at m3 m3i hr
   obtain⟨m3a,m3b⟩:=m3i
   replace m3:=m3.ok
   try simp only[PR.vl]at m3
   simp only[PR.bind]at hr
   obtain⟨hlt4,rfl⟩:=za6 qm3
   repeat' (first|refine wkt ?_|refine zql ?_|refine we m3 ?_ ?_|exact wkc|intro hc|refine wk2 ?_ ?_|fail)
   obtain⟨m4,m4i⟩:=zhL l n es j3 hk hes q2
   cases qm4:(rdr l es).equation (rdr l es).expr j3 with
   | er ke c=>
     rw[qm4]at m4 m4i hr
     have hc0:=m4i.2
     replace m4:=m4.er
     try simp only[PR.vl]at m4
     simp only[PR.bind]at hr
     repeat' (first|refine wkt ?_|refine zql ?_|refine we m4 ?_ ?_|exact wkc|intro hc|refine wk2 ?_ ?_|fail)
     repeat' (first|refine zaf.panic ?_|refine wk ?_|fail)
     exact rdP hr.symm hc0
   | ok e k=>
   rw[qm4]at m4 m4i hr
   obtain⟨m4a,m4b⟩:=m4i
   replace m4:=m4.ok
   try simp only[PR.vl]at m4
   simp only[PR.bind]at hr
   rw[ziM e]at m4
   repeat' (first|refine wkt ?_|refine zql ?_|refine zqb ?_|refine we m4 ?_ ?_|exact wkc|intro hc|refine wk2 ?_ ?_|fail)
   refine zaf.next (m,k,xs++[e],as') ⟨?_,m4b,?_,?_,?_,hr⟩ ?_ ⟨rfl,rfl,?_,rfl,trivial⟩ ?_
   ·show i≤k;omega
   ·show l.length-k<m;omega
   ·exact zwdt
   ·show as'.length≤k;omega
   ·show l.length-k<l.length-j3;omega
   ·exact zwdf
   ·exact zwch
 | false=>
 rw[h2]at t2
 cases h3:(rdr l es).isAt j [40] with
 | true=>
   rw[h3]at t3
   have hor:((rdr l es).kind j 1 || (rdr l es).isAt j [40])=true:=by rw[h2,h3];rfl
   rw[if_pos hor]at hr
   refine wk ?_
   repeat' (first|refine wkt ?_|refine zql ?_|refine wd t1 ?_|refine wd t2 ?_|refine wd t3 ?_|exact wkc|intro hc|refine wk2 ?_ ?_|fail)
   obtain⟨m3,m3i⟩:=limC l n es j (xs.map equT).length xs.length 256 hl q2 hml
   cases qm3:limR xs.length 256 j with
   | er ke c=>
     rw[qm3]at m3 m3i hr
     have hc0:=m3i.2
     replace m3:=m3.er
     try simp only[PR.vl]at m3
     simp only[PR.bind]at hr
     repeat' (first|refine wkt ?_|refine zql ?_|refine we m3 ?_ ?_|exact wkc|intro hc|refine wk2 ?_ ?_|fail)
     repeat' (first|refine zaf.panic ?_|refine wk ?_|fail)
     exact rdP hr.symm hc0
   | ok u3 j3=>
   rw[qm3]at m3 m3i hr
   obtain⟨m3a,m3b⟩:=m3i
   replace m3:=m3.ok
   try simp only[PR.vl]at m3
   simp only[PR.bind]at hr
   obtain⟨hlt4,rfl⟩:=za6 qm3
   repeat' (first|refine wkt ?_|refine zql ?_|refine we m3 ?_ ?_|exact wkc|intro hc|refine wk2 ?_ ?_|fail)
   obtain⟨m4,m4i⟩:=zhL l n es j3 hk hes q2
   cases qm4:(rdr l es).equation (rdr l es).expr j3 with
   | er ke c=>
     rw[qm4]at m4 m4i hr
     have hc0:=m4i.2
     replace m4:=m4.er
     try simp only[PR.vl]at m4
     simp only[PR.bind]at hr
     repeat' (first|refine wkt ?_|refine zql ?_|refine we m4 ?_ ?_|exact wkc|intro hc|refine wk2 ?_ ?_|fail)
     repeat' (first|refine zaf.panic ?_|refine wk ?_|fail)
     exact rdP hr.symm hc0
   | ok e k=>
   rw[qm4]at m4 m4i hr
   obtain⟨m4a,m4b⟩:=m4i
   replace m4:=m4.ok
   try simp only[PR.vl]at m4
   simp only[PR.bind]at hr
   rw[ziM e]at m4
   repeat' (first|refine wkt ?_|refine zql ?_|refine zqb ?_|refine we m4 ?_ ?_|exact wkc|intro hc|refine wk2 ?_ ?_|fail)
   refine zaf.next (m,k,xs++[e],as') ⟨?_,m4b,?_,?_,?_,hr⟩ ?_ ⟨rfl,rfl,?_,rfl,trivial⟩ ?_
   ·show i≤k;omega
   ·show l.length-k<m;omega
   ·exact zwdt
   ·show as'.length≤k;omega
   ·show l.length-k<l.length-j3;omega
   ·exact zwdf
   ·exact zwch
 | false=>
 rw[h3]at t3
 rw[if_neg (by rw[h2,h3];decide)]at hr
 subst hr
 refine wk ?_
 repeat' (first|refine wkt ?_|refine zql ?_|refine wd t1 ?_|refine wd t2 ?_|refine wd t3 ?_|refine zaf.ret ?_|exact wkc|intro hc|refine wk2 ?_ ?_|fail)
 apply rdV rfl
 ·exact rfl
 ·rw[vlE]
  exact Le.tup ⟨Le.own _ _ _,Le.own _ _ _,trivial⟩
 all_goals exact rfl
end Go.Proofs.YtpfnfpaahefdaaaGreat
namespace Go.Proofs.YtpfnfpaahefdaaaGreat
open Go Go.TL
attribute [local irreducible] TR TO Then zac RetK Sound zaf Kf GG zaY
section rules
variable {P:Program}{n:Nat}{env:Env}{H:Heap}{K:TK}{all:Array Oper}{rest:List Oper}{d:Nat}{ty:TypeId}{pos:String}{aft:Array Edge}
theorem TO.ziC{cargs:List SV}{a b:Int}{cs:List SV}{f:Operand}{fid:FuncId}{caps:List SV}{args:Array Operand}{ts:Array TypeId}{vs:List SV}
  (hs:Sound P fid cargs [] fun r H'=>r= .ret (.tup [.ref 0 0,.i a,.i b])/\H'=[.cells cs])(hd:Nat.ble (d+1) n=true)
  (hf:env.val f=some (.fn fid caps))(ha:env.vals args.toList=some vs)(hl:Les (vs++caps) cargs)(hu:unders 0 cargs=true)(hcs:unders 0 cs=true)
  (k:TO false P n all rest ((d,.tup [.ref H.length 0,.i a,.i b])::env) (H++[.cells cs]) K):
  TO false P n all (⟨some d,.call { callee:=.value f,args:=args,argTypes:=ts },ty,pos,aft,none⟩::rest) env H K:=
 TO.zdu [] hs hd hf ha (by rw[zbp (N:=0) (fun j hj=>by omega) _ hu];exact hl) hu (zgv H) (by simp[SV.ren,rens,names]) (by
  simp only[patch,qag,qas,Blk.ren,zgQ _ hcs]) k
end rules
theorem zfu(a c:Int)(x0 x1 x2 x3 x4 x5 b d:SV)(Hr:Heap)(hb:zab (Hr.length+3) Hr=true):
  zbX Tryz.prog 33 [.ref 0 0,.ref 1 0,.ref 2 0] (.cells [x0,x1,x2,x3,x4,x5]:: .cells [b]:: .cells [d]::Hr) (some (.ifc 98 (.t (.ag [T.i a,T.i c])))) (fun H3=>H3=exZ:: .cells [.i a]:: .cells [.i c]::Hr):=by
 have hc:=zeO a c
 refine zbX.of (tab:=tab) Tryz.func33 (by kernel_rfl) rfl rfl rfl rfl ?_
 repeat' (first|refine wkb ?_|(apply TO.zgx;exact rfl;exact rfl;kernel_rfl)|refine Then.normal ?_|refine wv hc ?_|fail)
 have ht:(exZ::Blk.cells [.i a]::Blk.cells [.i c]::Hr).take (Blk.cells [x0,x1,x2,x3,x4,x5]::Blk.cells [b]::Blk.cells [d]::Hr).length=exZ::Blk.cells [.i a]::Blk.cells [.i c]::Hr:=by simp
 refine⟨qae _,?_,ht⟩
 show zab _ (List.take _ (exZ::Blk.cells [.i a]::Blk.cells [.i c]::Hr))=true
 rw[ht]
 exact hb
theorem zft(H:Heap)(hb:zab H.length H=true):
  zbX Tryz.prog 33 [.ref 0 0,.ref 1 0,.ref 2 0] H none (fun H3=>H3=H):=by
 refine zbX.of (tab:=tab) Tryz.func33 (by kernel_rfl) rfl rfl rfl rfl ?_
 repeat' (first|refine wkb ?_|(apply TO.zfP;exact rfl;exact rfl;kernel_rfl)|refine Then.normal ?_|fail)
 exact⟨qae _,by rw[qaE (qae _)];exact hb,qaE (qae _)⟩
theorem we4{G Q1 Q2:Prop}{f:FuncId}{cargs:List SV}{v pv:SV}{c:Int}{Hc H1:Heap}(hs:Sound Tryz.prog f cargs Hc (Err c v pv H1))(k1:Q1)(k2:Q2)(h:Sound Tryz.prog f cargs Hc (Err c v pv H1)->Hold Q1->Hold Q2->G:=by
  intro hs k1 k2
  (apply TO.zo7 [3] hs;(iterate 3 exact rfl);exact zqa;exact rfl;exact Hands.one rfl rfl;(iterate 4 exact rfl);exact k1.p;exact k2.p)):G:=h hs ⟨k1⟩ ⟨k2⟩
def zdP(es:List En)(s:Str):Ex×Int×Int:=
 if(scan s).2.2≠0 then(noE,(scan s).2.1,(scan s).2.2) else
 match (rdr (scan s).1 es).expr 0 with
 | .er k c=>(noE,placeOf (scan s).1 s.length k,c)
 | .ok e j=>if j<(scan s).1.length then(noE,placeOf (scan s).1 s.length j,5) else if zca es e=0 then(e,0,0) else(noE,0,zca es e)
theorem noET:exT noE= .ag [T.i 0,T.i 0,T.i 0,T.i 0,T.s [],T.sl 6 []]:=by
 unfold noE
 rw[zbv _ _ _ _ _ _ rfl rfl rfl rfl]
 rfl
theorem zmo{P:Program}{n:Nat}{c:Code}{K KD:TK}{gf:FuncId}{cv:List SV}{env:Env}{H:Heap}(h:K .ret env H):zkc P n c K gf cv KD .ret env H:=h
theorem zaw{P:Program}{n:Nat}{c:Code}{K KD:TK}{gf:FuncId}{cv:List SV}{env:Env}{H:Heap}(h:TD P n c env H K gf cv KD):zkc P n c K gf cv KD .normal env H:=h
attribute [local irreducible] TD zkc
set_option maxHeartbeats 4000000 in
theorem ziN (es:List En) (s:Str) (hb:s.length≤1000000) (hk:TkOk (scan s).1) (hes:EsOk es) (hw:∀e j,(rdr (scan s).1 es).expr 0= .ok e j->wEx e≤1000000000):
  Pure Tryz.prog 12 [.t (ensT es),.s s] (.tup [.t (exT (zdP es s).1),.i (zdP es s).2.1,.i (zdP es s).2.2]):=by
 have hz:zdP es s=zdP es s:=rfl
 conv at hz=>rhs;unfold zdP
 generalize zdP es s=z at hz⊢
 by_cases hs:(scan s).2.2≠0
 ·have h1:=zjq s es hs
  rw[if_pos hs]at hz
  subst hz
  try simp only[noET]
  refine Sound.zcW zaa Tryz.func12 (by kernel_rfl) rfl rfl (gf:=33) (cv:=[.ref 0 0,.ref 1 0,.ref 2 0]) ?_
  refine TD.seq ?_
  repeat' (first|refine wkb ?_|refine wk ?_|fail)
  refine zaw ?_
  refine TD.seq ?_
  repeat' (first|refine wkb ?_|refine wv h1 ?_|refine wk ?_|exact wkc|intro hc|refine wk2 ?_ ?_|fail)
  refine zaw ?_
  refine TD.seq ?_
  repeat' (first|refine wkb ?_|exact wkc|intro hc|refine wk2 ?_ ?_|fail)
  refine rgX 0 (g:=True) [(.t (.ag [T.i 0,T.i 0,T.i 0,T.i 0,T.s [],.v (.slice none 0 0)]),0,0),(.i (scan s).2.1,0,1),(.i (scan s).2.2,0,2),(.any,1,0),(.any,1,0),(.any,1,0)] [[exZ,.cells [.i (scan s).2.1],.cells [.i (scan s).2.2]],[exZ,.cells [.i (scan s).2.1],.cells [.i (scan s).2.2]],[exZ,.cells [.i (scan s).2.1],.cells [.i (scan s).2.2]],[exZ,.cells [.i (scan s).2.1],.cells [.i (scan s).2.2]]] ?_ (fun _=>?_)
  ·repeat' (first|refine wkt ?_|exact trivial|exact⟨⟨rfl,rfl⟩,trivial⟩|refine qak (fun env=>?_) ?_|refine qak ?_ ?_|refine wk ?_|exact wkc|intro hc|refine wk2 ?_ ?_|fail)
   done
  ·repeat' (first|refine wkb ?_|fail)
   refine zmo ?_
   exact wkr
 have h1:=zmO s es (by simpa using hs) hb
 rw[if_neg hs]at hz
 clear hs
 generalize (scan s).1=l at*
 obtain⟨hx,hin⟩:=zfC l s.length es hk hes 0 (qaT _)
 cases hq:(rdr l es).expr 0 with
 | er k c=>
   rw[hq]at hx hin hz
   have hc0:=hin.2
   replace hx:=hx.er
   simp only[PR.vl]at hx
   simp only at hz
   subst hz
   try simp only[noET]
   refine Sound.zcW zaa Tryz.func12 (by kernel_rfl) rfl rfl (gf:=33) (cv:=[.ref 0 0,.ref 1 0,.ref 2 0]) ?_
   refine TD.seq ?_
   repeat' (first|refine wkb ?_|refine wk ?_|fail)
   refine zaw ?_
   refine TD.seq ?_
   refine wk ?_
   repeat' (first|refine wkb ?_|(apply TO.ziC h1;(iterate 3 exact rfl);exact⟨Le.refl _,Le.refl _,trivial⟩;exact rfl;exact rfl)|refine wk ?_|exact wkc|intro hc|refine wk2 ?_ ?_|fail)
   refine zaw ?_
   refine TD.seq ?_
   repeat' (first|refine wkb ?_|refine wk ?_|exact wkc|intro hc|refine wk2 ?_ ?_|fail)
   refine zaw ?_
   refine TD.defer (tz:=0) rfl rfl ?_
   repeat' (first|refine wkb ?_|refine wk ?_|refine we4 hx ?_ ?_|exact wkc|intro hc|refine wk2 ?_ ?_|fail)
   exact⟨_,zfu _ _ _ _ _ _ _ _ _ _ _ rfl,fun H3 h=>by subst h;exact wkr⟩
 | ok e j=>
   have hwe:=hw e j hq
   rw[hq]at hx hin hz
   obtain⟨_,hj⟩:=hin
   replace hx:=hx.ok
   simp only[PR.vl]at hx
   simp only at hz
   have hfi:=zeS l s.length es j hk.len hj
   by_cases hlt:j<l.length
   ·rw[if_pos hlt]at hz hfi
    subst hz
    try simp only[noET]
    replace hfi:=hfi.er
    rw[zal e]at hx
    unfold exC at hx
    refine Sound.zcW zaa Tryz.func12 (by kernel_rfl) rfl rfl (gf:=33) (cv:=[.ref 0 0,.ref 1 0,.ref 2 0]) ?_
    refine TD.seq ?_
    repeat' (first|refine wkb ?_|refine wk ?_|fail)
    refine zaw ?_
    refine TD.seq ?_
    refine wk ?_
    repeat' (first|refine wkb ?_|(apply TO.ziC h1;(iterate 3 exact rfl);exact⟨Le.refl _,Le.refl _,trivial⟩;exact rfl;exact rfl)|refine wk ?_|exact wkc|intro hc|refine wk2 ?_ ?_|fail)
    refine zaw ?_
    refine TD.seq ?_
    repeat' (first|refine wkb ?_|refine wk ?_|exact wkc|intro hc|refine wk2 ?_ ?_|fail)
    refine zaw ?_
    refine TD.defer (tz:=0) rfl rfl ?_
    repeat' (first|refine wkb ?_|refine wk ?_|refine we4 hx ?_ ?_|refine we4 hfi ?_ ?_|exact wkc|intro hc|refine wk2 ?_ ?_|fail)
    exact⟨_,zfu _ _ _ _ _ _ _ _ _ _ _ rfl,fun H3 h=>by subst h;exact wkr⟩
   ·rw[if_neg hlt]at hz hfi
    replace hfi:=hfi.ok
    have hsh:=zcy es e hwe
    generalize zca es e=x at*
    rw[zal e]at hx hsh
    unfold exC at hx hsh
    by_cases hx0:x=0
    ·rw[if_pos hx0]at hz
     subst hx0
     subst hz
     try simp only[noET]
     try simp only
     rw[zal e]
     unfold exC
     refine Sound.zcW zaa Tryz.func12 (by kernel_rfl) rfl rfl (gf:=33) (cv:=[.ref 0 0,.ref 1 0,.ref 2 0]) ?_
     refine TD.seq ?_
     repeat' (first|refine wkb ?_|refine wk ?_|fail)
     refine zaw ?_
     refine TD.seq ?_
     refine wk ?_
     repeat' (first|refine wkb ?_|(apply TO.ziC h1;(iterate 3 exact rfl);exact⟨Le.refl _,Le.refl _,trivial⟩;exact rfl;exact rfl)|refine wk ?_|exact wkc|intro hc|refine wk2 ?_ ?_|fail)
     refine zaw ?_
     refine TD.seq ?_
     repeat' (first|refine wkb ?_|refine wk ?_|exact wkc|intro hc|refine wk2 ?_ ?_|fail)
     refine zaw ?_
     refine TD.defer (tz:=0) rfl rfl ?_
     repeat' (first|refine wkb ?_|refine wk ?_|refine we4 hx ?_ ?_|refine we4 hfi ?_ ?_|refine wv hsh ?_|exact wkc|intro hc|refine wk2 ?_ ?_|fail)
     exact⟨_,zft _ rfl,fun H3 h=>by subst h;exact wkr⟩
    ·rw[if_neg hx0]at hz
     subst hz
     try simp only[noET]
     refine Sound.zcW zaa Tryz.func12 (by kernel_rfl) rfl rfl (gf:=33) (cv:=[.ref 0 0,.ref 1 0,.ref 2 0]) ?_
     refine TD.seq ?_
     repeat' (first|refine wkb ?_|refine wk ?_|fail)
     refine zaw ?_
     refine TD.seq ?_
     refine wk ?_
     repeat' (first|refine wkb ?_|(apply TO.ziC h1;(iterate 3 exact rfl);exact⟨Le.refl _,Le.refl _,trivial⟩;exact rfl;exact rfl)|refine wk ?_|exact wkc|intro hc|refine wk2 ?_ ?_|fail)
     refine zaw ?_
     refine TD.seq ?_
     repeat' (first|refine wkb ?_|refine wk ?_|exact wkc|intro hc|refine wk2 ?_ ?_|fail)
     refine zaw ?_
     refine TD.defer (tz:=0) rfl rfl ?_
     repeat' (first|refine wkb ?_|refine wk ?_|refine we4 hx ?_ ?_|refine we4 hfi ?_ ?_|refine wv hsh ?_|exact wkc|intro hc|refine wk2 ?_ ?_|fail)
     exact⟨_,zft _ rfl,fun H3 h=>by subst h;exact wkr⟩
end Go.Proofs.YtpfnfpaahefdaaaGreat
namespace Go.Proofs.YtpfnfpaahefdaaaGreat
open Go Go.TL
attribute [local irreducible] TR TO Then zac RetK Sound zaf Kf GG zaY
theorem zfh(p:Int->Bool):∀(l:Str),∀c∈zaq p l,p c.toNat=true
 | [],c,h=>by cases h
 | x::l,c,h=>by
   unfold zaq at h
   split at h
   ·rcases qbb.1 h with rfl|h
    ·assumption
    ·exact zfh p l c h
   ·cases h
end Go.Proofs.YtpfnfpaahefdaaaGreat
namespace Go.Proofs.YtpfnfpaahefdaaaGreat
open Go Go.TL
theorem zor(c x:UInt8)(r:Str):zbh (c::r) [x]=(c == x):=by simp[zbh]
theorem zlJ(c d x y:UInt8)(r:Str):zbh (c::d::r) [x,y]=(c == x && d == y):=by simp[zbh]
theorem zm5(c x y:UInt8):zbh [c] [x,y]=false:=by simp[zbh]
theorem zle{p:Int->Bool}{c:UInt8}{r:Str}(h:p c.toNat=false):behind p (c::r)=c::r:=by simp[behind,zaq,h]
theorem zeu{c:UInt8}{r:Str}(h:blank c.toNat=false)(h2:zbh (c::r) [45,45]=false):skipped (c::r)=c::r:=by
 rw[zc9 (c::r),zle h,if_neg (by simp[h2])]
end Go.Proofs.YtpfnfpaahefdaaaGreat
namespace Go.Proofs.YtpfnfpaahefdaaaGreat
open Go Go.TL
attribute [local irreducible] TR TO Then zac RetK Sound zaf Kf GG zaY
def zaK(t:Tok):Str:=if(t.1 == 5)=true then[39]++t.2.1++[39] else t.2.1
end Go.Proofs.YtpfnfpaahefdaaaGreat
namespace Go.Proofs.YtpfnfpaahefdaaaGreat
open Go Go.TL
def zao(s:Str)(i:Nat):Nat:=s.length-(skipped (s.drop i)).length
theorem zh6{s:Str}{i:Nat}(hi:i≤s.length):i≤zao s i/\zao s i≤s.length:=by
 have h:=zfY (s.drop i)
 rw[qaM]at h
 unfold zao;omega
theorem zbe(n:Nat)(s:Str)(i:Nat)(out:List Tok):zct (n+1) s i out=
  (if zao s i=s.length then(out,0,0)
   else if((zah (s.drop (zao s i))).1.2.2 != 0)=true then([],(zao s i:Int),(zah (s.drop (zao s i))).1.2.2)
   else zct n s (zao s i+(zah (s.drop (zao s i))).2) (out++[((zah (s.drop (zao s i))).1.1,(zah (s.drop (zao s i))).1.2.1,(zao s i:Int))])):=rfl
theorem zdD{s:Str}{i:Nat}(hi:i≤s.length)(h1:zao s i≠s.length)(h2:((zah (s.drop (zao s i))).1.2.2 != 0)=false):
  i<zao s i+(zah (s.drop (zao s i))).2/\zao s i+(zah (s.drop (zao s i))).2≤s.length:=by
 obtain⟨g1,g2⟩:=zh6 hi
 have hl:=zf7 (l:=s.drop (zao s i)) (by simp;omega) h2
 rw[qaM]at hl
 omega
theorem zmb(s:Str):∀(n i:Nat) (out:List Tok),s.length-i<n->i≤s.length->
  zct n s i out=(if(zct n s i []).2.2=0 then(out++(zct n s i []).1,(zct n s i []).2.1,0) else zct n s i []):=by
 intro n
 induction n with
 | zero=>intro i out h;omega
 | succ n ih=>
   intro i out hn hi
   by_cases h1:zao s i=s.length
   ·rw[zbe,zbe,if_pos h1,if_pos h1];simp
   ·cases h2:((zah (s.drop (zao s i))).1.2.2 != 0) with
    | true=>
      have h3:¬(zah (s.drop (zao s i))).1.2.2=0:=by simpa using h2
      rw[zbe,zbe,if_neg h1,if_neg h1,if_pos h2,if_pos h2,if_neg h3]
    | false=>
      obtain⟨g1,g2⟩:=zdD hi h1 h2
      have e:∀out,zct (n+1) s i out=zct n s (zao s i+(zah (s.drop (zao s i))).2) (out++[((zah (s.drop (zao s i))).1.1,(zah (s.drop (zao s i))).1.2.1,(zao s i:Int))]):=fun out=>by
       rw[zbe,if_neg h1,if_neg (by rw[h2];simp)]
      rw[e,e,ih _ (out++_) (by omega) g2,ih _ ([]++_) (by omega) g2]
      by_cases h3:(zct n s (zao s i+(zah (s.drop (zao s i))).2) []).2.2=0
      ·simp[h3]
      ·simp[h3]
def toks(s:Str)(i:Nat):List Tok×Int×Int:=zct (s.length-i+1) s i []
theorem zkV(s:Str):∀(n m i:Nat) (out:List Tok),s.length-i<n->s.length-i<m->i≤s.length->zct n s i out=zct m s i out:=by
 intro n
 induction n with
 | zero=>intro m i out h;omega
 | succ n ih=>
   intro m i out hn hm hi
   obtain⟨m,rfl⟩:∃k,m=k+1:=⟨m-1,by omega⟩
   rw[zbe,zbe]
   by_cases h1:zao s i=s.length
   ·rw[if_pos h1,if_pos h1]
   ·rw[if_neg h1,if_neg h1]
    cases h2:((zah (s.drop (zao s i))).1.2.2 != 0) with
    | true=>rfl
    | false=>
      obtain⟨g1,g2⟩:=zdD hi h1 h2
      exact ih m _ _ (by omega) (by omega) g2
theorem zmc{s:Str}(h:s.length≤65536):scan s=toks s 0:=if_neg (by omega)
theorem znA{s:Str}{i:Nat}(h:zao s i=s.length):toks s i=([],0,0):=by
 rw[toks,zbe,if_pos h]
theorem znB{s:Str}{i:Nat}(h:zao s i≠s.length)(h2:((zah (s.drop (zao s i))).1.2.2 != 0)=true):toks s i=([],(zao s i:Int),(zah (s.drop (zao s i))).1.2.2):=by
 rw[toks,zbe,if_neg h,if_pos h2]
theorem zmq{s:Str}{i:Nat}(hi:i≤s.length)(h:zao s i≠s.length)(h2:((zah (s.drop (zao s i))).1.2.2 != 0)=false):
  toks s i=(if(toks s (zao s i+(zah (s.drop (zao s i))).2)).2.2=0 then
   (((zah (s.drop (zao s i))).1.1,(zah (s.drop (zao s i))).1.2.1,(zao s i:Int))::(toks s (zao s i+(zah (s.drop (zao s i))).2)).1,(toks s (zao s i+(zah (s.drop (zao s i))).2)).2.1,0)
   else toks s (zao s i+(zah (s.drop (zao s i))).2)):=by
 obtain⟨g1,g2⟩:=zdD hi h h2
 have e:toks s i=zct (s.length-i) s (zao s i+(zah (s.drop (zao s i))).2) ([]++[((zah (s.drop (zao s i))).1.1,(zah (s.drop (zao s i))).1.2.1,(zao s i:Int))]):=by
  rw[toks,zbe,if_neg h,if_neg (by rw[h2];simp)]
 have f:zct (s.length-i) s (zao s i+(zah (s.drop (zao s i))).2) []=toks s (zao s i+(zah (s.drop (zao s i))).2):=zkV s _ _ _ _ (by omega) (by omega) g2
 rw[e,zmb s _ _ _ (by omega) g2,f]
 rfl
theorem zeU{c:UInt8}(h:letter c.toNat=true):blank c.toNat=false/\c≠45/\inner c.toNat=true:=by
 refine⟨?_,?_,?_⟩
 ·cases hb:blank c.toNat with
  | false=>rfl
  | true=>
    exfalso
    simp[letter,blank]at h hb
    omega
 ·rintro rfl
  revert h;decide
 ·simp[inner,h]
end Go.Proofs.YtpfnfpaahefdaaaGreat
namespace Go.Proofs.YtpfnfpaahefdaaaGreat
open Go Go.TL
attribute [local irreducible] TR TO Then zac RetK Sound zaf Kf GG zaY
theorem zi2(s:Str):∀(n i:Nat) (out:List Tok),i≤s.length->out.length≤i->(zct n s i out).1.length≤s.length:=by
 intro n
 induction n with
 | zero=>intro i out _ _;simp[zct]
 | succ n ih=>
   intro i out hi ho
   rw[zbe]
   by_cases h1:zao s i=s.length
   ·rw[if_pos h1];simp only;omega
   ·rw[if_neg h1]
    cases h2:((zah (s.drop (zao s i))).1.2.2 != 0) with
    | true=>simp
    | false=>
      obtain⟨g1,g2⟩:=zdD hi h1 h2
      exact ih _ _ g2 (by simp;omega)
theorem zkW(s:Str):(scan s).1.length≤65536:=by
 unfold scan
 split
 ·simp
 ·have:=zi2 s (s.length+1) 0 [] (qaT _) (qae _)
  omega
end Go.Proofs.YtpfnfpaahefdaaaGreat
