import Derived.Test.YtpfnfpaahefdaaaGreatPk22
set_option linter.all false
namespace Go.Proofs.YtpfnfpaahefdaaaGreat
open Go Go.TL
attribute [local irreducible] TR TO Then zab RetK Sound zac Kf GG za2
abbrev noO:OnC:=⟨[],toI 0,toI 0⟩
abbrev noDB:Blk:=.cells [.t (.v (str [])),.t (.v (.int .i64 0)),.t (.v (.slice none 0 0))]
abbrev noD:Decl:=⟨[],toI 0,[]⟩
theorem idC(l:List Tok)(n:Int)(es:List En)(i:Nat)(hl:l.length≤1000000)(hi:i≤l.length):RdS l n es 38 [] i ((rdr l es).id i) (.s (((rdr l es).id i).vl []))/\InR l.length (i+1) ((rdr l es).id i):=by
 have h:=zea (R:=rdr l es) (i:=i) (by rw[zaf];exact hi)
 rw[zaf]at h
 exact⟨zdT l n es i hl hi,h⟩
theorem limC(l:List Tok)(n:Int)(es:List En)(i a b most:Nat)(hl:l.length≤1000000)(hi:i≤l.length)(hb:a=b):RdS l n es 37 [.i a,.i most] i (limR b most i) (.tup [])/\InR l.length i (limR b most i):=by
 subst hb
 have h:=zcO (R:=rdr l es) (n:=a) (most:=most) (i:=i) (by rw[zaf];exact hi)
 rw[zaf]at h
 exact⟨ziG l n es i a most hl,h⟩
theorem zbh{n most i j:Nat}{u:Unit}(h:limR n most i= .ok u j):n<most/\j=i:=by
 unfold limR at h
 split at h
 ·cases h
 ·cases h;exact⟨by omega,rfl⟩
theorem zpX(l:List Tok)(n:Int)(es:List En)(i:Nat)(hl:l.length≤1000000)(hi:i≤l.length)(he:EsOk es):RdS l n es 95 [] i ((rdr l es).sampling i) (.t (onT (((rdr l es).sampling i).vl noO)))/\InR l.length (i+1) ((rdr l es).sampling i):=by
 have h:=zdB (R:=rdr l es) (i:=i) (by rw[zaf];exact hi)
 rw[zaf]at h
 exact⟨zdU l n es i hl hi he noO,h⟩
theorem zhH(fid:FuncId)(caps:List SV)(hcaps:unders 0 caps=true)(p:En->Bool)(l:List En)(hl:l.length≤1000000000)(hp:∀d,Pure Tryz.prog fid (.t (enT d)::caps) (.b (p d))):
  Pure Tryz.prog 99 [.t (.sl 2 (l.map enT)),.fn fid caps] (.i (idxI p l)):=by
 have hml:(l.map enT).length=l.length:=qad _
 refine so Tryz.func99 ?_
 repeat' (first|refine wk ?_|exact wkc|intro hc|refine wk2 ?_ ?_|fail)
 refine TR.zbv l.length (fun k=>(l.take k).all (fun x=>!p x)=true) (fun k=>[(0,.t (.sl 2 (l.map enT))),(1,.fn fid caps),(7,.i l.length),(8,.i k)]) (fun _=>[]) rfl (fun k hlt ha=>?_) (fun ha=>?_) ⟨rfl,rfl,by rw[<-hml];rfl,rfl,trivial⟩
 ·have hx:=zbW enT hlt
  have htk:=zj2 hlt
  have hat:=zjC p l k hlt ha
  have hd:=hp l[k]
  generalize l[k]=d at hx htk hat hd
  have hu:unders 0 (.t (enT d)::caps)=true:=by simp[unders,SV.under,hcaps]
  repeat' (first|refine wk ?_|exact wkc|intro hc|refine wk2 ?_ ?_|(apply TO.zlf hd;(iterate 3 exact rfl);exact Les.refl _;exact hu;exact rfl)|fail)
  ·rw[hat hc];exact wkr
  ·exact zwfu
 ·exact zwcw
theorem zf3(d:En)(nm:Str):Pure Tryz.prog 100 [.t (enT d),.cp [.s nm] 0] (.b (d.name == nm)):=by
 have hd:enT d= .ag [.s d.name,.sl 1 (d.tags.map T.s)]:=rfl
 rw[hd]
 refine so Tryz.func100 ?_
 repeat' (first|refine wu ?_|exact wkc|intro hc|refine wk2 ?_ ?_|fail)
 all_goals try(refine RetK.pure rfl ?_ rfl;exact Le.of_eq (by simp_all [pack,enT] <;> omega))
theorem zg6(s:Str):∀(l:List En) (k:Nat),(idxI (fun d=>d.name == s) l= -1/\zio s k l=none)\/∃j:Nat,j<l.length/\idxI (fun d=>d.name == s) l=j/\zio s k l=some (k+j)
 | [],_=>.inl ⟨rfl,rfl⟩
 | d::l,k=>by
   unfold idxI zio
   by_cases hd:d.name=s
   ·exact zwff
   ·rw[if_neg hd,if_neg (by simpa using hd)]
    rcases zg6 s l (k+1)with ⟨h1,h2⟩|⟨j,h1,h2,h3⟩
    ·rw[h1];exact .inl ⟨rfl,h2⟩
    ·exact zweh
theorem zhB{R:Rd}:∀ {m:Nat} {a:List OnC} {i:Nat},R.isAt i [119,104,101,110]=false->R.clk m a i= .ok a i
 | 0,_,_,_=>rfl
 | m+1,a,i,h=>by rw[Rd.clk,h,if_neg (by decide)]
set_option maxHeartbeats 8000000 in
theorem zlk (l:List Tok) (n:Int) (es:List En) (i:Nat) (hk:TkOk l) (hes:EsOk es) (hi:i≤l.length):RdS l n es 87 [] i ((rdr l es).decl i) (.t (zag (((rdr l es).decl i).vl noD))):=by
 have hl:=hk.len
 have hel:=hes.len
 generalize hr:(rdr l es).decl i=r
 unfold Rd.decl at hr
 refine Sound.err rfl (fun _=>rfl) ?_
 refine so Tryz.func87 ?_
 repeat' (first|refine wkb ?_|refine zqn ?_|refine wk ?_|exact wkc|intro hc|refine wk2 ?_ ?_|fail)
 obtain⟨m1,m1i⟩:=idC l n es i hl hi
 cases qm1:(rdr l es).id i with
 | er ke c=>
   rw[qm1]at m1 m1i hr
   have hc0:=m1i.2
   replace m1:=m1.er
   try simp only[PR.vl]at m1
   simp only[PR.bind]at hr
   repeat' (first|refine wkt ?_|refine zqn ?_|refine we m1 ?_ ?_|exact wkc|intro hc|refine wk2 ?_ ?_|fail)
   repeat' (first|refine zac.panic ?_|refine wk ?_|fail)
   exact rdP hr.symm hc0
 | ok s j1=>
 rw[qm1]at m1 m1i hr
 obtain⟨m1a,m1b⟩:=m1i
 replace m1:=m1.ok
 try simp only[PR.vl]at m1
 simp only[PR.bind]at hr
 repeat' (first|refine wkb ?_|refine zqn ?_|refine we m1 ?_ ?_|refine wk ?_|exact wkc|intro hc|refine wk2 ?_ ?_|fail)
 obtain⟨m2,m2i⟩:=zbr l n es j1 [[58]] hl m1b (by decide)
 cases qm2:(rdr l es).must [[58]] j1 with
 | er ke c=>
   rw[qm2]at m2 m2i hr
   have hc0:=m2i.2
   replace m2:=m2.er
   try simp only[PR.vl]at m2
   simp only[PR.bind]at hr
   repeat' (first|refine wkt ?_|refine zqn ?_|refine we m2 ?_ ?_|exact wkc|intro hc|refine wk2 ?_ ?_|fail)
   repeat' (first|refine zac.panic ?_|refine wk ?_|fail)
   exact rdP hr.symm hc0
 | ok u2 j2=>
 rw[qm2]at m2 m2i hr
 obtain⟨m2a,m2b⟩:=m2i
 replace m2:=m2.ok
 try simp only[PR.vl]at m2
 simp only[PR.bind]at hr
 repeat' (first|refine wkt ?_|refine zqn ?_|refine we m2 ?_ ?_|exact wkc|intro hc|refine wk2 ?_ ?_|fail)
 have t1:=zal l n es j2 [98,111,111,108] hl m2b
 generalize hty:(rdr l es).typ j2=ty at hr
 unfold Rd.typ at hty
 cases h1:(rdr l es).isAt j2 [98,111,111,108] with
 | true=>
   have hlth1:=zam h1
   rw[zaf]at hlth1
   rw[h1,if_pos rfl]at t1
   rw[if_pos h1]at hty
   have htv:(toI 1).1=1:=zci (by omega)
   generalize toI 1=tv at hty htv
   subst hty
   simp only[PR.bind]at hr
   refine TO.zbM 3 2 2 rfl rfl rfl ?_
   repeat' (first|refine wkt ?_|refine zqn ?_|refine wd t1 ?_|refine wk ?_|exact wkc|intro hc|refine wk2 ?_ ?_|fail)
   refine TR.zbd (ι:=Nat×Nat×List OnC) (fun x=>i≤x.2.1/\x.2.1≤l.length/\l.length-x.2.1≤x.1/\x.2.2.length≤4/\(((rdr l es).clk x.1 x.2.2 x.2.1).bind fun l2 j=>.ok ⟨s,tv,l2⟩ j)=r) (fun x=>l.length-x.2.1) (fun _=>[(0,.ref 0 0),(3,.ref 2 0),(2,.ref 1 0)]) (fun x=>[rdB l n es x.2.1,noDB,.cells [.t (.s s),.i 1,.sl 3 (x.2.2.map onT) 3],.tail (x.2.2.map onT).length]) ((rdr l es).K.length,(j2+1),[])
    ⟨by show i≤(j2+1);omega,hlth1,by rw[zaf];show l.length-(j2+1)≤l.length;omega,by show 0≤4;omega,hr⟩ ⟨rfl,rfl,rfl,trivial⟩ rfl ?_
   clear hr m1 m2 t1
   rintro⟨m,j,xs⟩ ⟨q1,q2,q3,q4,hr⟩
   replace q1:i≤j:=q1
   replace q2:j≤l.length:=q2
   replace q3:l.length-j≤m:=q3
   replace q4:xs.length≤4:=q4
   simp only at hr
   have hml:(xs.map onT).length=xs.length:=qad _
   have t3:=zaO l n es j [119,104,101,110] hl
   cases hw:(rdr l es).isAt j [119,104,101,110] with
   | true=>
     have hlthw:=zam hw
     rw[zaf]at hlthw
     rw[hw]at t3
     cases m with
     | zero=>exfalso;omega
     | succ m=>
     rw[Rd.clk,if_pos hw]at hr
     refine wk ?_
     repeat' (first|refine wkt ?_|refine zqn ?_|refine wd t3 ?_|exact wkc|intro hc|refine wk2 ?_ ?_|fail)
     obtain⟨m3,m3i⟩:=limC l n es j (xs.map onT).length xs.length 4 hl q2 hml
     cases qm3:limR xs.length 4 j with
     | er ke c=>
       rw[qm3]at m3 m3i hr
       have hc0:=m3i.2
       replace m3:=m3.er
       try simp only[PR.vl]at m3
       simp only[PR.bind]at hr
       repeat' (first|refine wkt ?_|refine zqn ?_|refine we m3 ?_ ?_|exact wkc|intro hc|refine wk2 ?_ ?_|fail)
       repeat' (first|refine zac.panic ?_|refine wk ?_|fail)
       exact rdP hr.symm hc0
     | ok u3 j3=>
     rw[qm3]at m3 m3i hr
     obtain⟨m3a,m3b⟩:=m3i
     replace m3:=m3.ok
     try simp only[PR.vl]at m3
     simp only[PR.bind]at hr
     obtain⟨hlt4,rfl⟩:=zbh qm3
     repeat' (first|refine wkt ?_|refine zqn ?_|refine we m3 ?_ ?_|exact wkc|intro hc|refine wk2 ?_ ?_|fail)
     obtain⟨m4,m4i⟩:=zpX l n es (j3+1) hl hlthw hes
     cases qm4:(rdr l es).sampling (j3+1) with
     | er ke c=>
       rw[qm4]at m4 m4i hr
       have hc0:=m4i.2
       replace m4:=m4.er
       try simp only[PR.vl]at m4
       simp only[PR.bind]at hr
       refine rgX 3 (g:=False) [(.ref 2 2,0,1),(.sl 3 (xs.map onT) 3,0,1),(.ref 0 0,0,1),(.t (.ag [.s noO.name,T.n noO.t,T.n noO.tag]),1,0),(.t (.sl 3 [.ag [.s noO.name,T.n noO.t,T.n noO.tag]]),1,1),(.sl 3 ((xs.map onT)++[.ag [.s noO.name,T.n noO.t,T.n noO.tag]]) 3,1,0),(.ref 2 2,0,2),(.t (.v undef),1,0)] [[rdB l n es (j3+1),noDB,.cells [.t (.s s),.i 1,.sl 3 (xs.map onT) 3],.tail ((xs.map onT)).length],[rdB l n es (j3+1),noDB,.cells [.t (.s s),.i 1,.sl 3 (xs.map onT) 3],.tail ((xs.map onT)).length],[rdB l n es (j3+1),noDB,.cells [.t (.s s),.i 1,.sl 3 (xs.map onT) 3],.tail (((xs.map onT)).length+1)],[rdB l n es (j3+1),noDB,.cells [.t (.s s),.i 1,.sl 3 ((xs.map onT)++[.ag [.s noO.name,T.n noO.t,T.n noO.tag]]) 3],.tail (((xs.map onT)).length+1)]] ?_ (fun h=>h.elim)
       repeat' (first|refine wkt ?_|exact trivial|exact⟨⟨rfl,rfl⟩,trivial⟩|refine qai (fun env=>?_) ?_|refine qai ?_ ?_|refine we m4 ?_ ?_|refine wk ?_|exact wkc|intro hc|refine wk2 ?_ ?_|fail)
       repeat' (first|refine zac.panic ?_|refine wk ?_|fail)
       exact rdP hr.symm hc0
     | ok o k=>
     rw[qm4]at m4 m4i hr
     obtain⟨m4a,m4b⟩:=m4i
     replace m4:=m4.ok
     try simp only[PR.vl]at m4
     simp only[PR.bind]at hr
     unfold onT at m4
     refine rgX 3 (g:=True) [(.ref 2 2,0,1),(.sl 3 (xs.map onT) 3,0,1),(.ref 0 0,0,1),(.t (.ag [.s o.name,T.n o.t,T.n o.tag]),1,0),(.t (.sl 3 [.ag [.s o.name,T.n o.t,T.n o.tag]]),1,1),(.sl 3 ((xs.map onT)++[.ag [.s o.name,T.n o.t,T.n o.tag]]) 3,1,0),(.ref 2 2,0,2),(.t (.v undef),1,0)] [[rdB l n es (j3+1),noDB,.cells [.t (.s s),.i 1,.sl 3 (xs.map onT) 3],.tail ((xs.map onT)).length],[rdB l n es k,noDB,.cells [.t (.s s),.i 1,.sl 3 (xs.map onT) 3],.tail ((xs.map onT)).length],[rdB l n es k,noDB,.cells [.t (.s s),.i 1,.sl 3 (xs.map onT) 3],.tail (((xs.map onT)).length+1)],[rdB l n es k,noDB,.cells [.t (.s s),.i 1,.sl 3 ((xs.map onT)++[.ag [.s o.name,T.n o.t,T.n o.tag]]) 3],.tail (((xs.map onT)).length+1)]] ?_ (fun _=>?_)
     ·repeat' (first|refine wkt ?_|exact trivial|exact⟨⟨rfl,rfl⟩,trivial⟩|refine qai (fun env=>?_) ?_|refine qai ?_ ?_|refine we m4 ?_ ?_|refine wk ?_|exact wkc|intro hc|refine wk2 ?_ ?_|fail)
      done
     ·repeat' (first|refine wu ?_|exact wkc|intro hc|refine wk2 ?_ ?_|fail)
      refine zac.next (m,k,xs++[o]) ⟨?_,m4b,?_,?_,hr⟩ ?_ ⟨rfl,rfl,rfl,trivial⟩ ?_
      ·show i≤k;omega
      ·show l.length-k≤m;omega
      ·exact zweb
      ·show l.length-k<l.length-j3;omega
      ·show _=[rdB l n es k,noDB,.cells [.t (.s s),.i 1,.sl 3 ((xs++[o]).map onT) 3],.tail ((xs++[o]).map onT).length]
       exact zwfj
   | false=>
   rw[hw]at t3
   rw[zhB hw]at hr
   simp only[PR.bind]at hr
   subst hr
   repeat' (first|refine wkt ?_|refine zqn ?_|refine wd t3 ?_|refine zac.exit ?_|refine wk ?_|exact wkc|intro hc|refine wk2 ?_ ?_|fail)
   apply rdV rfl
   ·exact rfl
   ·exact zwei
   all_goals exact rfl
 | false=>
 rw[h1,if_neg (by decide)]at t1
 rw[if_neg (by rw[h1];decide)]at hty
 have t2:=zal l n es j2 [105,110,116] hl m2b
 cases h2:(rdr l es).isAt j2 [105,110,116] with
 | true=>
   have hlth2:=zam h2
   rw[zaf]at hlth2
   rw[h2,if_pos rfl]at t2
   rw[if_pos h2]at hty
   have htv:(toI 2).1=2:=zci (by omega)
   generalize toI 2=tv at hty htv
   subst hty
   simp only[PR.bind]at hr
   refine TO.zbM 3 2 2 rfl rfl rfl ?_
   repeat' (first|refine wkt ?_|refine zqn ?_|refine wd t1 ?_|refine wd t2 ?_|refine wk ?_|exact wkc|intro hc|refine wk2 ?_ ?_|fail)
   clear t2
   refine TR.zbd (ι:=Nat×Nat×List OnC) (fun x=>i≤x.2.1/\x.2.1≤l.length/\l.length-x.2.1≤x.1/\x.2.2.length≤4/\(((rdr l es).clk x.1 x.2.2 x.2.1).bind fun l2 j=>.ok ⟨s,tv,l2⟩ j)=r) (fun x=>l.length-x.2.1) (fun _=>[(0,.ref 0 0),(3,.ref 2 0),(2,.ref 1 0)]) (fun x=>[rdB l n es x.2.1,noDB,.cells [.t (.s s),.i 2,.sl 3 (x.2.2.map onT) 3],.tail (x.2.2.map onT).length]) ((rdr l es).K.length,(j2+1),[])
    ⟨by show i≤(j2+1);omega,hlth2,by rw[zaf];show l.length-(j2+1)≤l.length;omega,by show 0≤4;omega,hr⟩ ⟨rfl,rfl,rfl,trivial⟩ rfl ?_
   clear hr m1 m2 t1
   rintro⟨m,j,xs⟩ ⟨q1,q2,q3,q4,hr⟩
   replace q1:i≤j:=q1
   replace q2:j≤l.length:=q2
   replace q3:l.length-j≤m:=q3
   replace q4:xs.length≤4:=q4
   simp only at hr
   have hml:(xs.map onT).length=xs.length:=qad _
   have t3:=zaO l n es j [119,104,101,110] hl
   cases hw:(rdr l es).isAt j [119,104,101,110] with
   | true=>
     have hlthw:=zam hw
     rw[zaf]at hlthw
     rw[hw]at t3
     cases m with
     | zero=>exfalso;omega
     | succ m=>
     rw[Rd.clk,if_pos hw]at hr
     refine wk ?_
     repeat' (first|refine wkt ?_|refine zqn ?_|refine wd t3 ?_|exact wkc|intro hc|refine wk2 ?_ ?_|fail)
     obtain⟨m3,m3i⟩:=limC l n es j (xs.map onT).length xs.length 4 hl q2 hml
     cases qm3:limR xs.length 4 j with
     | er ke c=>
       rw[qm3]at m3 m3i hr
       have hc0:=m3i.2
       replace m3:=m3.er
       try simp only[PR.vl]at m3
       simp only[PR.bind]at hr
       repeat' (first|refine wkt ?_|refine zqn ?_|refine we m3 ?_ ?_|exact wkc|intro hc|refine wk2 ?_ ?_|fail)
       repeat' (first|refine zac.panic ?_|refine wk ?_|fail)
       exact rdP hr.symm hc0
     | ok u3 j3=>
     rw[qm3]at m3 m3i hr
     obtain⟨m3a,m3b⟩:=m3i
     replace m3:=m3.ok
     try simp only[PR.vl]at m3
     simp only[PR.bind]at hr
     obtain⟨hlt4,rfl⟩:=zbh qm3
     repeat' (first|refine wkt ?_|refine zqn ?_|refine we m3 ?_ ?_|exact wkc|intro hc|refine wk2 ?_ ?_|fail)
     obtain⟨m4,m4i⟩:=zpX l n es (j3+1) hl hlthw hes
     cases qm4:(rdr l es).sampling (j3+1) with
     | er ke c=>
       rw[qm4]at m4 m4i hr
       have hc0:=m4i.2
       replace m4:=m4.er
       try simp only[PR.vl]at m4
       simp only[PR.bind]at hr
       refine rgX 3 (g:=False) [(.ref 2 2,0,1),(.sl 3 (xs.map onT) 3,0,1),(.ref 0 0,0,1),(.t (.ag [.s noO.name,T.n noO.t,T.n noO.tag]),1,0),(.t (.sl 3 [.ag [.s noO.name,T.n noO.t,T.n noO.tag]]),1,1),(.sl 3 ((xs.map onT)++[.ag [.s noO.name,T.n noO.t,T.n noO.tag]]) 3,1,0),(.ref 2 2,0,2),(.t (.v undef),1,0)] [[rdB l n es (j3+1),noDB,.cells [.t (.s s),.i 2,.sl 3 (xs.map onT) 3],.tail ((xs.map onT)).length],[rdB l n es (j3+1),noDB,.cells [.t (.s s),.i 2,.sl 3 (xs.map onT) 3],.tail ((xs.map onT)).length],[rdB l n es (j3+1),noDB,.cells [.t (.s s),.i 2,.sl 3 (xs.map onT) 3],.tail (((xs.map onT)).length+1)],[rdB l n es (j3+1),noDB,.cells [.t (.s s),.i 2,.sl 3 ((xs.map onT)++[.ag [.s noO.name,T.n noO.t,T.n noO.tag]]) 3],.tail (((xs.map onT)).length+1)]] ?_ (fun h=>h.elim)
       repeat' (first|refine wkt ?_|exact trivial|exact⟨⟨rfl,rfl⟩,trivial⟩|refine qai (fun env=>?_) ?_|refine qai ?_ ?_|refine we m4 ?_ ?_|refine wk ?_|exact wkc|intro hc|refine wk2 ?_ ?_|fail)
       repeat' (first|refine zac.panic ?_|refine wk ?_|fail)
       exact rdP hr.symm hc0
     | ok o k=>
     rw[qm4]at m4 m4i hr
     obtain⟨m4a,m4b⟩:=m4i
     replace m4:=m4.ok
     try simp only[PR.vl]at m4
     simp only[PR.bind]at hr
     unfold onT at m4
     refine rgX 3 (g:=True) [(.ref 2 2,0,1),(.sl 3 (xs.map onT) 3,0,1),(.ref 0 0,0,1),(.t (.ag [.s o.name,T.n o.t,T.n o.tag]),1,0),(.t (.sl 3 [.ag [.s o.name,T.n o.t,T.n o.tag]]),1,1),(.sl 3 ((xs.map onT)++[.ag [.s o.name,T.n o.t,T.n o.tag]]) 3,1,0),(.ref 2 2,0,2),(.t (.v undef),1,0)] [[rdB l n es (j3+1),noDB,.cells [.t (.s s),.i 2,.sl 3 (xs.map onT) 3],.tail ((xs.map onT)).length],[rdB l n es k,noDB,.cells [.t (.s s),.i 2,.sl 3 (xs.map onT) 3],.tail ((xs.map onT)).length],[rdB l n es k,noDB,.cells [.t (.s s),.i 2,.sl 3 (xs.map onT) 3],.tail (((xs.map onT)).length+1)],[rdB l n es k,noDB,.cells [.t (.s s),.i 2,.sl 3 ((xs.map onT)++[.ag [.s o.name,T.n o.t,T.n o.tag]]) 3],.tail (((xs.map onT)).length+1)]] ?_ (fun _=>?_)
     ·repeat' (first|refine wkt ?_|exact trivial|exact⟨⟨rfl,rfl⟩,trivial⟩|refine qai (fun env=>?_) ?_|refine qai ?_ ?_|refine we m4 ?_ ?_|refine wk ?_|exact wkc|intro hc|refine wk2 ?_ ?_|fail)
      done
     ·repeat' (first|refine wu ?_|exact wkc|intro hc|refine wk2 ?_ ?_|fail)
      refine zac.next (m,k,xs++[o]) ⟨?_,m4b,?_,?_,hr⟩ ?_ ⟨rfl,rfl,rfl,trivial⟩ ?_
      ·show i≤k;omega
      ·show l.length-k≤m;omega
      ·exact zweb
      ·show l.length-k<l.length-j3;omega
      ·show _=[rdB l n es k,noDB,.cells [.t (.s s),.i 2,.sl 3 ((xs++[o]).map onT) 3],.tail ((xs++[o]).map onT).length]
       exact zwfj
   | false=>
   rw[hw]at t3
   rw[zhB hw]at hr
   simp only[PR.bind]at hr
   subst hr
   repeat' (first|refine wkt ?_|refine zqn ?_|refine wd t3 ?_|refine zac.exit ?_|refine wk ?_|exact wkc|intro hc|refine wk2 ?_ ?_|fail)
   apply rdV rfl
   ·exact rfl
   ·exact zwei
   all_goals exact rfl
 | false=>
 rw[h2,if_neg (by decide)]at t2
 rw[if_neg (by rw[h2];decide)]at hty
 repeat' (first|refine wkt ?_|refine zqn ?_|refine wd t1 ?_|refine wd t2 ?_|refine wk ?_|exact wkc|intro hc|refine wk2 ?_ ?_|fail)
 obtain⟨m3,m3i⟩:=idC l n es j2 hl m2b
 cases qm3:(rdr l es).id j2 with
 | er ke c=>
   rw[qm3]at m3 m3i hty
   have hc0:=m3i.2
   replace m3:=m3.er
   try simp only[PR.vl]at m3
   simp only[PR.bind]at hty
   subst hty
   simp only[PR.bind]at hr
   repeat' (first|refine wkt ?_|refine zqn ?_|refine we m3 ?_ ?_|exact wkc|intro hc|refine wk2 ?_ ?_|fail)
   repeat' (first|refine zac.panic ?_|refine wk ?_|fail)
   exact rdP hr.symm hc0
 | ok s2 j3=>
 rw[qm3]at m3 m3i hty
 obtain⟨m3a,m3b⟩:=m3i
 replace m3:=m3.ok
 try simp only[PR.vl]at m3
 simp only[PR.bind]at hty
 have hix:=zhH 100 [.cp [.s s2] 0] rfl (fun u=>u.name == s2) es (by omega) (fun u=>zf3 u s2)
 rcases zg6 s2 es 0 with ⟨e1,e2⟩|⟨kq,e1,e2,e3⟩
 ·rw[e1]at hix
  simp only[show(rdr l es).es=es from rfl,e2]at hty
  subst hty
  simp only[PR.bind]at hr
  have m4:=zbi l n es j3 (j3-1) 6 (by decide) hl
  rw[show((j3-1:Nat):Int)=(j3:Int)-1 by omega]at m4
  have hc0:(6:Int)≠0:=by decide
  repeat' (first|refine wkt ?_|refine zqn ?_|refine we m3 ?_ ?_|refine wv hix ?_|refine we m4 ?_ ?_|refine wk ?_|exact wkc|intro hc|refine wk2 ?_ ?_|fail)
  repeat' (first|refine zac.panic ?_|refine wk ?_|fail)
  exact rdP hr.symm hc0
 ·rw[e2]at hix
  simp only[show(rdr l es).es=es from rfl,e3,qaM]at hty
  have htv:(toI ((3+kq:Nat):Int)).1=3+(kq:Int):=by rw[zci (by omega)];omega
  generalize toI ((3+kq:Nat):Int)=tv at hty htv
  subst hty
  simp only[PR.bind]at hr
  refine TO.zbM 3 2 2 rfl rfl rfl ?_
  repeat' (first|refine wkt ?_|refine zqn ?_|refine we m3 ?_ ?_|refine wv hix ?_|refine wk ?_|exact wkc|intro hc|refine wk2 ?_ ?_|fail)
  clear t2 m3 hix
  refine TR.zbd (ι:=Nat×Nat×List OnC) (fun x=>i≤x.2.1/\x.2.1≤l.length/\l.length-x.2.1≤x.1/\x.2.2.length≤4/\(((rdr l es).clk x.1 x.2.2 x.2.1).bind fun l2 j=>.ok ⟨s,tv,l2⟩ j)=r) (fun x=>l.length-x.2.1) (fun _=>[(0,.ref 0 0),(3,.ref 2 0),(2,.ref 1 0)]) (fun x=>[rdB l n es x.2.1,noDB,.cells [.t (.s s),.i (3+(kq:Int)),.sl 3 (x.2.2.map onT) 3],.tail (x.2.2.map onT).length]) ((rdr l es).K.length,j3,[])
   ⟨by show i≤j3;omega,m3b,by rw[zaf];show l.length-j3≤l.length;omega,by show 0≤4;omega,hr⟩ ⟨rfl,rfl,rfl,trivial⟩ rfl ?_
  clear hr m1 m2 t1
  rintro⟨m,j,xs⟩ ⟨q1,q2,q3,q4,hr⟩
  replace q1:i≤j:=q1
  replace q2:j≤l.length:=q2
  replace q3:l.length-j≤m:=q3
  replace q4:xs.length≤4:=q4
  simp only at hr
  have hml:(xs.map onT).length=xs.length:=qad _
  have t3:=zaO l n es j [119,104,101,110] hl
  cases hw:(rdr l es).isAt j [119,104,101,110] with
  | true=>
    have hlthw:=zam hw
    rw[zaf]at hlthw
    rw[hw]at t3
    cases m with
    | zero=>exfalso;omega
    | succ m=>
    rw[Rd.clk,if_pos hw]at hr
    refine wk ?_
    repeat' (first|refine wkt ?_|refine zqn ?_|refine wd t3 ?_|exact wkc|intro hc|refine wk2 ?_ ?_|fail)
    obtain⟨m3,m3i⟩:=limC l n es j (xs.map onT).length xs.length 4 hl q2 hml
    cases qm3:limR xs.length 4 j with
    | er ke c=>
      rw[qm3]at m3 m3i hr
      have hc0:=m3i.2
      replace m3:=m3.er
      try simp only[PR.vl]at m3
      simp only[PR.bind]at hr
      repeat' (first|refine wkt ?_|refine zqn ?_|refine we m3 ?_ ?_|exact wkc|intro hc|refine wk2 ?_ ?_|fail)
      repeat' (first|refine zac.panic ?_|refine wk ?_|fail)
      exact rdP hr.symm hc0
    | ok u3 j3=>
    rw[qm3]at m3 m3i hr
    obtain⟨m3a,m3b⟩:=m3i
    replace m3:=m3.ok
    try simp only[PR.vl]at m3
    simp only[PR.bind]at hr
    obtain⟨hlt4,rfl⟩:=zbh qm3
    repeat' (first|refine wkt ?_|refine zqn ?_|refine we m3 ?_ ?_|exact wkc|intro hc|refine wk2 ?_ ?_|fail)
    obtain⟨m4,m4i⟩:=zpX l n es (j3+1) hl hlthw hes
    cases qm4:(rdr l es).sampling (j3+1) with
    | er ke c=>
      rw[qm4]at m4 m4i hr
      have hc0:=m4i.2
      replace m4:=m4.er
      try simp only[PR.vl]at m4
      simp only[PR.bind]at hr
      refine rgX 3 (g:=False) [(.ref 2 2,0,1),(.sl 3 (xs.map onT) 3,0,1),(.ref 0 0,0,1),(.t (.ag [.s noO.name,T.n noO.t,T.n noO.tag]),1,0),(.t (.sl 3 [.ag [.s noO.name,T.n noO.t,T.n noO.tag]]),1,1),(.sl 3 ((xs.map onT)++[.ag [.s noO.name,T.n noO.t,T.n noO.tag]]) 3,1,0),(.ref 2 2,0,2),(.t (.v undef),1,0)] [[rdB l n es (j3+1),noDB,.cells [.t (.s s),.i (3+(kq:Int)),.sl 3 (xs.map onT) 3],.tail ((xs.map onT)).length],[rdB l n es (j3+1),noDB,.cells [.t (.s s),.i (3+(kq:Int)),.sl 3 (xs.map onT) 3],.tail ((xs.map onT)).length],[rdB l n es (j3+1),noDB,.cells [.t (.s s),.i (3+(kq:Int)),.sl 3 (xs.map onT) 3],.tail (((xs.map onT)).length+1)],[rdB l n es (j3+1),noDB,.cells [.t (.s s),.i (3+(kq:Int)),.sl 3 ((xs.map onT)++[.ag [.s noO.name,T.n noO.t,T.n noO.tag]]) 3],.tail (((xs.map onT)).length+1)]] ?_ (fun h=>h.elim)
      repeat' (first|refine wkt ?_|exact trivial|exact⟨⟨rfl,rfl⟩,trivial⟩|refine qai (fun env=>?_) ?_|refine qai ?_ ?_|refine we m4 ?_ ?_|refine wk ?_|exact wkc|intro hc|refine wk2 ?_ ?_|fail)
      repeat' (first|refine zac.panic ?_|refine wk ?_|fail)
      exact rdP hr.symm hc0
    | ok o k=>
    rw[qm4]at m4 m4i hr
    obtain⟨m4a,m4b⟩:=m4i
    replace m4:=m4.ok
    try simp only[PR.vl]at m4
    simp only[PR.bind]at hr
    unfold onT at m4
    refine rgX 3 (g:=True) [(.ref 2 2,0,1),(.sl 3 (xs.map onT) 3,0,1),(.ref 0 0,0,1),(.t (.ag [.s o.name,T.n o.t,T.n o.tag]),1,0),(.t (.sl 3 [.ag [.s o.name,T.n o.t,T.n o.tag]]),1,1),(.sl 3 ((xs.map onT)++[.ag [.s o.name,T.n o.t,T.n o.tag]]) 3,1,0),(.ref 2 2,0,2),(.t (.v undef),1,0)] [[rdB l n es (j3+1),noDB,.cells [.t (.s s),.i (3+(kq:Int)),.sl 3 (xs.map onT) 3],.tail ((xs.map onT)).length],[rdB l n es k,noDB,.cells [.t (.s s),.i (3+(kq:Int)),.sl 3 (xs.map onT) 3],.tail ((xs.map onT)).length],[rdB l n es k,noDB,.cells [.t (.s s),.i (3+(kq:Int)),.sl 3 (xs.map onT) 3],.tail (((xs.map onT)).length+1)],[rdB l n es k,noDB,.cells [.t (.s s),.i (3+(kq:Int)),.sl 3 ((xs.map onT)++[.ag [.s o.name,T.n o.t,T.n o.tag]]) 3],.tail (((xs.map onT)).length+1)]] ?_ (fun _=>?_)
    ·repeat' (first|refine wkt ?_|exact trivial|exact⟨⟨rfl,rfl⟩,trivial⟩|refine qai (fun env=>?_) ?_|refine qai ?_ ?_|refine we m4 ?_ ?_|refine wk ?_|exact wkc|intro hc|refine wk2 ?_ ?_|fail)
     done
    ·repeat' (first|refine wu ?_|exact wkc|intro hc|refine wk2 ?_ ?_|fail)
     refine zac.next (m,k,xs++[o]) ⟨?_,m4b,?_,?_,hr⟩ ?_ ⟨rfl,rfl,rfl,trivial⟩ ?_
     ·show i≤k;omega
     ·show l.length-k≤m;omega
     ·exact zweb
     ·show l.length-k<l.length-j3;omega
     ·show _=[rdB l n es k,noDB,.cells [.t (.s s),.i (3+(kq:Int)),.sl 3 ((xs++[o]).map onT) 3],.tail ((xs++[o]).map onT).length]
      exact zwfj
  | false=>
  rw[hw]at t3
  rw[zhB hw]at hr
  simp only[PR.bind]at hr
  subst hr
  repeat' (first|refine wkt ?_|refine zqn ?_|refine wd t3 ?_|refine zac.exit ?_|refine wk ?_|exact wkc|intro hc|refine wk2 ?_ ?_|fail)
  apply rdV rfl
  ·exact rfl
  ·exact zwei
  all_goals exact rfl
theorem zoW(l:List Tok)(n:Int)(es:List En)(i:Nat)(hk:TkOk l)(hes:EsOk es)(hi:i≤l.length):RdS l n es 87 [] i ((rdr l es).decl i) (.t (zag (((rdr l es).decl i).vl noD)))/\InR l.length (i+1) ((rdr l es).decl i):=by
 have h:=zmw (R:=rdr l es) (i:=i) (by rw[zaf];exact hi)
 rw[zaf]at h
 exact⟨zlk l n es i hk hes hi,h⟩
theorem zfA(d:Decl):zag d= .ag [.s d.name,T.n d.ty,.sl 3 (d.clock.map onT)]:=rfl
set_option maxHeartbeats 16000000 in
theorem zjp (l:List Tok) (n:Int) (es:List En) (i:Nat) (hk:TkOk l) (hes:EsOk es) (hi:i≤l.length) (most:Nat) (op:Bool) (hm:most≤1000):RdS l n es 67 [.i most,.b op] i ((rdr l es).decls most op ((rdr l es).K.length+1) [] i) (.t (.sl 3 ((((rdr l es).decls most op ((rdr l es).K.length+1) [] i).vl []).map zag))):=by
 have hl:=hk.len
 have hml0:(l.map tokT).length=l.length:=qad _
 generalize hr:(rdr l es).decls most op ((rdr l es).K.length+1) [] i=r
 refine Sound.err rfl (fun _=>rfl) ?_
 refine so Tryz.func67 ?_
 repeat' (first|refine wkb ?_|fail)
 refine TR.tail 3 7 rfl ?_
 refine TR.zbd (ι:=Nat×Nat×List Decl) (fun x=>i≤x.2.1/\x.2.1≤l.length/\l.length-x.2.1<x.1/\x.2.2.length≤x.2.1/\(rdr l es).decls most op x.1 x.2.2 x.2.1=r) (fun x=>l.length-x.2.1) (fun x=>[(0,.ref 0 0),(1,.i most),(2,.b op),(7,.sl 3 (x.2.2.map zag) 1)]) (fun x=>[rdB l n es x.2.1,.tail (x.2.2.map zag).length]) ((rdr l es).K.length+1,i,[])
  ⟨by show i≤i;omega,hi,by rw[zaf];show l.length-i<l.length+1;omega,by show 0≤i;omega,hr⟩ ⟨rfl,rfl,rfl,rfl,trivial⟩ rfl ?_
 clear hr
 rintro⟨m,j,xs⟩ ⟨q1,q2,q3,q4,hr⟩
 replace q1:i≤j:=q1
 replace q2:j≤l.length:=q2
 replace q3:l.length-j<m:=q3
 replace q4:xs.length≤j:=q4
 replace hr:(rdr l es).decls most op m xs j=r:=hr
 have hml:(xs.map zag).length=xs.length:=qad _
 cases m with
 | zero=>exfalso;omega
 | succ m=>
 rw[Rd.decls,Rd.zgS]at hr
 have t1:=zaK l n es j 1 hl
 cases h1:(rdr l es).kind j 1 with
 | true=>
   have hlth1:=zcu h1
   rw[zaf]at hlth1
   rw[h1]at t1
   rw[if_pos h1]at hr
   refine wk ?_
   repeat' (first|refine wkt ?_|refine zqn ?_|refine wd t1 ?_|exact wkc|intro hc|refine wk2 ?_ ?_|fail)
   obtain⟨m3,m3i⟩:=limC l n es j (xs.map zag).length xs.length most hl q2 hml
   cases qm3:limR xs.length most j with
   | er ke c=>
     rw[qm3]at m3 m3i hr
     have hc0:=m3i.2
     replace m3:=m3.er
     try simp only[PR.vl]at m3
     simp only[PR.bind]at hr
     repeat' (first|refine wkt ?_|refine zqn ?_|refine we m3 ?_ ?_|exact wkc|intro hc|refine wk2 ?_ ?_|fail)
     repeat' (first|refine zac.panic ?_|refine wk ?_|fail)
     exact rdP hr.symm hc0
   | ok u3 j3=>
   rw[qm3]at m3 m3i hr
   obtain⟨m3a,m3b⟩:=m3i
   replace m3:=m3.ok
   try simp only[PR.vl]at m3
   simp only[PR.bind]at hr
   obtain⟨hlt4,rfl⟩:=zbh qm3
   repeat' (first|refine wkt ?_|refine zqn ?_|refine we m3 ?_ ?_|exact wkc|intro hc|refine wk2 ?_ ?_|fail)
   obtain⟨m4,m4i⟩:=zoW l n es j3 hk hes q2
   cases qm4:(rdr l es).decl j3 with
   | er ke c=>
     rw[qm4]at m4 m4i hr
     have hc0:=m4i.2
     replace m4:=m4.er
     try simp only[PR.vl]at m4
     simp only[PR.bind]at hr
     repeat' (first|refine wkt ?_|refine zqn ?_|refine we m4 ?_ ?_|exact wkc|intro hc|refine wk2 ?_ ?_|fail)
     repeat' (first|refine zac.panic ?_|refine wk ?_|fail)
     exact rdP hr.symm hc0
   | ok d k=>
   rw[qm4]at m4 m4i hr
   obtain⟨m4a,m4b⟩:=m4i
   replace m4:=m4.ok
   try simp only[PR.vl]at m4
   simp only[PR.bind]at hr
   rw[zfA d]at m4
   have t5:=zaO l n es k [59] hl
   repeat' (first|refine wkt ?_|refine zqn ?_|refine zqb ?_|refine we m4 ?_ ?_|exact wkc|intro hc|refine wk2 ?_ ?_|fail)
   cases hb:(rdr l es).isAt k [59] with
   | false=>
     rw[hb]at t5
     refine rgS [.ref 0 0,.b false,.b true,.b true,.t (.v undef),.t (.v undef),.t (.v undef),.t (.v undef),.t (.v undef),.t (.v undef),.t (.v undef),.t (.v undef),.t (.v undef),.t (.v undef),.t (.v undef),.t (.v undef),.t (.v undef),.t (.v undef),.t (.v undef),.t (.v undef),.t (.v undef),.t (.v undef),.t (.v undef),.t (.v undef),.t (.v undef),.t (.v undef),.t (.v undef),.t (.v undef),.t (.v undef),.t (.v undef),.t (.v undef),.t (.v undef),.t (.v undef),.b true] ?_ ?_
     ·repeat' (first|refine wkt ?_|refine wd t5 ?_|exact trivial|exact⟨⟨rfl,rfl⟩,trivial⟩|refine qai (fun env=>?_) ?_|refine wk ?_|exact wkc|intro hc|refine wk2 ?_ ?_|fail)
      done
     ·rw[if_pos (.inl hb)]at hr
      subst hr
      repeat' (first|refine wu ?_|exact wkc|intro hc|refine wk2 ?_ ?_|fail)
      apply rdV rfl
      ·exact rfl
      ·rw[vlE,qav,qah,qas,zfA d]
       exact zqa
      all_goals exact rfl
   | true=>
   have hltb:=zam hb
   rw[zaf]at hltb
   rw[hb]at t5
   cases op with
   | false=>
     refine rgS [.ref 0 0,.b true,.b false,.b false,.b false,.b false,.t (.v undef),.t (.v undef),.t (.v undef),.t (.v undef),.t (.v undef),.t (.v undef),.t (.v undef),.t (.v undef),.t (.v undef),.t (.v undef),.t (.v undef),.t (.v undef),.t (.v undef),.t (.v undef),.t (.v undef),.t (.v undef),.t (.v undef),.t (.v undef),.t (.v undef),.t (.v undef),.t (.v undef),.t (.v undef),.t (.v undef),.t (.v undef),.t (.v undef),.t (.v undef),.b false,.b false] ?_ ?_
     ·repeat' (first|refine wkt ?_|refine wd t5 ?_|exact trivial|exact⟨⟨rfl,rfl⟩,trivial⟩|refine qai (fun env=>?_) ?_|refine wk ?_|exact wkc|intro hc|refine wk2 ?_ ?_|fail)
      done
     ·rw[if_neg (by rw[hb];simp)]at hr
      repeat' (first|refine wu ?_|exact wkc|intro hc|refine wk2 ?_ ?_|fail)
      exact zwh
   | true=>
   have hkk:(rdr l es).kind (k+1) 1=match l[k+1]? with|some t=>decide (t.1=1)|none=>false:=by
    unfold Rd.kind
    simp only[qar]
    cases l[k+1]? <;> rfl
   by_cases hlt:k+1<l.length
   ·have hx:=zcK hlt
    have hx':(l.map tokT)[((k:Int)+1).toNat]?=some (.ag [T.i l[k+1].1,.s l[k+1].2.1,T.i l[k+1].2.2]):=by rw[show((k:Int)+1).toNat=k+1 by omega];exact hx
    rw[qab hlt]at hkk
    simp only at hkk
    generalize l[k+1]=t at*
    by_cases h2:t.1=1
    ·rw[decide_eq_true h2]at hkk
     refine rgS [.ref 0 0,.b true,.b false,.b false,.b true,.b true,.ref 0 0,.ref 0 0,.ref 0 2,.i k,.i ((k:Int)+1),.ref 0 0,.ref 0 0,.ref 0 0,.t (.sl 3 (l.map tokT)),.i (l.map tokT).length,.b false,.b false,.ref 0 0,.ref 0 0,.ref 0 0,.t (.sl 3 (l.map tokT)),.ref 0 0,.ref 0 0,.ref 0 2,.i k,.i ((k:Int)+1),.cp [T.i t.1,.s t.2.1,T.i t.2.2] 0,.cp [T.i t.1,.s t.2.1,T.i t.2.2] 0,.i t.1,.b false,.b false,.b false,.b false] ?_ ?_
     ·repeat' (first|refine wkt ?_|refine wd t5 ?_|exact trivial|exact⟨⟨rfl,rfl⟩,trivial⟩|refine qai (fun env=>?_) ?_|refine wk ?_|exact wkc|intro hc|refine wk2 ?_ ?_|fail)
      done
     ·rw[if_neg (by rw[hb,hkk];simp)]at hr
      repeat' (first|refine wu ?_|exact wkc|intro hc|refine wk2 ?_ ?_|fail)
      exact zwh
    ·rw[decide_eq_false h2]at hkk
     refine rgS [.ref 0 0,.b true,.b false,.b false,.b true,.b true,.ref 0 0,.ref 0 0,.ref 0 2,.i k,.i ((k:Int)+1),.ref 0 0,.ref 0 0,.ref 0 0,.t (.sl 3 (l.map tokT)),.i (l.map tokT).length,.b false,.b false,.ref 0 0,.ref 0 0,.ref 0 0,.t (.sl 3 (l.map tokT)),.ref 0 0,.ref 0 0,.ref 0 2,.i k,.i ((k:Int)+1),.cp [T.i t.1,.s t.2.1,T.i t.2.2] 0,.cp [T.i t.1,.s t.2.1,T.i t.2.2] 0,.i t.1,.b true,.b true,.b true,.b true] ?_ ?_
     ·repeat' (first|refine wkt ?_|refine wd t5 ?_|exact trivial|exact⟨⟨rfl,rfl⟩,trivial⟩|refine qai (fun env=>?_) ?_|refine wk ?_|exact wkc|intro hc|refine wk2 ?_ ?_|fail)
      done
     ·exact zwbc
   ·rw[qaG (by omega)]at hkk
    simp only at hkk
    refine rgS [.ref 0 0,.b true,.b false,.b false,.b true,.b true,.ref 0 0,.ref 0 0,.ref 0 2,.i k,.i ((k:Int)+1),.ref 0 0,.ref 0 0,.ref 0 0,.t (.sl 3 (l.map tokT)),.i (l.map tokT).length,.b true,.b true,.t (.v undef),.t (.v undef),.t (.v undef),.t (.v undef),.t (.v undef),.t (.v undef),.t (.v undef),.t (.v undef),.t (.v undef),.t (.v undef),.t (.v undef),.t (.v undef),.t (.v undef),.b true,.b true,.b true] ?_ ?_
    ·repeat' (first|refine wkt ?_|refine wd t5 ?_|exact trivial|exact⟨⟨rfl,rfl⟩,trivial⟩|refine qai (fun env=>?_) ?_|refine wk ?_|exact wkc|intro hc|refine wk2 ?_ ?_|fail)
     done
    ·exact zwbc
 | false=>
 rw[h1]at t1
 have hid:(rdr l es).decl j= .er j 5:=by unfold Rd.decl Rd.id;rw[h1];rfl
 have m4:=(zoW l n es j hk hes q2).1
 rw[hid]at m4 hr
 have hc0:(5:Int)≠0:=by decide
 replace m4:=m4.er
 simp only[PR.vl]at m4
 rw[h1,if_neg (by decide)]at hr
 simp only[PR.bind]at hr
 refine wk ?_
 repeat' (first|refine wkt ?_|refine zqn ?_|refine wd t1 ?_|refine we m4 ?_ ?_|exact wkc|intro hc|refine wk2 ?_ ?_|fail)
 repeat' (first|refine zac.panic ?_|refine wk ?_|fail)
 exact rdP hr.symm hc0
theorem zhC(l:List Tok)(n:Int)(es:List En)(i:Nat)(hk:TkOk l)(hes:EsOk es)(hi:i≤l.length)(most:Nat)(op:Bool)(hm:most≤1000):RdS l n es 67 [.i most,.b op] i ((rdr l es).decls most op ((rdr l es).K.length+1) [] i) (.t (.sl 3 ((((rdr l es).decls most op ((rdr l es).K.length+1) [] i).vl []).map zag)))/\InR l.length i ((rdr l es).decls most op ((rdr l es).K.length+1) [] i):=by
 have h:=zeA (R:=rdr l es) (most:=most) (op:=op) ((rdr l es).K.length+1) [] (i:=i) (by rw[zaf];exact hi)
 rw[zaf]at h⊢
 exact⟨by have:=zjp l n es i hk hes hi most op hm;rw[zaf]at this;exact this,h⟩
set_option maxHeartbeats 4000000 in
theorem ziH (l:List Tok) (n:Int) (es:List En) (i:Nat) (hk:TkOk l) (hes:EsOk es) (hi:i≤l.length):RdS l n es 68 [] i ((rdr l es).locals i) (.t (.sl 3 ((((rdr l es).locals i).vl []).map zag))):=by
 have hl:=hk.len
 generalize hr:(rdr l es).locals i=r
 unfold Rd.locals at hr
 refine Sound.err rfl (fun _=>rfl) ?_
 refine so Tryz.func68 ?_
 have t1:=zal l n es i [118,97,114] hl hi
 cases h1:(rdr l es).isAt i [118,97,114] with
 | true=>
   have hlth1:=zam h1
   rw[zaf]at hlth1
   rw[h1,if_pos rfl]at t1
   rw[if_pos h1]at hr
   repeat' (first|refine wkt ?_|refine zqn ?_|refine wd t1 ?_|exact wkc|intro hc|refine wk2 ?_ ?_|fail)
   obtain⟨m1,m1i⟩:=zhC l n es (i+1) hk hes hlth1 256 true (by decide)
   cases qm1:(rdr l es).decls 256 true ((rdr l es).K.length+1) [] (i+1) with
   | er ke c=>
     rw[qm1]at m1 m1i hr
     have hc0:=m1i.2
     replace m1:=m1.er
     try simp only[PR.vl]at m1
     simp only[PR.bind]at hr
     repeat' (first|refine wkt ?_|refine zqn ?_|refine we m1 ?_ ?_|exact wkc|intro hc|refine wk2 ?_ ?_|fail)
     repeat' (first|refine zac.panic ?_|refine wk ?_|fail)
     exact rdP hr.symm hc0
   | ok d j=>
   rw[qm1]at m1 m1i hr
   obtain⟨m1a,m1b⟩:=m1i
   replace m1:=m1.ok
   try simp only[PR.vl]at m1
   simp only[PR.bind]at hr
   repeat' (first|refine wkt ?_|refine zqn ?_|refine we m1 ?_ ?_|exact wkc|intro hc|refine wk2 ?_ ?_|fail)
   obtain⟨m2,m2i⟩:=zbr l n es j [[59]] hl m1b (by decide)
   cases qm2:(rdr l es).must [[59]] j with
   | er ke c=>
     rw[qm2]at m2 m2i hr
     have hc0:=m2i.2
     replace m2:=m2.er
     try simp only[PR.vl]at m2
     simp only[PR.bind]at hr
     repeat' (first|refine wkt ?_|refine zqn ?_|refine we m2 ?_ ?_|exact wkc|intro hc|refine wk2 ?_ ?_|fail)
     repeat' (first|refine zac.panic ?_|refine wk ?_|fail)
     exact rdP hr.symm hc0
   | ok u2 j2=>
   rw[qm2]at m2 m2i hr
   obtain⟨m2a,m2b⟩:=m2i
   replace m2:=m2.ok
   try simp only[PR.vl]at m2
   simp only[PR.bind]at hr
   subst hr
   repeat' (first|refine wkt ?_|refine zqn ?_|refine we m2 ?_ ?_|exact wkc|intro hc|refine wk2 ?_ ?_|fail)
   apply rdV rfl
   ·exact rfl
   ·exact zqa
   all_goals exact rfl
 | false=>
 rw[h1,if_neg (by decide)]at t1
 rw[if_neg (by rw[h1];decide)]at hr
 subst hr
 repeat' (first|refine wkt ?_|refine zqn ?_|refine wd t1 ?_|exact wkc|intro hc|refine wk2 ?_ ?_|fail)
 apply rdV rfl
 ·exact rfl
 ·exact zqa
 all_goals exact rfl
end Go.Proofs.YtpfnfpaahefdaaaGreat
