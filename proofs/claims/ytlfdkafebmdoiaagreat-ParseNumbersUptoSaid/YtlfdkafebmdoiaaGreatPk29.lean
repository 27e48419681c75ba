import Derived.Test.YtlfdkafebmdoiaaGreatPk14
import Derived.Test.YtlfdkafebmdoiaaGreatPk23
import Derived.Test.YtlfdkafebmdoiaaGreatPk28
set_option linter.unusedSimpArgs false
set_option linter.unusedVariables false
namespace Go.Proofs.YtlfdkafebmdoiaaGreat
open Go Go.TL
attribute [local irreducible] TR TO Then InBlock RetK Sound LoopK Kf GG ThenL
abbrev noO:OnC:=⟨[],toI 0,toI 0⟩
abbrev noDB:Blk:=.cells [.t (.v (str [])),.t (.v (.int .i64 0)),.t (.v (.slice none 0 0))]
abbrev noD:Decl:=⟨[],toI 0,[]⟩
theorem idC(l:List Tok)(n:Int)(es:List En)(i:Nat)(hl:l.length≤1000000)(hi:i≤l.length):RdS l n es 41 [] i ((rdr l es).id i) (.s (((rdr l es).id i).vl []))/\InR l.length (i+1) ((rdr l es).id i):=by
 have h:=id_in (R:=rdr l es) (i:=i) (by rw[rdr_len];exact hi)
 rw[rdr_len]at h
 exact⟨idP_sound l n es i hl hi,h⟩
theorem limC(l:List Tok)(n:Int)(es:List En)(i a b most:Nat)(hl:l.length≤1000000)(hi:i≤l.length)(hb:a=b):RdS l n es 40 [.i a,.i most] i (limR b most i) (.tup [])/\InR l.length i (limR b most i):=by
 subst hb
 have h:=limR_in (R:=rdr l es) (n:=a) (most:=most) (i:=i) (by rw[rdr_len];exact hi)
 rw[rdr_len]at h
 exact⟨limitP_sound l n es i a most hl,h⟩
theorem limR_ok{n most i j:Nat}{u:Unit}(h:limR n most i= .ok u j):n<most/\j=i:=by
 unfold limR at h
 split at h
 ·cases h
 ·cases h;exact⟨by omega,rfl⟩
theorem sampC(l:List Tok)(n:Int)(es:List En)(i:Nat)(hl:l.length≤1000000)(hi:i≤l.length)(he:EsOk es):RdS l n es 98 [] i ((rdr l es).sampling i) (.t (onT (((rdr l es).sampling i).vl noO)))/\InR l.length (i+1) ((rdr l es).sampling i):=by
 have h:=sampling_in (R:=rdr l es) (i:=i) (by rw[rdr_len];exact hi)
 rw[rdr_len]at h
 exact⟨samplingP_sound l n es i hl hi he noO,h⟩
theorem idxEnum_sound(fid:FuncId)(caps:List SV)(hcaps:unders 0 caps=true)(p:En->Bool)(l:List En)(hl:l.length≤1000000000)(hp:∀d,Pure Tryz.prog fid (.t (enT d)::caps) (.b (p d))):
  Pure Tryz.prog 102 [.t (.sl 2 (l.map enT)),.fn fid caps] (.i (idxI p l)):=by
 have hml:(l.map enT).length=l.length:=List.length_map _
 refine so Tryz.func102 ?_
 repeat' (first|refine wk ?_|exact wkc|intro hc|refine wk2 ?_ ?_|fail)
 refine TR.loopN l.length (fun k=>(l.take k).all (fun x=>!p x)=true) (fun k=>[(0,.t (.sl 2 (l.map enT))),(1,.fn fid caps),(7,.i l.length),(8,.i k)]) (fun _=>[]) rfl (fun k hlt ha=>?_) (fun ha=>?_) ⟨rfl,rfl,by rw[<-hml];rfl,rfl,trivial⟩
 ·have hx:=at_map enT hlt
  have htk:=take_at hlt
  have hat:=idxI_at p l k hlt ha
  have hd:=hp l[k]
  generalize l[k]=d at hx htk hat hd
  have hu:unders 0 (.t (enT d)::caps)=true:=by simp[unders,SV.under,hcaps]
  repeat' (first|refine wk ?_|exact wkc|intro hc|refine wk2 ?_ ?_|(apply TO.callV hd;exact rfl;exact rfl;exact rfl;exact Les.refl _;exact hu;exact rfl)|fail)
  ·rw[hat hc];exact wkr
  ·refine LoopK.nextN hlt ?_
   rw[htk,List.all_append,ha]
   simp[hc]
 ·rw[List.take_length]at ha
  rw[idxI_none p l ha]
  repeat' (first|refine wk ?_|exact wkc|intro hc|refine wk2 ?_ ?_|fail)
  exact wkr
theorem enumNamed_sound(d:En)(nm:Str):Pure Tryz.prog 103 [.t (enT d),.cp [.s nm] 0] (.b (d.name == nm)):=by
 have hd:enT d= .ag [.s d.name,.sl 1 (d.tags.map T.s)]:=rfl
 rw[hd]
 refine so Tryz.func103 ?_
 repeat' (first|refine wu ?_|exact wkc|intro hc|refine wk2 ?_ ?_|fail)
 all_goals try(refine RetK.pure rfl ?_ rfl;exact Le.of_eq (by simp_all [pack,enT] <;> omega))
theorem enumIx_idx(s:Str):∀(l:List En) (k:Nat),(idxI (fun d=>d.name == s) l= -1/\enumIx s k l=none)\/∃j:Nat,j<l.length/\idxI (fun d=>d.name == s) l=j/\enumIx s k l=some (k+j)
 | [],_=>.inl ⟨rfl,rfl⟩
 | d::l,k=>by
   unfold idxI enumIx
   by_cases hd:d.name=s
   ·rw[if_pos hd,if_pos (by simpa using hd)]
    exact .inr ⟨0,by simp,rfl,rfl⟩
   ·rw[if_neg hd,if_neg (by simpa using hd)]
    rcases enumIx_idx s l (k+1)with ⟨h1,h2⟩|⟨j,h1,h2,h3⟩
    ·rw[h1];exact .inl ⟨rfl,h2⟩
    ·rw[h2,if_neg (by omega)]
     exact .inr ⟨j+1,by simpa using h1,by omega,by rw[h3];congr 1;omega⟩
theorem clk_none{R:Rd}:∀ {m:Nat} {a:List OnC} {i:Nat},R.isAt i [119,104,101,110]=false->R.clk m a i= .ok a i
 | 0,_,_,_=>rfl
 | m+1,a,i,h=>by rw[Rd.clk,h,if_neg (by decide)]
set_option maxHeartbeats 8000000 in
theorem decl_sound (l:List Tok) (n:Int) (es:List En) (i:Nat) (hk:TkOk l) (hes:EsOk es) (hi:i≤l.length):RdS l n es 90 [] i ((rdr l es).decl i) (.t (declT (((rdr l es).decl i).vl noD))):=by
 have hl:=hk.len
 have hel:=hes.len
 generalize hr:(rdr l es).decl i=r
 unfold Rd.decl at hr
 refine Sound.err rfl (fun _=>rfl) ?_
 refine so Tryz.func90 ?_
 repeat' (first|refine wkb ?_|(apply TO.add;exact rfl;exact rfl;exact rfl;omega;omega)|refine wk ?_|exact wkc|intro hc|refine wk2 ?_ ?_|fail)
 obtain⟨m1,m1i⟩:=idC l n es i hl hi
 cases qm1:(rdr l es).id i with
 | er ke c=>
   rw[qm1]at m1 m1i hr
   have hc0:=m1i.2
   replace m1:=m1.er
   try simp only[PR.vl]at m1
   simp only[PR.bind]at hr
   repeat' (first|refine wkt ?_|(apply TO.add;exact rfl;exact rfl;exact rfl;omega;omega)|refine we m1 ?_ ?_|exact wkc|intro hc|refine wk2 ?_ ?_|fail)
   repeat' (first|refine LoopK.panic ?_|refine wk ?_|fail)
   exact rdP hr.symm hc0
 | ok s j1=>
 rw[qm1]at m1 m1i hr
 obtain⟨m1a,m1b⟩:=m1i
 replace m1:=m1.ok
 try simp only[PR.vl]at m1
 simp only[PR.bind]at hr
 repeat' (first|refine wkb ?_|(apply TO.add;exact rfl;exact rfl;exact rfl;omega;omega)|refine we m1 ?_ ?_|refine wk ?_|exact wkc|intro hc|refine wk2 ?_ ?_|fail)
 obtain⟨m2,m2i⟩:=mustC l n es j1 [[58]] hl m1b (by decide)
 cases qm2:(rdr l es).must [[58]] j1 with
 | er ke c=>
   rw[qm2]at m2 m2i hr
   have hc0:=m2i.2
   replace m2:=m2.er
   try simp only[PR.vl]at m2
   simp only[PR.bind]at hr
   repeat' (first|refine wkt ?_|(apply TO.add;exact rfl;exact rfl;exact rfl;omega;omega)|refine we m2 ?_ ?_|exact wkc|intro hc|refine wk2 ?_ ?_|fail)
   repeat' (first|refine LoopK.panic ?_|refine wk ?_|fail)
   exact rdP hr.symm hc0
 | ok u2 j2=>
 rw[qm2]at m2 m2i hr
 obtain⟨m2a,m2b⟩:=m2i
 replace m2:=m2.ok
 try simp only[PR.vl]at m2
 simp only[PR.bind]at hr
 repeat' (first|refine wkt ?_|(apply TO.add;exact rfl;exact rfl;exact rfl;omega;omega)|refine we m2 ?_ ?_|exact wkc|intro hc|refine wk2 ?_ ?_|fail)
 have t1:=take_sound l n es j2 [98,111,111,108] hl m2b
 generalize hty:(rdr l es).typ j2=ty at hr
 unfold Rd.typ at hty
 cases h1:(rdr l es).isAt j2 [98,111,111,108] with
 | true=>
   have hlth1:=isAt_lt h1
   rw[rdr_len]at hlth1
   rw[h1,if_pos rfl]at t1
   rw[if_pos h1]at hty
   have htv:(toI 1).1=1:=toI_val (by omega)
   generalize toI 1=tv at hty htv
   subst hty
   simp only[PR.bind]at hr
   refine TO.tail_cell 3 2 2 rfl rfl rfl ?_
   repeat' (first|refine wkt ?_|(apply TO.add;exact rfl;exact rfl;exact rfl;omega;omega)|refine wd t1 ?_|refine wk ?_|exact wkc|intro hc|refine wk2 ?_ ?_|fail)
   refine TR.loop_ind (ι:=Nat×Nat×List OnC) (fun x=>i≤x.2.1/\x.2.1≤l.length/\l.length-x.2.1≤x.1/\x.2.2.length≤4/\(((rdr l es).clk x.1 x.2.2 x.2.1).bind fun l2 j=>.ok ⟨s,tv,l2⟩ j)=r) (fun x=>l.length-x.2.1) (fun _=>[(0,.ref 0 0),(3,.ref 2 0),(2,.ref 1 0)]) (fun x=>[rdB l n es x.2.1,noDB,.cells [.t (.s s),.i 1,.sl 3 (x.2.2.map onT) 3],.tail (x.2.2.map onT).length]) ((rdr l es).K.length,(j2+1),[])
    ⟨by show i≤(j2+1);omega,hlth1,by rw[rdr_len];show l.length-(j2+1)≤l.length;omega,by show 0≤4;omega,hr⟩ ⟨rfl,rfl,rfl,trivial⟩ rfl ?_
   clear hr m1 m2 t1
   rintro⟨m,j,xs⟩ ⟨q1,q2,q3,q4,hr⟩
   replace q1:i≤j:=q1
   replace q2:j≤l.length:=q2
   replace q3:l.length-j≤m:=q3
   replace q4:xs.length≤4:=q4
   simp only at hr
   have hml:(xs.map onT).length=xs.length:=List.length_map _
   have t3:=is_sound l n es j [119,104,101,110] hl
   cases hw:(rdr l es).isAt j [119,104,101,110] with
   | true=>
     have hlthw:=isAt_lt hw
     rw[rdr_len]at hlthw
     rw[hw]at t3
     cases m with
     | zero=>exfalso;omega
     | succ m=>
     rw[Rd.clk,if_pos hw]at hr
     refine wk ?_
     repeat' (first|refine wkt ?_|(apply TO.add;exact rfl;exact rfl;exact rfl;omega;omega)|refine wd t3 ?_|exact wkc|intro hc|refine wk2 ?_ ?_|fail)
     obtain⟨m3,m3i⟩:=limC l n es j (xs.map onT).length xs.length 4 hl q2 hml
     cases qm3:limR xs.length 4 j with
     | er ke c=>
       rw[qm3]at m3 m3i hr
       have hc0:=m3i.2
       replace m3:=m3.er
       try simp only[PR.vl]at m3
       simp only[PR.bind]at hr
       repeat' (first|refine wkt ?_|(apply TO.add;exact rfl;exact rfl;exact rfl;omega;omega)|refine we m3 ?_ ?_|exact wkc|intro hc|refine wk2 ?_ ?_|fail)
       repeat' (first|refine LoopK.panic ?_|refine wk ?_|fail)
       exact rdP hr.symm hc0
     | ok u3 j3=>
     rw[qm3]at m3 m3i hr
     obtain⟨m3a,m3b⟩:=m3i
     replace m3:=m3.ok
     try simp only[PR.vl]at m3
     simp only[PR.bind]at hr
     obtain⟨hlt4,rfl⟩:=limR_ok qm3
     repeat' (first|refine wkt ?_|(apply TO.add;exact rfl;exact rfl;exact rfl;omega;omega)|refine we m3 ?_ ?_|exact wkc|intro hc|refine wk2 ?_ ?_|fail)
     obtain⟨m4,m4i⟩:=sampC l n es (j3+1) hl hlthw hes
     cases qm4:(rdr l es).sampling (j3+1) with
     | er ke c=>
       rw[qm4]at m4 m4i hr
       have hc0:=m4i.2
       replace m4:=m4.er
       try simp only[PR.vl]at m4
       simp only[PR.bind]at hr
       refine rgX 3 (g:=False) [(.ref 2 2,0,1),(.sl 3 (xs.map onT) 3,0,1),(.ref 0 0,0,1),(.t (.ag [.s noO.name,T.n noO.t,T.n noO.tag]),1,0),(.t (.sl 3 [.ag [.s noO.name,T.n noO.t,T.n noO.tag]]),1,1),(.sl 3 ((xs.map onT)++[.ag [.s noO.name,T.n noO.t,T.n noO.tag]]) 3,1,0),(.ref 2 2,0,2),(.t (.v undef),1,0)] [[rdB l n es (j3+1),noDB,.cells [.t (.s s),.i 1,.sl 3 (xs.map onT) 3],.tail ((xs.map onT)).length],[rdB l n es (j3+1),noDB,.cells [.t (.s s),.i 1,.sl 3 (xs.map onT) 3],.tail ((xs.map onT)).length],[rdB l n es (j3+1),noDB,.cells [.t (.s s),.i 1,.sl 3 (xs.map onT) 3],.tail (((xs.map onT)).length+1)],[rdB l n es (j3+1),noDB,.cells [.t (.s s),.i 1,.sl 3 ((xs.map onT)++[.ag [.s noO.name,T.n noO.t,T.n noO.tag]]) 3],.tail (((xs.map onT)).length+1)]] ?_ (fun h=>h.elim)
       repeat' (first|refine wkt ?_|exact trivial|exact⟨⟨rfl,rfl⟩,trivial⟩|refine And.intro (fun env=>?_) ?_|refine And.intro ?_ ?_|refine we m4 ?_ ?_|refine wk ?_|exact wkc|intro hc|refine wk2 ?_ ?_|fail)
       repeat' (first|refine LoopK.panic ?_|refine wk ?_|fail)
       exact rdP hr.symm hc0
     | ok o k=>
     rw[qm4]at m4 m4i hr
     obtain⟨m4a,m4b⟩:=m4i
     replace m4:=m4.ok
     try simp only[PR.vl]at m4
     simp only[PR.bind]at hr
     unfold onT at m4
     refine rgX 3 (g:=True) [(.ref 2 2,0,1),(.sl 3 (xs.map onT) 3,0,1),(.ref 0 0,0,1),(.t (.ag [.s o.name,T.n o.t,T.n o.tag]),1,0),(.t (.sl 3 [.ag [.s o.name,T.n o.t,T.n o.tag]]),1,1),(.sl 3 ((xs.map onT)++[.ag [.s o.name,T.n o.t,T.n o.tag]]) 3,1,0),(.ref 2 2,0,2),(.t (.v undef),1,0)] [[rdB l n es (j3+1),noDB,.cells [.t (.s s),.i 1,.sl 3 (xs.map onT) 3],.tail ((xs.map onT)).length],[rdB l n es k,noDB,.cells [.t (.s s),.i 1,.sl 3 (xs.map onT) 3],.tail ((xs.map onT)).length],[rdB l n es k,noDB,.cells [.t (.s s),.i 1,.sl 3 (xs.map onT) 3],.tail (((xs.map onT)).length+1)],[rdB l n es k,noDB,.cells [.t (.s s),.i 1,.sl 3 ((xs.map onT)++[.ag [.s o.name,T.n o.t,T.n o.tag]]) 3],.tail (((xs.map onT)).length+1)]] ?_ (fun _=>?_)
     ·repeat' (first|refine wkt ?_|exact trivial|exact⟨⟨rfl,rfl⟩,trivial⟩|refine And.intro (fun env=>?_) ?_|refine And.intro ?_ ?_|refine we m4 ?_ ?_|refine wk ?_|exact wkc|intro hc|refine wk2 ?_ ?_|fail)
      done
     ·repeat' (first|refine wu ?_|exact wkc|intro hc|refine wk2 ?_ ?_|fail)
      refine LoopK.next (m,k,xs++[o]) ⟨?_,m4b,?_,?_,hr⟩ ?_ ⟨rfl,rfl,rfl,trivial⟩ ?_
      ·show i≤k;omega
      ·show l.length-k≤m;omega
      ·show(xs++[o]).length≤4;rw[List.length_append];simp only[List.length_cons,List.length_nil];omega
      ·show l.length-k<l.length-j3;omega
      ·show _=[rdB l n es k,noDB,.cells [.t (.s s),.i 1,.sl 3 ((xs++[o]).map onT) 3],.tail ((xs++[o]).map onT).length]
       rw[List.map_append,List.map_cons,List.map_nil,List.length_append];rfl
   | false=>
   rw[hw]at t3
   rw[clk_none hw]at hr
   simp only[PR.bind]at hr
   subst hr
   repeat' (first|refine wkt ?_|(apply TO.add;exact rfl;exact rfl;exact rfl;omega;omega)|refine wd t3 ?_|refine LoopK.exit ?_|refine wk ?_|exact wkc|intro hc|refine wk2 ?_ ?_|fail)
   apply rdV rfl
   ·exact rfl
   ·rw[vlE]
    show Le _ (.t (.ag [.s s,.v (.int .i64 tv.1),.sl 3 (xs.map onT)]))
    rw[htv]
    (repeat' (first|exact trivial|exact Go.TL.Le.refl _|refine And.intro ?_ ?_|exact Go.TL.Le.any _|exact Go.TL.Le.nil _|exact Go.TL.Le.own _ _ _|refine Go.TL.Le.tree rfl ?_|exact Go.TL.TLe.refl _|exact Go.TL.TLe.nil _|refine Go.TL.TLe.ags ?_|fail))
   all_goals exact rfl
 | false=>
 rw[h1,if_neg (by decide)]at t1
 rw[if_neg (by rw[h1];decide)]at hty
 have t2:=take_sound l n es j2 [105,110,116] hl m2b
 cases h2:(rdr l es).isAt j2 [105,110,116] with
 | true=>
   have hlth2:=isAt_lt h2
   rw[rdr_len]at hlth2
   rw[h2,if_pos rfl]at t2
   rw[if_pos h2]at hty
   have htv:(toI 2).1=2:=toI_val (by omega)
   generalize toI 2=tv at hty htv
   subst hty
   simp only[PR.bind]at hr
   refine TO.tail_cell 3 2 2 rfl rfl rfl ?_
   repeat' (first|refine wkt ?_|(apply TO.add;exact rfl;exact rfl;exact rfl;omega;omega)|refine wd t1 ?_|refine wd t2 ?_|refine wk ?_|exact wkc|intro hc|refine wk2 ?_ ?_|fail)
   clear t2
   refine TR.loop_ind (ι:=Nat×Nat×List OnC) (fun x=>i≤x.2.1/\x.2.1≤l.length/\l.length-x.2.1≤x.1/\x.2.2.length≤4/\(((rdr l es).clk x.1 x.2.2 x.2.1).bind fun l2 j=>.ok ⟨s,tv,l2⟩ j)=r) (fun x=>l.length-x.2.1) (fun _=>[(0,.ref 0 0),(3,.ref 2 0),(2,.ref 1 0)]) (fun x=>[rdB l n es x.2.1,noDB,.cells [.t (.s s),.i 2,.sl 3 (x.2.2.map onT) 3],.tail (x.2.2.map onT).length]) ((rdr l es).K.length,(j2+1),[])
    ⟨by show i≤(j2+1);omega,hlth2,by rw[rdr_len];show l.length-(j2+1)≤l.length;omega,by show 0≤4;omega,hr⟩ ⟨rfl,rfl,rfl,trivial⟩ rfl ?_
   clear hr m1 m2 t1
   rintro⟨m,j,xs⟩ ⟨q1,q2,q3,q4,hr⟩
   replace q1:i≤j:=q1
   replace q2:j≤l.length:=q2
   replace q3:l.length-j≤m:=q3
   replace q4:xs.length≤4:=q4
   simp only at hr
   have hml:(xs.map onT).length=xs.length:=List.length_map _
   have t3:=is_sound l n es j [119,104,101,110] hl
   cases hw:(rdr l es).isAt j [119,104,101,110] with
   | true=>
     have hlthw:=isAt_lt hw
     rw[rdr_len]at hlthw
     rw[hw]at t3
     cases m with
     | zero=>exfalso;omega
     | succ m=>
     rw[Rd.clk,if_pos hw]at hr
     refine wk ?_
     repeat' (first|refine wkt ?_|(apply TO.add;exact rfl;exact rfl;exact rfl;omega;omega)|refine wd t3 ?_|exact wkc|intro hc|refine wk2 ?_ ?_|fail)
     obtain⟨m3,m3i⟩:=limC l n es j (xs.map onT).length xs.length 4 hl q2 hml
     cases qm3:limR xs.length 4 j with
     | er ke c=>
       rw[qm3]at m3 m3i hr
       have hc0:=m3i.2
       replace m3:=m3.er
       try simp only[PR.vl]at m3
       simp only[PR.bind]at hr
       repeat' (first|refine wkt ?_|(apply TO.add;exact rfl;exact rfl;exact rfl;omega;omega)|refine we m3 ?_ ?_|exact wkc|intro hc|refine wk2 ?_ ?_|fail)
       repeat' (first|refine LoopK.panic ?_|refine wk ?_|fail)
       exact rdP hr.symm hc0
     | ok u3 j3=>
     rw[qm3]at m3 m3i hr
     obtain⟨m3a,m3b⟩:=m3i
     replace m3:=m3.ok
     try simp only[PR.vl]at m3
     simp only[PR.bind]at hr
     obtain⟨hlt4,rfl⟩:=limR_ok qm3
     repeat' (first|refine wkt ?_|(apply TO.add;exact rfl;exact rfl;exact rfl;omega;omega)|refine we m3 ?_ ?_|exact wkc|intro hc|refine wk2 ?_ ?_|fail)
     obtain⟨m4,m4i⟩:=sampC l n es (j3+1) hl hlthw hes
     cases qm4:(rdr l es).sampling (j3+1) with
     | er ke c=>
       rw[qm4]at m4 m4i hr
       have hc0:=m4i.2
       replace m4:=m4.er
       try simp only[PR.vl]at m4
       simp only[PR.bind]at hr
       refine rgX 3 (g:=False) [(.ref 2 2,0,1),(.sl 3 (xs.map onT) 3,0,1),(.ref 0 0,0,1),(.t (.ag [.s noO.name,T.n noO.t,T.n noO.tag]),1,0),(.t (.sl 3 [.ag [.s noO.name,T.n noO.t,T.n noO.tag]]),1,1),(.sl 3 ((xs.map onT)++[.ag [.s noO.name,T.n noO.t,T.n noO.tag]]) 3,1,0),(.ref 2 2,0,2),(.t (.v undef),1,0)] [[rdB l n es (j3+1),noDB,.cells [.t (.s s),.i 2,.sl 3 (xs.map onT) 3],.tail ((xs.map onT)).length],[rdB l n es (j3+1),noDB,.cells [.t (.s s),.i 2,.sl 3 (xs.map onT) 3],.tail ((xs.map onT)).length],[rdB l n es (j3+1),noDB,.cells [.t (.s s),.i 2,.sl 3 (xs.map onT) 3],.tail (((xs.map onT)).length+1)],[rdB l n es (j3+1),noDB,.cells [.t (.s s),.i 2,.sl 3 ((xs.map onT)++[.ag [.s noO.name,T.n noO.t,T.n noO.tag]]) 3],.tail (((xs.map onT)).length+1)]] ?_ (fun h=>h.elim)
       repeat' (first|refine wkt ?_|exact trivial|exact⟨⟨rfl,rfl⟩,trivial⟩|refine And.intro (fun env=>?_) ?_|refine And.intro ?_ ?_|refine we m4 ?_ ?_|refine wk ?_|exact wkc|intro hc|refine wk2 ?_ ?_|fail)
       repeat' (first|refine LoopK.panic ?_|refine wk ?_|fail)
       exact rdP hr.symm hc0
     | ok o k=>
     rw[qm4]at m4 m4i hr
     obtain⟨m4a,m4b⟩:=m4i
     replace m4:=m4.ok
     try simp only[PR.vl]at m4
     simp only[PR.bind]at hr
     unfold onT at m4
     refine rgX 3 (g:=True) [(.ref 2 2,0,1),(.sl 3 (xs.map onT) 3,0,1),(.ref 0 0,0,1),(.t (.ag [.s o.name,T.n o.t,T.n o.tag]),1,0),(.t (.sl 3 [.ag [.s o.name,T.n o.t,T.n o.tag]]),1,1),(.sl 3 ((xs.map onT)++[.ag [.s o.name,T.n o.t,T.n o.tag]]) 3,1,0),(.ref 2 2,0,2),(.t (.v undef),1,0)] [[rdB l n es (j3+1),noDB,.cells [.t (.s s),.i 2,.sl 3 (xs.map onT) 3],.tail ((xs.map onT)).length],[rdB l n es k,noDB,.cells [.t (.s s),.i 2,.sl 3 (xs.map onT) 3],.tail ((xs.map onT)).length],[rdB l n es k,noDB,.cells [.t (.s s),.i 2,.sl 3 (xs.map onT) 3],.tail (((xs.map onT)).length+1)],[rdB l n es k,noDB,.cells [.t (.s s),.i 2,.sl 3 ((xs.map onT)++[.ag [.s o.name,T.n o.t,T.n o.tag]]) 3],.tail (((xs.map onT)).length+1)]] ?_ (fun _=>?_)
     ·repeat' (first|refine wkt ?_|exact trivial|exact⟨⟨rfl,rfl⟩,trivial⟩|refine And.intro (fun env=>?_) ?_|refine And.intro ?_ ?_|refine we m4 ?_ ?_|refine wk ?_|exact wkc|intro hc|refine wk2 ?_ ?_|fail)
      done
     ·repeat' (first|refine wu ?_|exact wkc|intro hc|refine wk2 ?_ ?_|fail)
      refine LoopK.next (m,k,xs++[o]) ⟨?_,m4b,?_,?_,hr⟩ ?_ ⟨rfl,rfl,rfl,trivial⟩ ?_
      ·show i≤k;omega
      ·show l.length-k≤m;omega
      ·show(xs++[o]).length≤4;rw[List.length_append];simp only[List.length_cons,List.length_nil];omega
      ·show l.length-k<l.length-j3;omega
      ·show _=[rdB l n es k,noDB,.cells [.t (.s s),.i 2,.sl 3 ((xs++[o]).map onT) 3],.tail ((xs++[o]).map onT).length]
       rw[List.map_append,List.map_cons,List.map_nil,List.length_append];rfl
   | false=>
   rw[hw]at t3
   rw[clk_none hw]at hr
   simp only[PR.bind]at hr
   subst hr
   repeat' (first|refine wkt ?_|(apply TO.add;exact rfl;exact rfl;exact rfl;omega;omega)|refine wd t3 ?_|refine LoopK.exit ?_|refine wk ?_|exact wkc|intro hc|refine wk2 ?_ ?_|fail)
   apply rdV rfl
   ·exact rfl
   ·rw[vlE]
    show Le _ (.t (.ag [.s s,.v (.int .i64 tv.1),.sl 3 (xs.map onT)]))
    rw[htv]
    (repeat' (first|exact trivial|exact Go.TL.Le.refl _|refine And.intro ?_ ?_|exact Go.TL.Le.any _|exact Go.TL.Le.nil _|exact Go.TL.Le.own _ _ _|refine Go.TL.Le.tree rfl ?_|exact Go.TL.TLe.refl _|exact Go.TL.TLe.nil _|refine Go.TL.TLe.ags ?_|fail))
   all_goals exact rfl
 | false=>
 rw[h2,if_neg (by decide)]at t2
 rw[if_neg (by rw[h2];decide)]at hty
 repeat' (first|refine wkt ?_|(apply TO.add;exact rfl;exact rfl;exact rfl;omega;omega)|refine wd t1 ?_|refine wd t2 ?_|refine wk ?_|exact wkc|intro hc|refine wk2 ?_ ?_|fail)
 obtain⟨m3,m3i⟩:=idC l n es j2 hl m2b
 cases qm3:(rdr l es).id j2 with
 | er ke c=>
   rw[qm3]at m3 m3i hty
   have hc0:=m3i.2
   replace m3:=m3.er
   try simp only[PR.vl]at m3
   simp only[PR.bind]at hty
   subst hty
   simp only[PR.bind]at hr
   repeat' (first|refine wkt ?_|(apply TO.add;exact rfl;exact rfl;exact rfl;omega;omega)|refine we m3 ?_ ?_|exact wkc|intro hc|refine wk2 ?_ ?_|fail)
   repeat' (first|refine LoopK.panic ?_|refine wk ?_|fail)
   exact rdP hr.symm hc0
 | ok s2 j3=>
 rw[qm3]at m3 m3i hty
 obtain⟨m3a,m3b⟩:=m3i
 replace m3:=m3.ok
 try simp only[PR.vl]at m3
 simp only[PR.bind]at hty
 have hix:=idxEnum_sound 103 [.cp [.s s2] 0] rfl (fun u=>u.name == s2) es (by omega) (fun u=>enumNamed_sound u s2)
 rcases enumIx_idx s2 es 0 with ⟨e1,e2⟩|⟨kq,e1,e2,e3⟩
 ·rw[e1]at hix
  simp only[show(rdr l es).es=es from rfl,e2]at hty
  subst hty
  simp only[PR.bind]at hr
  have m4:=fail_sound l n es j3 (j3-1) 6 (by decide) hl
  rw[show((j3-1:Nat):Int)=(j3:Int)-1 by omega]at m4
  have hc0:(6:Int)≠0:=by decide
  repeat' (first|refine wkt ?_|(apply TO.add;exact rfl;exact rfl;exact rfl;omega;omega)|refine we m3 ?_ ?_|refine wv hix ?_|refine we m4 ?_ ?_|refine wk ?_|exact wkc|intro hc|refine wk2 ?_ ?_|fail)
  repeat' (first|refine LoopK.panic ?_|refine wk ?_|fail)
  exact rdP hr.symm hc0
 ·rw[e2]at hix
  simp only[show(rdr l es).es=es from rfl,e3,Nat.zero_add]at hty
  have htv:(toI ((3+kq:Nat):Int)).1=3+(kq:Int):=by rw[toI_val (by omega)];omega
  generalize toI ((3+kq:Nat):Int)=tv at hty htv
  subst hty
  simp only[PR.bind]at hr
  refine TO.tail_cell 3 2 2 rfl rfl rfl ?_
  repeat' (first|refine wkt ?_|(apply TO.add;exact rfl;exact rfl;exact rfl;omega;omega)|refine we m3 ?_ ?_|refine wv hix ?_|refine wk ?_|exact wkc|intro hc|refine wk2 ?_ ?_|fail)
  clear t2 m3 hix
  refine TR.loop_ind (ι:=Nat×Nat×List OnC) (fun x=>i≤x.2.1/\x.2.1≤l.length/\l.length-x.2.1≤x.1/\x.2.2.length≤4/\(((rdr l es).clk x.1 x.2.2 x.2.1).bind fun l2 j=>.ok ⟨s,tv,l2⟩ j)=r) (fun x=>l.length-x.2.1) (fun _=>[(0,.ref 0 0),(3,.ref 2 0),(2,.ref 1 0)]) (fun x=>[rdB l n es x.2.1,noDB,.cells [.t (.s s),.i (3+(kq:Int)),.sl 3 (x.2.2.map onT) 3],.tail (x.2.2.map onT).length]) ((rdr l es).K.length,j3,[])
   ⟨by show i≤j3;omega,m3b,by rw[rdr_len];show l.length-j3≤l.length;omega,by show 0≤4;omega,hr⟩ ⟨rfl,rfl,rfl,trivial⟩ rfl ?_
  clear hr m1 m2 t1
  rintro⟨m,j,xs⟩ ⟨q1,q2,q3,q4,hr⟩
  replace q1:i≤j:=q1
  replace q2:j≤l.length:=q2
  replace q3:l.length-j≤m:=q3
  replace q4:xs.length≤4:=q4
  simp only at hr
  have hml:(xs.map onT).length=xs.length:=List.length_map _
  have t3:=is_sound l n es j [119,104,101,110] hl
  cases hw:(rdr l es).isAt j [119,104,101,110] with
  | true=>
    have hlthw:=isAt_lt hw
    rw[rdr_len]at hlthw
    rw[hw]at t3
    cases m with
    | zero=>exfalso;omega
    | succ m=>
    rw[Rd.clk,if_pos hw]at hr
    refine wk ?_
    repeat' (first|refine wkt ?_|(apply TO.add;exact rfl;exact rfl;exact rfl;omega;omega)|refine wd t3 ?_|exact wkc|intro hc|refine wk2 ?_ ?_|fail)
    obtain⟨m3,m3i⟩:=limC l n es j (xs.map onT).length xs.length 4 hl q2 hml
    cases qm3:limR xs.length 4 j with
    | er ke c=>
      rw[qm3]at m3 m3i hr
      have hc0:=m3i.2
      replace m3:=m3.er
      try simp only[PR.vl]at m3
      simp only[PR.bind]at hr
      repeat' (first|refine wkt ?_|(apply TO.add;exact rfl;exact rfl;exact rfl;omega;omega)|refine we m3 ?_ ?_|exact wkc|intro hc|refine wk2 ?_ ?_|fail)
      repeat' (first|refine LoopK.panic ?_|refine wk ?_|fail)
      exact rdP hr.symm hc0
    | ok u3 j3=>
    rw[qm3]at m3 m3i hr
    obtain⟨m3a,m3b⟩:=m3i
    replace m3:=m3.ok
    try simp only[PR.vl]at m3
    simp only[PR.bind]at hr
    obtain⟨hlt4,rfl⟩:=limR_ok qm3
    repeat' (first|refine wkt ?_|(apply TO.add;exact rfl;exact rfl;exact rfl;omega;omega)|refine we m3 ?_ ?_|exact wkc|intro hc|refine wk2 ?_ ?_|fail)
    obtain⟨m4,m4i⟩:=sampC l n es (j3+1) hl hlthw hes
    cases qm4:(rdr l es).sampling (j3+1) with
    | er ke c=>
      rw[qm4]at m4 m4i hr
      have hc0:=m4i.2
      replace m4:=m4.er
      try simp only[PR.vl]at m4
      simp only[PR.bind]at hr
      refine rgX 3 (g:=False) [(.ref 2 2,0,1),(.sl 3 (xs.map onT) 3,0,1),(.ref 0 0,0,1),(.t (.ag [.s noO.name,T.n noO.t,T.n noO.tag]),1,0),(.t (.sl 3 [.ag [.s noO.name,T.n noO.t,T.n noO.tag]]),1,1),(.sl 3 ((xs.map onT)++[.ag [.s noO.name,T.n noO.t,T.n noO.tag]]) 3,1,0),(.ref 2 2,0,2),(.t (.v undef),1,0)] [[rdB l n es (j3+1),noDB,.cells [.t (.s s),.i (3+(kq:Int)),.sl 3 (xs.map onT) 3],.tail ((xs.map onT)).length],[rdB l n es (j3+1),noDB,.cells [.t (.s s),.i (3+(kq:Int)),.sl 3 (xs.map onT) 3],.tail ((xs.map onT)).length],[rdB l n es (j3+1),noDB,.cells [.t (.s s),.i (3+(kq:Int)),.sl 3 (xs.map onT) 3],.tail (((xs.map onT)).length+1)],[rdB l n es (j3+1),noDB,.cells [.t (.s s),.i (3+(kq:Int)),.sl 3 ((xs.map onT)++[.ag [.s noO.name,T.n noO.t,T.n noO.tag]]) 3],.tail (((xs.map onT)).length+1)]] ?_ (fun h=>h.elim)
      repeat' (first|refine wkt ?_|exact trivial|exact⟨⟨rfl,rfl⟩,trivial⟩|refine And.intro (fun env=>?_) ?_|refine And.intro ?_ ?_|refine we m4 ?_ ?_|refine wk ?_|exact wkc|intro hc|refine wk2 ?_ ?_|fail)
      repeat' (first|refine LoopK.panic ?_|refine wk ?_|fail)
      exact rdP hr.symm hc0
    | ok o k=>
    rw[qm4]at m4 m4i hr
    obtain⟨m4a,m4b⟩:=m4i
    replace m4:=m4.ok
    try simp only[PR.vl]at m4
    simp only[PR.bind]at hr
    unfold onT at m4
    refine rgX 3 (g:=True) [(.ref 2 2,0,1),(.sl 3 (xs.map onT) 3,0,1),(.ref 0 0,0,1),(.t (.ag [.s o.name,T.n o.t,T.n o.tag]),1,0),(.t (.sl 3 [.ag [.s o.name,T.n o.t,T.n o.tag]]),1,1),(.sl 3 ((xs.map onT)++[.ag [.s o.name,T.n o.t,T.n o.tag]]) 3,1,0),(.ref 2 2,0,2),(.t (.v undef),1,0)] [[rdB l n es (j3+1),noDB,.cells [.t (.s s),.i (3+(kq:Int)),.sl 3 (xs.map onT) 3],.tail ((xs.map onT)).length],[rdB l n es k,noDB,.cells [.t (.s s),.i (3+(kq:Int)),.sl 3 (xs.map onT) 3],.tail ((xs.map onT)).length],[rdB l n es k,noDB,.cells [.t (.s s),.i (3+(kq:Int)),.sl 3 (xs.map onT) 3],.tail (((xs.map onT)).length+1)],[rdB l n es k,noDB,.cells [.t (.s s),.i (3+(kq:Int)),.sl 3 ((xs.map onT)++[.ag [.s o.name,T.n o.t,T.n o.tag]]) 3],.tail (((xs.map onT)).length+1)]] ?_ (fun _=>?_)
    ·repeat' (first|refine wkt ?_|exact trivial|exact⟨⟨rfl,rfl⟩,trivial⟩|refine And.intro (fun env=>?_) ?_|refine And.intro ?_ ?_|refine we m4 ?_ ?_|refine wk ?_|exact wkc|intro hc|refine wk2 ?_ ?_|fail)
     done
    ·repeat' (first|refine wu ?_|exact wkc|intro hc|refine wk2 ?_ ?_|fail)
     refine LoopK.next (m,k,xs++[o]) ⟨?_,m4b,?_,?_,hr⟩ ?_ ⟨rfl,rfl,rfl,trivial⟩ ?_
     ·show i≤k;omega
     ·show l.length-k≤m;omega
     ·show(xs++[o]).length≤4;rw[List.length_append];simp only[List.length_cons,List.length_nil];omega
     ·show l.length-k<l.length-j3;omega
     ·show _=[rdB l n es k,noDB,.cells [.t (.s s),.i (3+(kq:Int)),.sl 3 ((xs++[o]).map onT) 3],.tail ((xs++[o]).map onT).length]
      rw[List.map_append,List.map_cons,List.map_nil,List.length_append];rfl
  | false=>
  rw[hw]at t3
  rw[clk_none hw]at hr
  simp only[PR.bind]at hr
  subst hr
  repeat' (first|refine wkt ?_|(apply TO.add;exact rfl;exact rfl;exact rfl;omega;omega)|refine wd t3 ?_|refine LoopK.exit ?_|refine wk ?_|exact wkc|intro hc|refine wk2 ?_ ?_|fail)
  apply rdV rfl
  ·exact rfl
  ·rw[vlE]
   show Le _ (.t (.ag [.s s,.v (.int .i64 tv.1),.sl 3 (xs.map onT)]))
   rw[htv]
   (repeat' (first|exact trivial|exact Go.TL.Le.refl _|refine And.intro ?_ ?_|exact Go.TL.Le.any _|exact Go.TL.Le.nil _|exact Go.TL.Le.own _ _ _|refine Go.TL.Le.tree rfl ?_|exact Go.TL.TLe.refl _|exact Go.TL.TLe.nil _|refine Go.TL.TLe.ags ?_|fail))
  all_goals exact rfl
end Go.Proofs.YtlfdkafebmdoiaaGreat
