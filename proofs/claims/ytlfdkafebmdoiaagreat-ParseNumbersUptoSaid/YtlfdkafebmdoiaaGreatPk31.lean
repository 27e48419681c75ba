import Derived.Test.YtlfdkafebmdoiaaGreatPk30
set_option linter.unusedSimpArgs false
set_option linter.unusedVariables false
namespace Go.Proofs.YtlfdkafebmdoiaaGreat
open Go Go.TL
attribute [local irreducible] TR TO Then InBlock RetK Sound LoopK Kf GG ThenL
theorem equT_eq(q:Equ):equT q= .ag [.sl 1 (q.left.map T.s),T.n q.right.kind,T.n q.right.op,T.n q.right.t,T.n q.right.v,.s q.right.name,.sl 6 (q.right.args.map exT)]:=rfl
abbrev noA:Auto:=.mk []
def HAuto(l:List Tok)(n:Int)(es:List En)(d:Nat)(au:Nat->PR Auto):Prop:=∀j,(rdr l es).isAt j [97,117,116,111,109,97,116,111,110]=true->RdS l n es 91 [.i d] (j+1) (au (j+1)) (.t (autoT ((au (j+1)).vl noA)))/\InR l.length (j+1) (au (j+1))
set_option maxHeartbeats 16000000 in
theorem body_sound (l:List Tok) (n:Int) (es:List En) (i:Nat) (hk:TkOk l) (hes:EsOk es) (hi:i≤l.length) (d:Nat) (hd:d≤3) (au:Nat->PR Auto) (hau:d<3->HAuto l n es d au):RdS l n es 72 [.i d] i ((rdr l es).body (rdr l es).expr au (decide (3≤d)) ((rdr l es).K.length+1) [] [] i) (.tup [.t (.sl 7 ((((rdr l es).body (rdr l es).expr au (decide (3≤d)) ((rdr l es).K.length+1) [] [] i).vl ([],[])).1.map equT)),.t (.sl 1 ((((rdr l es).body (rdr l es).expr au (decide (3≤d)) ((rdr l es).K.length+1) [] [] i).vl ([],[])).2.map autoT))]):=by
 have hl:=hk.len
 generalize hr:(rdr l es).body (rdr l es).expr au (decide (3≤d)) ((rdr l es).K.length+1) [] [] i=r
 refine Sound.err rfl (fun _=>rfl) ?_
 refine so Tryz.func72 ?_
 repeat' (first|refine wkb ?_|fail)
 refine TR.tail 7 6 rfl ?_
 refine TR.tail 1 7 rfl ?_
 refine TR.loop_ind (ι:=Nat×Nat×List Equ×List Auto) (fun x=>i≤x.2.1/\x.2.1≤l.length/\l.length-x.2.1<x.1/\x.2.2.1.length≤x.2.1/\x.2.2.2.length≤x.2.1/\(rdr l es).body (rdr l es).expr au (decide (3≤d)) x.1 x.2.2.1 x.2.2.2 x.2.1=r) (fun x=>l.length-x.2.1) (fun x=>[(0,.ref 0 0),(1,.i d),(6,.sl 7 (x.2.2.1.map equT) 1),(7,.sl 1 (x.2.2.2.map autoT) 2)]) (fun x=>[rdB l n es x.2.1,.tail (x.2.2.1.map equT).length,.tail (x.2.2.2.map autoT).length]) ((rdr l es).K.length+1,i,[],[])
  ⟨by show i≤i;omega,hi,by rw[rdr_len];show l.length-i<l.length+1;omega,by show 0≤i;omega,by show 0≤i;omega,hr⟩ ⟨rfl,rfl,rfl,rfl,trivial⟩ rfl ?_
 clear hr
 rintro⟨m,j,xs,as'⟩ ⟨q1,q2,q3,q4,q5,hr⟩
 replace q1:i≤j:=q1
 replace q2:j≤l.length:=q2
 replace q3:l.length-j<m:=q3
 replace q4:xs.length≤j:=q4
 replace q5:as'.length≤j:=q5
 replace hr:(rdr l es).body (rdr l es).expr au (decide (3≤d)) m xs as' j=r:=hr
 have hml:(xs.map equT).length=xs.length:=List.length_map _
 have hma:(as'.map autoT).length=as'.length:=List.length_map _
 cases m with
 | zero=>exfalso;omega
 | succ m=>
 rw[Rd.body]at hr
 have t1:=is_sound l n es j [97,117,116,111,109,97,116,111,110] hl
 cases h1:(rdr l es).isAt j [97,117,116,111,109,97,116,111,110] with
 | true=>
   have hlth1:=isAt_lt h1
   rw[rdr_len]at hlth1
   rw[h1]at t1
   rw[if_pos h1]at hr
   by_cases hdd:3≤d
   ·have hd3:d=3:=by omega
    have m3:=fail_sound l n es j j 3 (by decide) hl
    have hc0:(3:Int)≠0:=by decide
    rw[if_pos (by simpa using hdd)]at hr
    refine wk ?_
    repeat' (first|refine wkt ?_|(apply TO.add;exact rfl;exact rfl;exact rfl;omega;omega)|refine wd t1 ?_|refine we m3 ?_ ?_|exact wkc|intro hc|refine wk2 ?_ ?_|fail)
    repeat' (first|refine LoopK.panic ?_|refine wk ?_|fail)
    exact rdP hr.symm hc0
   ·rw[if_neg (by simpa using hdd)]at hr
    refine wk ?_
    repeat' (first|refine wkt ?_|(apply TO.add;exact rfl;exact rfl;exact rfl;omega;omega)|refine wd t1 ?_|exact wkc|intro hc|refine wk2 ?_ ?_|fail)
    obtain⟨m3,m3i⟩:=limC l n es j (as'.map autoT).length as'.length 8 hl q2 hma
    cases qm3:limR as'.length 8 j with
    | er ke c=>
      rw[qm3]at m3 m3i hr
      have hc0:=m3i.2
      replace m3:=m3.er
      try simp only[PR.vl]at m3
      simp only[PR.bind]at hr
      repeat' (first|refine wkt ?_|(apply TO.add;exact rfl;exact rfl;exact rfl;omega;omega)|refine we m3 ?_ ?_|exact wkc|intro hc|refine wk2 ?_ ?_|fail)
      repeat' (first|refine LoopK.panic ?_|refine wk ?_|fail)
      exact rdP hr.symm hc0
    | ok u3 j3=>
    rw[qm3]at m3 m3i hr
    obtain⟨m3a,m3b⟩:=m3i
    replace m3:=m3.ok
    try simp only[PR.vl]at m3
    simp only[PR.bind]at hr
    obtain⟨hlt4,rfl⟩:=limR_ok qm3
    repeat' (first|refine wkt ?_|(apply TO.add;exact rfl;exact rfl;exact rfl;omega;omega)|refine we m3 ?_ ?_|exact wkc|intro hc|refine wk2 ?_ ?_|fail)
    obtain⟨m4,m4i⟩:=hau (by omega) j3 h1
    cases qm4:au (j3+1) with
    | er ke c=>
      rw[qm4]at m4 m4i hr
      have hc0:=m4i.2
      replace m4:=m4.er
      try simp only[PR.vl]at m4
      simp only[PR.bind]at hr
      repeat' (first|refine wkt ?_|(apply TO.add;exact rfl;exact rfl;exact rfl;omega;omega)|refine we m4 ?_ ?_|exact wkc|intro hc|refine wk2 ?_ ?_|fail)
      repeat' (first|refine LoopK.panic ?_|refine wk ?_|fail)
      exact rdP hr.symm hc0
    | ok a k=>
    rw[qm4]at m4 m4i hr
    obtain⟨m4a,m4b⟩:=m4i
    replace m4:=m4.ok
    try simp only[PR.vl]at m4
    simp only[PR.bind]at hr
    rw[autoT_eq a]at m4
    repeat' (first|refine wkt ?_|(apply TO.add;exact rfl;exact rfl;exact rfl;omega;omega)|(apply TO.appendB tabOk;exact rfl;exact rfl;exact rfl;exact rfl;exact rfl;exact rfl;exact rfl;exact rfl;exact rfl;exact rfl;exact rfl;exact rfl;exact rfl;(first|omega|(simp only[List.length_append,List.length_cons,List.length_nil];omega));exact rfl)|refine we m4 ?_ ?_|exact wkc|intro hc|refine wk2 ?_ ?_|fail)
    refine LoopK.next (m,k,xs,as'++[a]) ⟨?_,m4b,?_,?_,?_,hr⟩ ?_ ⟨rfl,rfl,rfl,?_,trivial⟩ ?_
    ·show i≤k;omega
    ·show l.length-k<m;omega
    ·show xs.length≤k;omega
    ·show(as'++[a]).length≤k;rw[List.length_append];simp only[List.length_cons,List.length_nil];omega
    ·show l.length-k<l.length-j3;omega
    ·show _=some (SV.sl 1 ((as'++[a]).map autoT) 2);rw[List.map_append,List.map_cons,List.map_nil,autoT_eq a];rfl
    ·show _=[rdB l n es k,.tail (xs.map equT).length,.tail ((as'++[a]).map autoT).length];rw[List.map_append,List.map_cons,List.map_nil,List.length_append];rfl
 | false=>
 rw[h1]at t1
 rw[if_neg (by rw[h1];decide)]at hr
 have t2:=kind_sound l n es j 1 hl
 have t3:=is_sound l n es j [40] hl
 cases h2:(rdr l es).kind j 1 with
 | true=>
   rw[h2]at t2
   have hor:((rdr l es).kind j 1 || (rdr l es).isAt j [40])=true:=by rw[h2];rfl
   rw[if_pos hor]at hr
   refine wk ?_
   repeat' (first|refine wkt ?_|(apply TO.add;exact rfl;exact rfl;exact rfl;omega;omega)|refine wd t1 ?_|refine wd t2 ?_|refine wd t3 ?_|exact wkc|intro hc|refine wk2 ?_ ?_|fail)
   obtain⟨m3,m3i⟩:=limC l n es j (xs.map equT).length xs.length 256 hl q2 hml
   cases qm3:limR xs.length 256 j with
   | er ke c=>
     rw[qm3]at m3 m3i hr
     have hc0:=m3i.2
     replace m3:=m3.er
     try simp only[PR.vl]at m3
     simp only[PR.bind]at hr
     repeat' (first|refine wkt ?_|(apply TO.add;exact rfl;exact rfl;exact rfl;omega;omega)|refine we m3 ?_ ?_|exact wkc|intro hc|refine wk2 ?_ ?_|fail)
     repeat' (first|refine LoopK.panic ?_|refine wk ?_|fail)
     exact rdP hr.symm hc0
   | ok u3 j3=>
   rw[qm3]at m3 m3i hr
   obtain⟨m3a,m3b⟩:=m3i
   replace m3:=m3.ok
   try simp only[PR.vl]at m3
   simp only[PR.bind]at hr
   obtain⟨hlt4,rfl⟩:=limR_ok qm3
   repeat' (first|refine wkt ?_|(apply TO.add;exact rfl;exact rfl;exact rfl;omega;omega)|refine we m3 ?_ ?_|exact wkc|intro hc|refine wk2 ?_ ?_|fail)
   obtain⟨m4,m4i⟩:=equationC l n es j3 hk hes q2
   cases qm4:(rdr l es).equation (rdr l es).expr j3 with
   | er ke c=>
     rw[qm4]at m4 m4i hr
     have hc0:=m4i.2
     replace m4:=m4.er
     try simp only[PR.vl]at m4
     simp only[PR.bind]at hr
     repeat' (first|refine wkt ?_|(apply TO.add;exact rfl;exact rfl;exact rfl;omega;omega)|refine we m4 ?_ ?_|exact wkc|intro hc|refine wk2 ?_ ?_|fail)
     repeat' (first|refine LoopK.panic ?_|refine wk ?_|fail)
     exact rdP hr.symm hc0
   | ok e k=>
   rw[qm4]at m4 m4i hr
   obtain⟨m4a,m4b⟩:=m4i
   replace m4:=m4.ok
   try simp only[PR.vl]at m4
   simp only[PR.bind]at hr
   rw[equT_eq e]at m4
   repeat' (first|refine wkt ?_|(apply TO.add;exact rfl;exact rfl;exact rfl;omega;omega)|(apply TO.appendB tabOk;exact rfl;exact rfl;exact rfl;exact rfl;exact rfl;exact rfl;exact rfl;exact rfl;exact rfl;exact rfl;exact rfl;exact rfl;exact rfl;(first|omega|(simp only[List.length_append,List.length_cons,List.length_nil];omega));exact rfl)|refine we m4 ?_ ?_|exact wkc|intro hc|refine wk2 ?_ ?_|fail)
   refine LoopK.next (m,k,xs++[e],as') ⟨?_,m4b,?_,?_,?_,hr⟩ ?_ ⟨rfl,rfl,?_,rfl,trivial⟩ ?_
   ·show i≤k;omega
   ·show l.length-k<m;omega
   ·show(xs++[e]).length≤k;rw[List.length_append];simp only[List.length_cons,List.length_nil];omega
   ·show as'.length≤k;omega
   ·show l.length-k<l.length-j3;omega
   ·show _=some (SV.sl 7 ((xs++[e]).map equT) 1);rw[List.map_append,List.map_cons,List.map_nil,equT_eq e];rfl
   ·show _=[rdB l n es k,.tail ((xs++[e]).map equT).length,.tail (as'.map autoT).length];rw[List.map_append,List.map_cons,List.map_nil,List.length_append];rfl
 | false=>
 rw[h2]at t2
 cases h3:(rdr l es).isAt j [40] with
 | true=>
   rw[h3]at t3
   have hor:((rdr l es).kind j 1 || (rdr l es).isAt j [40])=true:=by rw[h2,h3];rfl
   rw[if_pos hor]at hr
   refine wk ?_
   repeat' (first|refine wkt ?_|(apply TO.add;exact rfl;exact rfl;exact rfl;omega;omega)|refine wd t1 ?_|refine wd t2 ?_|refine wd t3 ?_|exact wkc|intro hc|refine wk2 ?_ ?_|fail)
   obtain⟨m3,m3i⟩:=limC l n es j (xs.map equT).length xs.length 256 hl q2 hml
   cases qm3:limR xs.length 256 j with
   | er ke c=>
     rw[qm3]at m3 m3i hr
     have hc0:=m3i.2
     replace m3:=m3.er
     try simp only[PR.vl]at m3
     simp only[PR.bind]at hr
     repeat' (first|refine wkt ?_|(apply TO.add;exact rfl;exact rfl;exact rfl;omega;omega)|refine we m3 ?_ ?_|exact wkc|intro hc|refine wk2 ?_ ?_|fail)
     repeat' (first|refine LoopK.panic ?_|refine wk ?_|fail)
     exact rdP hr.symm hc0
   | ok u3 j3=>
   rw[qm3]at m3 m3i hr
   obtain⟨m3a,m3b⟩:=m3i
   replace m3:=m3.ok
   try simp only[PR.vl]at m3
   simp only[PR.bind]at hr
   obtain⟨hlt4,rfl⟩:=limR_ok qm3
   repeat' (first|refine wkt ?_|(apply TO.add;exact rfl;exact rfl;exact rfl;omega;omega)|refine we m3 ?_ ?_|exact wkc|intro hc|refine wk2 ?_ ?_|fail)
   obtain⟨m4,m4i⟩:=equationC l n es j3 hk hes q2
   cases qm4:(rdr l es).equation (rdr l es).expr j3 with
   | er ke c=>
     rw[qm4]at m4 m4i hr
     have hc0:=m4i.2
     replace m4:=m4.er
     try simp only[PR.vl]at m4
     simp only[PR.bind]at hr
     repeat' (first|refine wkt ?_|(apply TO.add;exact rfl;exact rfl;exact rfl;omega;omega)|refine we m4 ?_ ?_|exact wkc|intro hc|refine wk2 ?_ ?_|fail)
     repeat' (first|refine LoopK.panic ?_|refine wk ?_|fail)
     exact rdP hr.symm hc0
   | ok e k=>
   rw[qm4]at m4 m4i hr
   obtain⟨m4a,m4b⟩:=m4i
   replace m4:=m4.ok
   try simp only[PR.vl]at m4
   simp only[PR.bind]at hr
   rw[equT_eq e]at m4
   repeat' (first|refine wkt ?_|(apply TO.add;exact rfl;exact rfl;exact rfl;omega;omega)|(apply TO.appendB tabOk;exact rfl;exact rfl;exact rfl;exact rfl;exact rfl;exact rfl;exact rfl;exact rfl;exact rfl;exact rfl;exact rfl;exact rfl;exact rfl;(first|omega|(simp only[List.length_append,List.length_cons,List.length_nil];omega));exact rfl)|refine we m4 ?_ ?_|exact wkc|intro hc|refine wk2 ?_ ?_|fail)
   refine LoopK.next (m,k,xs++[e],as') ⟨?_,m4b,?_,?_,?_,hr⟩ ?_ ⟨rfl,rfl,?_,rfl,trivial⟩ ?_
   ·show i≤k;omega
   ·show l.length-k<m;omega
   ·show(xs++[e]).length≤k;rw[List.length_append];simp only[List.length_cons,List.length_nil];omega
   ·show as'.length≤k;omega
   ·show l.length-k<l.length-j3;omega
   ·show _=some (SV.sl 7 ((xs++[e]).map equT) 1);rw[List.map_append,List.map_cons,List.map_nil,equT_eq e];rfl
   ·show _=[rdB l n es k,.tail ((xs++[e]).map equT).length,.tail (as'.map autoT).length];rw[List.map_append,List.map_cons,List.map_nil,List.length_append];rfl
 | false=>
 rw[h3]at t3
 rw[if_neg (by rw[h2,h3];decide)]at hr
 subst hr
 refine wk ?_
 repeat' (first|refine wkt ?_|(apply TO.add;exact rfl;exact rfl;exact rfl;omega;omega)|refine wd t1 ?_|refine wd t2 ?_|refine wd t3 ?_|refine LoopK.ret ?_|exact wkc|intro hc|refine wk2 ?_ ?_|fail)
 apply rdV rfl
 ·exact rfl
 ·rw[vlE]
  exact Le.tup ⟨Le.own _ _ _,Le.own _ _ _,trivial⟩
 all_goals exact rfl
structure NoW (l:List Tok):Prop where
 au:∀es j,(rdr l es).isAt j [97,117,116,111,109,97,116,111,110]=false
 as':∀es j,(rdr l es).isAt j [97,115,115,117,109,101]=false
 en:∀es j,(rdr l es).isAt j [101,110,115,117,114,101]=false
 ty:∀es j,(rdr l es).isAt j [116,121,112,101]=false
theorem claims_none{R:Rd}{f:Nat->PR Ex}:∀ {m:Nat} {a e:List Ex} {i:Nat},R.isAt i [97,115,115,117,109,101]=false->R.isAt i [101,110,115,117,114,101]=false->R.claims f m a e i= .ok (a,e) i
 | 0,_,_,_,_,_=>rfl
 | m+1,a,e,i,h1,h2=>by rw[Rd.claims,h1,if_neg (by decide),h2,if_neg (by decide)]
theorem body_in0{R:Rd}{f:Nat->PR Ex}(hf:∀i,i≤R.K.length->InR R.K.length (i+1) (f i)){au:Nat->PR Auto}{deep:Bool}(ha:∀j,R.isAt j [97,117,116,111,109,97,116,111,110]=false):∀(m:Nat) (q:List Equ) (a:List Auto) {i:Nat},i≤R.K.length->InR R.K.length i (R.body f au deep m q a i)
 | 0,q,a,i,h=>⟨Nat.le_refl _,h⟩
 | m+1,q,a,i,h=>by
   unfold Rd.body
   refine InR.ite (fun hs=>by rw[ha i]at hs;cases hs) fun _=>
    InR.ite (fun _=>(limR_in h).bind fun _ _ _ _=>(equation_in hf h).bind fun x j h1 h2=>(body_in0 hf ha m _ _ h2).le (by omega)) fun _=>⟨Nat.le_refl _,h⟩
abbrev noN:Nod:=⟨[],[],[],[],[],[],[],[]⟩
theorem localsC(l:List Tok)(n:Int)(es:List En)(i:Nat)(hk:TkOk l)(hes:EsOk es)(hi:i≤l.length):RdS l n es 71 [] i ((rdr l es).locals i) (.t (.sl 3 ((((rdr l es).locals i).vl []).map declT)))/\InR l.length i ((rdr l es).locals i):=by
 have h:=locals_in (R:=rdr l es) (i:=i) (by rw[rdr_len];exact hi)
 rw[rdr_len]at h
 exact⟨locals_sound l n es i hk hes hi,h⟩
theorem body3C(l:List Tok)(n:Int)(es:List En)(i:Nat)(hk:TkOk l)(hes:EsOk es)(hi:i≤l.length)(hw:NoW l):RdS l n es 72 [.i 0] i ((rdr l es).bodyD (rdr l es).expr 3 i) (.tup [.t (.sl 7 ((((rdr l es).bodyD (rdr l es).expr 3 i).vl ([],[])).1.map equT)),.t (.sl 1 ((((rdr l es).bodyD (rdr l es).expr 3 i).vl ([],[])).2.map autoT))])/\InR l.length i ((rdr l es).bodyD (rdr l es).expr 3 i):=by
 refine⟨body_sound l n es i hk hes hi 0 (by decide) ((rdr l es).automaton (rdr l es).expr ((rdr l es).bodyD (rdr l es).expr 2)) (fun _ j hj=>by rw[hw.au es j]at hj;cases hj),?_⟩
 have h:=body_in0 (R:=rdr l es) (f:=(rdr l es).expr) (fun j hj=>by rw[rdr_len]at hj⊢;exact(exprC l n es j hk hes hj).2) (au:=(rdr l es).automaton (rdr l es).expr ((rdr l es).bodyD (rdr l es).expr 2)) (deep:=false) (hw.au es) ((rdr l es).K.length+1) [] [] (i:=i) (by rw[rdr_len];exact hi)
 rw[rdr_len]at h
 unfold Rd.bodyD
 rw[rdr_len]
 exact h
abbrev nodZ:Blk:=.cells [.t (.v (str [])),.t (.v (.slice none 0 0)),.t (.v (.slice none 0 0)),.t (.v (.slice none 0 0)),.t (.v (.slice none 0 0)),.t (.v (.slice none 0 0)),.t (.v (.slice none 0 0)),.t (.v (.slice none 0 0))]
set_option maxHeartbeats 16000000 in
theorem node_sound' (l:List Tok) (n:Int) (es:List En) (i:Nat) (hk:TkOk l) (hes:EsOk es) (hi:i≤l.length) (hw:NoW l):RdS l n es 45 [] i ((rdr l es).node (rdr l es).expr i) (.t (nodT (((rdr l es).node (rdr l es).expr i).vl noN))):=by
 have hl:=hk.len
 generalize hr:(rdr l es).node (rdr l es).expr i=r
 unfold Rd.node Rd.ins at hr
 refine Sound.err rfl (fun _=>rfl) ?_
 refine so Tryz.func45 ?_
 repeat' (first|refine wkb ?_|(apply TO.add;exact rfl;exact rfl;exact rfl;omega;omega)|refine wk ?_|exact wkc|intro hc|refine wk2 ?_ ?_|fail)
 obtain⟨m1,m1i⟩:=idC l n es i hl hi
 cases qm1:(rdr l es).id i with
 | er ke c=>
   rw[qm1]at m1 m1i hr
   have hc0:=m1i.2
   replace m1:=m1.er
   try simp only[PR.vl]at m1
   simp only[PR.bind]at hr
   repeat' (first|refine wkt ?_|(apply TO.add;exact rfl;exact rfl;exact rfl;omega;omega)|refine we m1 ?_ ?_|exact wkc|intro hc|refine wk2 ?_ ?_|fail)
   repeat' (first|refine LoopK.panic ?_|refine wk ?_|fail)
   exact rdP hr.symm hc0
 | ok s j1=>
 rw[qm1]at m1 m1i hr
 obtain⟨m1a,m1b⟩:=m1i
 replace m1:=m1.ok
 try simp only[PR.vl]at m1
 simp only[PR.bind]at hr
 repeat' (first|refine wkb ?_|(apply TO.add;exact rfl;exact rfl;exact rfl;omega;omega)|refine we m1 ?_ ?_|refine wk ?_|exact wkc|intro hc|refine wk2 ?_ ?_|fail)
 obtain⟨m2,m2i⟩:=mustC l n es j1 [[40]] hl m1b (by decide)
 cases qm2:(rdr l es).must [[40]] j1 with
 | er ke c=>
   rw[qm2]at m2 m2i hr
   have hc0:=m2i.2
   replace m2:=m2.er
   try simp only[PR.vl]at m2
   simp only[PR.bind]at hr
   repeat' (first|refine wkt ?_|(apply TO.add;exact rfl;exact rfl;exact rfl;omega;omega)|refine we m2 ?_ ?_|exact wkc|intro hc|refine wk2 ?_ ?_|fail)
   repeat' (first|refine LoopK.panic ?_|refine wk ?_|fail)
   exact rdP hr.symm hc0
 | ok u2 j2=>
 rw[qm2]at m2 m2i hr
 obtain⟨m2a,m2b⟩:=m2i
 replace m2:=m2.ok
 try simp only[PR.vl]at m2
 simp only[PR.bind]at hr
 repeat' (first|refine wkt ?_|(apply TO.add;exact rfl;exact rfl;exact rfl;omega;omega)|refine we m2 ?_ ?_|exact wkc|intro hc|refine wk2 ?_ ?_|fail)
 have t1:=is_sound l n es j2 [41] hl
 cases h1:(rdr l es).isAt j2 [41] with
 | true=>
   have hlth1:=isAt_lt h1
   rw[rdr_len]at hlth1
   rw[h1]at t1
   rw[if_pos h1]at hr
   simp only[PR.bind]at hr
   repeat' (first|refine wkt ?_|(apply TO.add;exact rfl;exact rfl;exact rfl;omega;omega)|refine wd t1 ?_|exact wkc|intro hc|refine wk2 ?_ ?_|fail)
   obtain⟨m4,m4i⟩:=mustC l n es j2 [[41],[114,101,116,117,114,110,115],[40]] hl m2b (by decide)
   cases qm4:(rdr l es).must [[41],[114,101,116,117,114,110,115],[40]] j2 with
   | er ke c=>
     rw[qm4]at m4 m4i hr
     have hc0:=m4i.2
     replace m4:=m4.er
     try simp only[PR.vl]at m4
     simp only[PR.bind]at hr
     repeat' (first|refine wkt ?_|(apply TO.add;exact rfl;exact rfl;exact rfl;omega;omega)|refine we m4 ?_ ?_|exact wkc|intro hc|refine wk2 ?_ ?_|fail)
     repeat' (first|refine LoopK.panic ?_|refine wk ?_|fail)
     exact rdP hr.symm hc0
   | ok u4 j4=>
   rw[qm4]at m4 m4i hr
   obtain⟨m4a,m4b⟩:=m4i
   replace m4:=m4.ok
   try simp only[PR.vl]at m4
   simp only[PR.bind]at hr
   repeat' (first|refine wkt ?_|(apply TO.add;exact rfl;exact rfl;exact rfl;omega;omega)|refine we m4 ?_ ?_|exact wkc|intro hc|refine wk2 ?_ ?_|fail)
   obtain⟨m5,m5i⟩:=declsRC l n es j4 hk hes m4b 64 false (by decide)
   cases qm5:(rdr l es).decls 64 false ((rdr l es).K.length+1) [] j4 with
   | er ke c=>
     rw[qm5]at m5 m5i hr
     have hc0:=m5i.2
     replace m5:=m5.er
     try simp only[PR.vl]at m5
     simp only[PR.bind]at hr
     repeat' (first|refine wkt ?_|(apply TO.add;exact rfl;exact rfl;exact rfl;omega;omega)|refine we m5 ?_ ?_|exact wkc|intro hc|refine wk2 ?_ ?_|fail)
     repeat' (first|refine LoopK.panic ?_|refine wk ?_|fail)
     exact rdP hr.symm hc0
   | ok b j5=>
   rw[qm5]at m5 m5i hr
   obtain⟨m5a,m5b⟩:=m5i
   replace m5:=m5.ok
   try simp only[PR.vl]at m5
   simp only[PR.bind]at hr
   repeat' (first|refine wkt ?_|(apply TO.add;exact rfl;exact rfl;exact rfl;omega;omega)|refine we m5 ?_ ?_|exact wkc|intro hc|refine wk2 ?_ ?_|fail)
   obtain⟨m6,m6i⟩:=mustC l n es j5 [[41]] hl m5b (by decide)
   cases qm6:(rdr l es).must [[41]] j5 with
   | er ke c=>
     rw[qm6]at m6 m6i hr
     have hc0:=m6i.2
     replace m6:=m6.er
     try simp only[PR.vl]at m6
     simp only[PR.bind]at hr
     repeat' (first|refine wkt ?_|(apply TO.add;exact rfl;exact rfl;exact rfl;omega;omega)|refine we m6 ?_ ?_|exact wkc|intro hc|refine wk2 ?_ ?_|fail)
     repeat' (first|refine LoopK.panic ?_|refine wk ?_|fail)
     exact rdP hr.symm hc0
   | ok u6 j6=>
   rw[qm6]at m6 m6i hr
   obtain⟨m6a,m6b⟩:=m6i
   replace m6:=m6.ok
   try simp only[PR.vl]at m6
   simp only[PR.bind]at hr
   repeat' (first|refine wkt ?_|(apply TO.add;exact rfl;exact rfl;exact rfl;omega;omega)|refine we m6 ?_ ?_|exact wkc|intro hc|refine wk2 ?_ ?_|fail)
   obtain⟨m7,m7i⟩:=localsC l n es j6 hk hes m6b
   cases qm7:(rdr l es).locals j6 with
   | er ke c=>
     rw[qm7]at m7 m7i hr
     have hc0:=m7i.2
     replace m7:=m7.er
     try simp only[PR.vl]at m7
     simp only[PR.bind]at hr
     repeat' (first|refine wkt ?_|(apply TO.add;exact rfl;exact rfl;exact rfl;omega;omega)|refine we m7 ?_ ?_|exact wkc|intro hc|refine wk2 ?_ ?_|fail)
     repeat' (first|refine LoopK.panic ?_|refine wk ?_|fail)
     exact rdP hr.symm hc0
   | ok d j7=>
   rw[qm7]at m7 m7i hr
   obtain⟨m7a,m7b⟩:=m7i
   replace m7:=m7.ok
   try simp only[PR.vl]at m7
   simp only[PR.bind]at hr
   repeat' (first|refine wkt ?_|(apply TO.add;exact rfl;exact rfl;exact rfl;omega;omega)|refine we m7 ?_ ?_|exact wkc|intro hc|refine wk2 ?_ ?_|fail)
   have t2:=is_sound l n es j7 [97,115,115,117,109,101] hl
   rw[hw.as' es j7]at t2
   have t3:=is_sound l n es j7 [101,110,115,117,114,101] hl
   rw[hw.en es j7]at t3
   rw[claims_none (hw.as' es j7) (hw.en es j7)]at hr
   simp only[PR.bind]at hr
   refine TR.loop_ind (ι:=Unit) (fun _=>True) (fun _=>0) (fun _=>[(0,.ref 0 0),(3,.ref 2 0),(2,.ref 1 0)]) (fun _=>[rdB l n es j7,nodZ,.cells [.t (.s s),.t (.v (.slice none 0 0)),.t (.sl 3 (b.map declT)),.t (.sl 3 (d.map declT)),.t (.v (.slice none 0 0)),.t (.v (.slice none 0 0)),.t (.v (.slice none 0 0)),.t (.v (.slice none 0 0))]]) () trivial ⟨rfl,rfl,rfl,trivial⟩ rfl ?_
   intro _ _
   refine wk ?_
   repeat' (first|refine wkt ?_|(apply TO.add;exact rfl;exact rfl;exact rfl;omega;omega)|refine wd t2 ?_|refine wd t3 ?_|refine LoopK.exit ?_|refine wk ?_|exact wkc|intro hc|refine wk2 ?_ ?_|fail)
   obtain⟨m8,m8i⟩:=mustC l n es j7 [[108,101,116]] hl m7b (by decide)
   cases qm8:(rdr l es).must [[108,101,116]] j7 with
   | er ke c=>
     rw[qm8]at m8 m8i hr
     have hc0:=m8i.2
     replace m8:=m8.er
     try simp only[PR.vl]at m8
     simp only[PR.bind]at hr
     repeat' (first|refine wkt ?_|(apply TO.add;exact rfl;exact rfl;exact rfl;omega;omega)|refine we m8 ?_ ?_|exact wkc|intro hc|refine wk2 ?_ ?_|fail)
     repeat' (first|refine LoopK.panic ?_|refine wk ?_|fail)
     exact rdP hr.symm hc0
   | ok u8 j8=>
   rw[qm8]at m8 m8i hr
   obtain⟨m8a,m8b⟩:=m8i
   replace m8:=m8.ok
   try simp only[PR.vl]at m8
   simp only[PR.bind]at hr
   repeat' (first|refine wkt ?_|(apply TO.add;exact rfl;exact rfl;exact rfl;omega;omega)|refine we m8 ?_ ?_|exact wkc|intro hc|refine wk2 ?_ ?_|fail)
   obtain⟨m9,m9i⟩:=body3C l n es j8 hk hes m8b hw
   cases qm9:(rdr l es).bodyD (rdr l es).expr 3 j8 with
   | er ke c=>
     rw[qm9]at m9 m9i hr
     have hc0:=m9i.2
     replace m9:=m9.er
     try simp only[PR.vl]at m9
     simp only[PR.bind]at hr
     repeat' (first|refine wkt ?_|(apply TO.add;exact rfl;exact rfl;exact rfl;omega;omega)|refine we m9 ?_ ?_|exact wkc|intro hc|refine wk2 ?_ ?_|fail)
     repeat' (first|refine LoopK.panic ?_|refine wk ?_|fail)
     exact rdP hr.symm hc0
   | ok qa j9=>
   rw[qm9]at m9 m9i hr
   obtain⟨m9a,m9b⟩:=m9i
   replace m9:=m9.ok
   try simp only[PR.vl]at m9
   simp only[PR.bind]at hr
   repeat' (first|refine wkt ?_|(apply TO.add;exact rfl;exact rfl;exact rfl;omega;omega)|refine we m9 ?_ ?_|exact wkc|intro hc|refine wk2 ?_ ?_|fail)
   obtain⟨m10,m10i⟩:=mustC l n es j9 [[116,101,108]] hl m9b (by decide)
   cases qm10:(rdr l es).must [[116,101,108]] j9 with
   | er ke c=>
     rw[qm10]at m10 m10i hr
     have hc0:=m10i.2
     replace m10:=m10.er
     try simp only[PR.vl]at m10
     simp only[PR.bind]at hr
     repeat' (first|refine wkt ?_|(apply TO.add;exact rfl;exact rfl;exact rfl;omega;omega)|refine we m10 ?_ ?_|exact wkc|intro hc|refine wk2 ?_ ?_|fail)
     repeat' (first|refine LoopK.panic ?_|refine wk ?_|fail)
     exact rdP hr.symm hc0
   | ok u10 j10=>
   rw[qm10]at m10 m10i hr
   obtain⟨m10a,m10b⟩:=m10i
   replace m10:=m10.ok
   try simp only[PR.vl]at m10
   simp only[PR.bind]at hr
   subst hr
   repeat' (first|refine wkt ?_|(apply TO.add;exact rfl;exact rfl;exact rfl;omega;omega)|refine we m10 ?_ ?_|exact wkc|intro hc|refine wk2 ?_ ?_|fail)
   apply rdV rfl
   ·exact rfl
   ·rw[vlE]
    unfold nodT
    simp only
    (repeat' (first|exact trivial|exact Go.TL.Le.refl _|refine And.intro ?_ ?_|exact Go.TL.Le.any _|exact Go.TL.Le.nil _|exact Go.TL.Le.own _ _ _|refine Go.TL.Le.tree rfl ?_|exact Go.TL.TLe.refl _|exact Go.TL.TLe.nil _|refine Go.TL.TLe.ags ?_|fail))
   all_goals exact rfl
 | false=>
 rw[h1]at t1
 rw[if_neg (by rw[h1];decide)]at hr
 repeat' (first|refine wkt ?_|(apply TO.add;exact rfl;exact rfl;exact rfl;omega;omega)|refine wd t1 ?_|exact wkc|intro hc|refine wk2 ?_ ?_|fail)
 obtain⟨m3,m3i⟩:=declsRC l n es j2 hk hes m2b 64 false (by decide)
 cases qm3:(rdr l es).decls 64 false ((rdr l es).K.length+1) [] j2 with
 | er ke c=>
   rw[qm3]at m3 m3i hr
   have hc0:=m3i.2
   replace m3:=m3.er
   try simp only[PR.vl]at m3
   simp only[PR.bind]at hr
   repeat' (first|refine wkt ?_|(apply TO.add;exact rfl;exact rfl;exact rfl;omega;omega)|refine we m3 ?_ ?_|exact wkc|intro hc|refine wk2 ?_ ?_|fail)
   repeat' (first|refine LoopK.panic ?_|refine wk ?_|fail)
   exact rdP hr.symm hc0
 | ok a j3=>
 rw[qm3]at m3 m3i hr
 obtain⟨m3a,m3b⟩:=m3i
 replace m3:=m3.ok
 try simp only[PR.vl]at m3
 simp only[PR.bind]at hr
 repeat' (first|refine wkt ?_|(apply TO.add;exact rfl;exact rfl;exact rfl;omega;omega)|refine we m3 ?_ ?_|exact wkc|intro hc|refine wk2 ?_ ?_|fail)
 obtain⟨m4,m4i⟩:=mustC l n es j3 [[41],[114,101,116,117,114,110,115],[40]] hl m3b (by decide)
 cases qm4:(rdr l es).must [[41],[114,101,116,117,114,110,115],[40]] j3 with
 | er ke c=>
   rw[qm4]at m4 m4i hr
   have hc0:=m4i.2
   replace m4:=m4.er
   try simp only[PR.vl]at m4
   simp only[PR.bind]at hr
   repeat' (first|refine wkt ?_|(apply TO.add;exact rfl;exact rfl;exact rfl;omega;omega)|refine we m4 ?_ ?_|exact wkc|intro hc|refine wk2 ?_ ?_|fail)
   repeat' (first|refine LoopK.panic ?_|refine wk ?_|fail)
   exact rdP hr.symm hc0
 | ok u4 j4=>
 rw[qm4]at m4 m4i hr
 obtain⟨m4a,m4b⟩:=m4i
 replace m4:=m4.ok
 try simp only[PR.vl]at m4
 simp only[PR.bind]at hr
 repeat' (first|refine wkt ?_|(apply TO.add;exact rfl;exact rfl;exact rfl;omega;omega)|refine we m4 ?_ ?_|exact wkc|intro hc|refine wk2 ?_ ?_|fail)
 obtain⟨m5,m5i⟩:=declsRC l n es j4 hk hes m4b 64 false (by decide)
 cases qm5:(rdr l es).decls 64 false ((rdr l es).K.length+1) [] j4 with
 | er ke c=>
   rw[qm5]at m5 m5i hr
   have hc0:=m5i.2
   replace m5:=m5.er
   try simp only[PR.vl]at m5
   simp only[PR.bind]at hr
   repeat' (first|refine wkt ?_|(apply TO.add;exact rfl;exact rfl;exact rfl;omega;omega)|refine we m5 ?_ ?_|exact wkc|intro hc|refine wk2 ?_ ?_|fail)
   repeat' (first|refine LoopK.panic ?_|refine wk ?_|fail)
   exact rdP hr.symm hc0
 | ok b j5=>
 rw[qm5]at m5 m5i hr
 obtain⟨m5a,m5b⟩:=m5i
 replace m5:=m5.ok
 try simp only[PR.vl]at m5
 simp only[PR.bind]at hr
 repeat' (first|refine wkt ?_|(apply TO.add;exact rfl;exact rfl;exact rfl;omega;omega)|refine we m5 ?_ ?_|exact wkc|intro hc|refine wk2 ?_ ?_|fail)
 obtain⟨m6,m6i⟩:=mustC l n es j5 [[41]] hl m5b (by decide)
 cases qm6:(rdr l es).must [[41]] j5 with
 | er ke c=>
   rw[qm6]at m6 m6i hr
   have hc0:=m6i.2
   replace m6:=m6.er
   try simp only[PR.vl]at m6
   simp only[PR.bind]at hr
   repeat' (first|refine wkt ?_|(apply TO.add;exact rfl;exact rfl;exact rfl;omega;omega)|refine we m6 ?_ ?_|exact wkc|intro hc|refine wk2 ?_ ?_|fail)
   repeat' (first|refine LoopK.panic ?_|refine wk ?_|fail)
   exact rdP hr.symm hc0
 | ok u6 j6=>
 rw[qm6]at m6 m6i hr
 obtain⟨m6a,m6b⟩:=m6i
 replace m6:=m6.ok
 try simp only[PR.vl]at m6
 simp only[PR.bind]at hr
 repeat' (first|refine wkt ?_|(apply TO.add;exact rfl;exact rfl;exact rfl;omega;omega)|refine we m6 ?_ ?_|exact wkc|intro hc|refine wk2 ?_ ?_|fail)
 obtain⟨m7,m7i⟩:=localsC l n es j6 hk hes m6b
 cases qm7:(rdr l es).locals j6 with
 | er ke c=>
   rw[qm7]at m7 m7i hr
   have hc0:=m7i.2
   replace m7:=m7.er
   try simp only[PR.vl]at m7
   simp only[PR.bind]at hr
   repeat' (first|refine wkt ?_|(apply TO.add;exact rfl;exact rfl;exact rfl;omega;omega)|refine we m7 ?_ ?_|exact wkc|intro hc|refine wk2 ?_ ?_|fail)
   repeat' (first|refine LoopK.panic ?_|refine wk ?_|fail)
   exact rdP hr.symm hc0
 | ok d j7=>
 rw[qm7]at m7 m7i hr
 obtain⟨m7a,m7b⟩:=m7i
 replace m7:=m7.ok
 try simp only[PR.vl]at m7
 simp only[PR.bind]at hr
 repeat' (first|refine wkt ?_|(apply TO.add;exact rfl;exact rfl;exact rfl;omega;omega)|refine we m7 ?_ ?_|exact wkc|intro hc|refine wk2 ?_ ?_|fail)
 have t2:=is_sound l n es j7 [97,115,115,117,109,101] hl
 rw[hw.as' es j7]at t2
 have t3:=is_sound l n es j7 [101,110,115,117,114,101] hl
 rw[hw.en es j7]at t3
 rw[claims_none (hw.as' es j7) (hw.en es j7)]at hr
 simp only[PR.bind]at hr
 refine TR.loop_ind (ι:=Unit) (fun _=>True) (fun _=>0) (fun _=>[(0,.ref 0 0),(3,.ref 2 0),(2,.ref 1 0)]) (fun _=>[rdB l n es j7,nodZ,.cells [.t (.s s),.t (.sl 3 (a.map declT)),.t (.sl 3 (b.map declT)),.t (.sl 3 (d.map declT)),.t (.v (.slice none 0 0)),.t (.v (.slice none 0 0)),.t (.v (.slice none 0 0)),.t (.v (.slice none 0 0))]]) () trivial ⟨rfl,rfl,rfl,trivial⟩ rfl ?_
 intro _ _
 refine wk ?_
 repeat' (first|refine wkt ?_|(apply TO.add;exact rfl;exact rfl;exact rfl;omega;omega)|refine wd t2 ?_|refine wd t3 ?_|refine LoopK.exit ?_|refine wk ?_|exact wkc|intro hc|refine wk2 ?_ ?_|fail)
 obtain⟨m8,m8i⟩:=mustC l n es j7 [[108,101,116]] hl m7b (by decide)
 cases qm8:(rdr l es).must [[108,101,116]] j7 with
 | er ke c=>
   rw[qm8]at m8 m8i hr
   have hc0:=m8i.2
   replace m8:=m8.er
   try simp only[PR.vl]at m8
   simp only[PR.bind]at hr
   repeat' (first|refine wkt ?_|(apply TO.add;exact rfl;exact rfl;exact rfl;omega;omega)|refine we m8 ?_ ?_|exact wkc|intro hc|refine wk2 ?_ ?_|fail)
   repeat' (first|refine LoopK.panic ?_|refine wk ?_|fail)
   exact rdP hr.symm hc0
 | ok u8 j8=>
 rw[qm8]at m8 m8i hr
 obtain⟨m8a,m8b⟩:=m8i
 replace m8:=m8.ok
 try simp only[PR.vl]at m8
 simp only[PR.bind]at hr
 repeat' (first|refine wkt ?_|(apply TO.add;exact rfl;exact rfl;exact rfl;omega;omega)|refine we m8 ?_ ?_|exact wkc|intro hc|refine wk2 ?_ ?_|fail)
 obtain⟨m9,m9i⟩:=body3C l n es j8 hk hes m8b hw
 cases qm9:(rdr l es).bodyD (rdr l es).expr 3 j8 with
 | er ke c=>
   rw[qm9]at m9 m9i hr
   have hc0:=m9i.2
   replace m9:=m9.er
   try simp only[PR.vl]at m9
   simp only[PR.bind]at hr
   repeat' (first|refine wkt ?_|(apply TO.add;exact rfl;exact rfl;exact rfl;omega;omega)|refine we m9 ?_ ?_|exact wkc|intro hc|refine wk2 ?_ ?_|fail)
   repeat' (first|refine LoopK.panic ?_|refine wk ?_|fail)
   exact rdP hr.symm hc0
 | ok qa j9=>
 rw[qm9]at m9 m9i hr
 obtain⟨m9a,m9b⟩:=m9i
 replace m9:=m9.ok
 try simp only[PR.vl]at m9
 simp only[PR.bind]at hr
 repeat' (first|refine wkt ?_|(apply TO.add;exact rfl;exact rfl;exact rfl;omega;omega)|refine we m9 ?_ ?_|exact wkc|intro hc|refine wk2 ?_ ?_|fail)
 obtain⟨m10,m10i⟩:=mustC l n es j9 [[116,101,108]] hl m9b (by decide)
 cases qm10:(rdr l es).must [[116,101,108]] j9 with
 | er ke c=>
   rw[qm10]at m10 m10i hr
   have hc0:=m10i.2
   replace m10:=m10.er
   try simp only[PR.vl]at m10
   simp only[PR.bind]at hr
   repeat' (first|refine wkt ?_|(apply TO.add;exact rfl;exact rfl;exact rfl;omega;omega)|refine we m10 ?_ ?_|exact wkc|intro hc|refine wk2 ?_ ?_|fail)
   repeat' (first|refine LoopK.panic ?_|refine wk ?_|fail)
   exact rdP hr.symm hc0
 | ok u10 j10=>
 rw[qm10]at m10 m10i hr
 obtain⟨m10a,m10b⟩:=m10i
 replace m10:=m10.ok
 try simp only[PR.vl]at m10
 simp only[PR.bind]at hr
 subst hr
 repeat' (first|refine wkt ?_|(apply TO.add;exact rfl;exact rfl;exact rfl;omega;omega)|refine we m10 ?_ ?_|exact wkc|intro hc|refine wk2 ?_ ?_|fail)
 apply rdV rfl
 ·exact rfl
 ·rw[vlE]
  unfold nodT
  simp only
  (repeat' (first|exact trivial|exact Go.TL.Le.refl _|refine And.intro ?_ ?_|exact Go.TL.Le.any _|exact Go.TL.Le.nil _|exact Go.TL.Le.own _ _ _|refine Go.TL.Le.tree rfl ?_|exact Go.TL.TLe.refl _|exact Go.TL.TLe.nil _|refine Go.TL.TLe.ags ?_|fail))
 all_goals exact rfl
end Go.Proofs.YtlfdkafebmdoiaaGreat
