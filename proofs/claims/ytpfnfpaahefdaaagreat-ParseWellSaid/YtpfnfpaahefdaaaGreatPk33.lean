import Derived.Test.YtpfnfpaahefdaaaGreatPk32
set_option linter.all false
namespace Go.Proofs.YtpfnfpaahefdaaaGreat
open Go Go.TL
attribute [local irreducible] TR TO Then zac RetK Sound zaf Kf GG zaY
theorem zfs{R:Rd}{f:Nat->PR Ex}:∀ {m:Nat} {a e:List Ex} {i:Nat},R.isAt i [97,115,115,117,109,101]=false->R.isAt i [101,110,115,117,114,101]=false->R.claims f m a e i= .ok (a,e) i
 | 0,_,_,_,_,_=>rfl
 | m+1,a,e,i,h1,h2=>by rw[Rd.claims,h1,if_neg (by decide),h2,if_neg (by decide)]
abbrev noN:Nod:=⟨[],[],[],[],[],[],[],[]⟩
theorem ziV(l:List Tok)(n:Int)(es:List En)(i:Nat)(hk:TkOk l)(hes:EsOk es)(hi:i≤l.length):RdS l n es 68 [] i ((rdr l es).locals i) (.t (.sl 3 ((((rdr l es).locals i).vl []).map zag)))/\InR l.length i ((rdr l es).locals i):=by
 have h:=zfN (R:=rdr l es) (i:=i) (by rw[zae];exact hi)
 rw[zae]at h
 exact⟨zh3 l n es i hk hes hi,h⟩
abbrev nodZ:Blk:=.cells [.t (.v (str [])),.t (.v (.slice none 0 0)),.t (.v (.slice none 0 0)),.t (.v (.slice none 0 0)),.t (.v (.slice none 0 0)),.t (.v (.slice none 0 0)),.t (.v (.slice none 0 0)),.t (.v (.slice none 0 0))]
end Go.Proofs.YtpfnfpaahefdaaaGreat
namespace Go.Proofs.YtpfnfpaahefdaaaGreat
open Go Go.TL
attribute [local irreducible] TR TO Then zac RetK Sound zaf Kf GG zaY
attribute [local irreducible] zaM zds
theorem zhn(r:Nat->Nat)(k:Nat)(x:T):(SV.tup [rowV 8 k 2,.t x]).ren r= .tup [rowV 8 k (r 2),.t x]:=by
 simp only[SV.ren,rens,zcs]
theorem zho(r:Nat->Nat)(g k:Nat)(ts:List T):[Blk.tail g,rowB k (ts.map .t)].map (Blk.ren r)=[.tail g,rowB k (ts.map .t)]:=by
 have h:=zcP r k ts
 simp only[qag,qas,h];rfl
abbrev ggT (g:List (Str×Nat)):T:=.sl 2 (g.map goT)
abbrev stC (ss:List Sta):List SV:=stCs (fun k=>5+k) 0 ss
abbrev nilB:Blk:=.cells [.t (.v (.slice none 0 0))]
abbrev GA (l:List Tok)(n:Int)(es:List En)(j:Nat)(ss:List Sta)(R:List (List Tran))(g:Nat):Heap:=rdB l n es j::nilB:: .cells [rowV 6 ss.length 4]:: .tail g::rowB ss.length (stC ss)::zbK (rR R)
theorem zjB{b0 b1 b2 b3 b4:Blk}(f:Nat->Blk){a:Nat}(h:a<16):(b0::b1::b2::b3::b4::zbK f)[5+a]?=some (f a):=by
 rw[show 5+a=a+1+1+1+1+1 by omega,qaO,qaO,qaO,qaO,qaO,zgG f h]
theorem zm2{b0 b1 b2 b3 b4:Blk}(f:Nat->Blk){a:Nat}(h:a<16)(x:Blk):List.set (b0::b1::b2::b3::b4::zbK f) (5+a) x=b0::b1::b2::b3::b4::zbK fun k=>if k=a then x else f k:=by
 rw[<-zgH f h,qce];rfl
theorem zn8(l:List Tok)(n:Int)(es:List En)(i:Nat)(hk:TkOk l)(hes:EsOk es)(hi:i≤l.length)(w:Str):RdX l n es 101 [.s w] i ((rdr l es).trans (rdr l es).expr w (rdr l es).K.length [] [] i) (.tup [rowV 8 ((((rdr l es).trans (rdr l es).expr w (rdr l es).K.length [] [] i).vl ([],[])).1.length) 2,.t (.sl 2 ((((rdr l es).trans (rdr l es).expr w (rdr l es).K.length [] [] i).vl ([],[])).2.map goT))]) [.tail ((((rdr l es).trans (rdr l es).expr w (rdr l es).K.length [] [] i).vl ([],[])).2.map goT).length,rowB (((rdr l es).trans (rdr l es).expr w (rdr l es).K.length [] [] i).vl ([],[])).1.length ((trCs (((rdr l es).trans (rdr l es).expr w (rdr l es).K.length [] [] i).vl ([],[])).1).map .t)]/\InR l.length i ((rdr l es).trans (rdr l es).expr w (rdr l es).K.length [] [] i):=by
 have h:=zfi (R:=rdr l es) (f:=(rdr l es).expr) (w:=w) (fun j hj=>by rw[zae]at hj⊢;exact(zez l n es j hk hes hj).2) (rdr l es).K.length [] [] (i:=i) (by rw[zae];exact hi)
 rw[zae]at h⊢
 exact⟨by have:=zjh l n es i hk hes hi w;rw[zae]at this;exact this,h⟩
def zoV(l:List Tok)(n:Int)(es:List En)(d:Nat)(bd:Nat->PR (List Equ×List Auto)):Prop:=∀j,j≤l.length->RdS l n es 69 [.i d] j (bd j) (.tup [.t (.sl 7 (((bd j).vl ([],[])).1.map equT)),.t (.sl 1 (((bd j).vl ([],[])).2.map zaP))])/\InR l.length j (bd j)
theorem zi9{R:Rd}{f:Nat->PR Ex}{bd:Nat->PR (List Equ×List Auto)}{m j:Nat}{ss:List Sta}{gs:List (List (Str×Nat))}(h:R.isAt j [115,116,97,116,101]=false):R.states f bd m ss gs j= .ok (ss,gs) j:=by
 cases m with
 | zero=>rfl
 | succ m=>unfold Rd.states;rw[if_neg (by rw[h];decide)]
set_option maxHeartbeats 64000000 in
set_option maxRecDepth 20000 in
theorem zkf (l:List Tok) (n:Int) (es:List En) (i:Nat) (hk:TkOk l) (hes:EsOk es) (hi:i≤l.length) (d:Nat) (hd:d≤3) (bd:Nat->PR (List Equ×List Auto)) (hbd:zoV l n es (d+1) bd):RdS l n es 88 [.i d] i ((rdr l es).automaton (rdr l es).expr bd i) (.t (zaP (((rdr l es).automaton (rdr l es).expr bd i).vl noA))):=by
 have hl:=hk.len
 generalize hr:((rdr l es).automaton (rdr l es).expr bd i)=r
 unfold Rd.automaton at hr
 refine Sound.err rfl (fun _=>rfl) ?_
 refine so Tryz.func88 ?_
 refine TR.dead ?_
 repeat' (first|refine wk ?_|fail)
 refine TR.tail 1 6 rfl ?_
 refine TR.zfe (ι:=Nat×Nat×List Sta×List (List (Str×Nat))) (fun x=>i≤x.2.1/\x.2.1≤l.length/\l.length-x.2.1≤x.1/\x.2.2.1.length≤8/\(rowsOf x.2.2.1).map List.length=x.2.2.2.map List.length/\(∀u∈rowsOf x.2.2.1,u.length≤4)/\(((rdr l es).states (rdr l es).expr bd x.1 x.2.2.1 x.2.2.2 x.2.1).bind fun x i=>((rdr l es).must [[101,110,100]] i).bind fun _ i=>(zdQ (x.1.map Sta.name) x.2).bind fun jss _=>(.ok (.mk (zdr x.1 jss)) i:PR Auto))=r) (fun x=>l.length-x.2.1) (fun x=>[(0,.ref 0 0),(1,.i d),(4,.ref 1 0),(5,.ref 2 0),(6,.sl 1 (x.2.2.2.map ggT) 3)]) (fun x=>GA l n es x.2.1 x.2.2.1 (rowsOf x.2.2.1) (x.2.2.2.map ggT).length) ((rdr l es).K.length,i,[],[])
  ⟨by show i≤i;omega,hi,by rw[zae];show l.length-i≤l.length;omega,by show 0≤8;omega,rfl,(fun u hu=>by cases hu),hr⟩ ⟨rfl,rfl,rfl,rfl,rfl,trivial⟩ 17 rfl ?_
 clear hr
 rintro⟨m,j,ss,gs⟩ ⟨q1,q2,q3,q4,q5,q6,hr⟩
 replace q1:i≤j:=q1
 replace q2:j≤l.length:=q2
 replace q3:l.length-j≤m:=q3
 replace q4:ss.length≤8:=q4
 replace q5:(rowsOf ss).map List.length=gs.map List.length:=q5
 replace q6:∀u∈rowsOf ss,u.length≤4:=q6
 replace hr:(((rdr l es).states (rdr l es).expr bd m ss gs j).bind fun x i=>((rdr l es).must [[101,110,100]] i).bind fun _ i=>(zdQ (x.1.map Sta.name) x.2).bind fun jss _=>(.ok (.mk (zdr x.1 jss)) i:PR Auto))=r:=hr
 have hgl:gs.length=2*ss.length:=by have:=congrArg List.length q5;rw[qad,qad,zc6]at this;exact this.symm
 have hmg:(gs.map ggT).length=gs.length:=qad _
 have hcl:(stC ss).length=ss.length*6:=zj0 _ _ _
 have t1:=zaF l n es j [115,116,97,116,101] hl
 show TR _ _ _ [(0,.ref 0 0),(1,.i d),(4,.ref 1 0),(5,.ref 2 0),(6,.sl 1 (gs.map ggT) 3)] (GA l n es j ss (rowsOf ss) (gs.map ggT).length) _
 cases h1:(rdr l es).isAt j [115,116,97,116,101] with
 | true=>
   have hlth1:=zaj h1
   rw[zae]at hlth1
   rw[h1]at t1
   cases m with
   | zero=>exfalso;omega
   | succ m=>
   rw[Rd.states,if_pos h1]at hr
   refine wk ?_
   repeat' (first|refine zql ?_|refine wd t1 ?_|(apply TO.lenR zaa;(iterate 4 exact rfl))|refine wk ?_|exact wkc|intro hc|refine wk2 ?_ ?_|fail)
   obtain⟨m3,m3i⟩:=limC l n es j ss.length ss.length 8 hl q2 rfl
   cases qm3:limR ss.length 8 j with
   | er ke c=>
     rw[qm3]at m3 m3i hr
     have hc0:=m3i.2
     replace m3:=m3.er
     try simp only[PR.vl]at m3
     simp only[PR.bind]at hr
     repeat' (first|refine zql ?_|refine we m3 ?_ ?_|refine wk ?_|exact wkc|intro hc|refine wk2 ?_ ?_|fail)
     repeat' (first|refine zaM.panic ?_|refine wk ?_|fail)
     refine rdPX hr.symm hc0 ?_
     exact leB
   | ok u3 j3=>
   rw[qm3]at m3 m3i hr
   obtain⟨m3a,m3b⟩:=m3i
   replace m3:=m3.ok
   try simp only[PR.vl]at m3
   simp only[PR.bind]at hr
   obtain⟨hlt4,rfl⟩:=za6 qm3
   repeat' (first|refine zql ?_|refine we m3 ?_ ?_|refine wk ?_|exact wkc|intro hc|refine wk2 ?_ ?_|fail)
   rw[Rd.state]at hr
   obtain⟨m4,m4i⟩:=idC l n es (j3+1) hl hlth1
   cases qm4:(rdr l es).id (j3+1) with
   | er ke c=>
     rw[qm4]at m4 m4i hr
     have hc0:=m4i.2
     replace m4:=m4.er
     try simp only[PR.vl]at m4
     simp only[PR.bind]at hr
     repeat' (first|refine zql ?_|refine we m4 ?_ ?_|refine wk ?_|exact wkc|intro hc|refine wk2 ?_ ?_|fail)
     repeat' (first|refine zaM.panic ?_|refine wk ?_|fail)
     refine rdPX hr.symm hc0 ?_
     exact leB
   | ok nm j4=>
   rw[qm4]at m4 m4i hr
   obtain⟨m4a,m4b⟩:=m4i
   replace m4:=m4.ok
   try simp only[PR.vl]at m4
   simp only[PR.bind]at hr
   repeat' (first|refine zql ?_|refine we m4 ?_ ?_|refine wk ?_|exact wkc|intro hc|refine wk2 ?_ ?_|fail)
   obtain⟨m5,m5i⟩:=ziV l n es j4 hk hes m4b
   cases qm5:(rdr l es).locals j4 with
   | er ke c=>
     rw[qm5]at m5 m5i hr
     have hc0:=m5i.2
     replace m5:=m5.er
     try simp only[PR.vl]at m5
     simp only[PR.bind]at hr
     repeat' (first|refine zql ?_|refine we m5 ?_ ?_|refine wk ?_|exact wkc|intro hc|refine wk2 ?_ ?_|fail)
     repeat' (first|refine zaM.panic ?_|refine wk ?_|fail)
     refine rdPX hr.symm hc0 ?_
     exact leB
   | ok ds j5=>
   rw[qm5]at m5 m5i hr
   obtain⟨m5a,m5b⟩:=m5i
   replace m5:=m5.ok
   try simp only[PR.vl]at m5
   simp only[PR.bind]at hr
   repeat' (first|refine zql ?_|refine we m5 ?_ ?_|refine wk ?_|exact wkc|intro hc|refine wk2 ?_ ?_|fail)
   obtain⟨m6,m6i⟩:=zn8 l n es j5 hk hes m5b [117,110,108,101,115,115]
   cases qm6:(rdr l es).trans (rdr l es).expr [117,110,108,101,115,115] (rdr l es).K.length [] [] j5 with
   | er ke c=>
     rw[qm6]at m6 m6i hr
     have hc0:=m6i.2
     simp only[PR.code,PR.at,PR.vl]at m6
     simp only[PR.bind]at hr
     repeat' (first|refine zql ?_|(apply TO.zjx m6;(iterate 3 exact rfl);exact⟨Le.refl _,Le.refl _,trivial⟩;(iterate 3 exact rfl);exact fun _=>rfl;exact fun _=>rfl;exact zhn _ _ _;exact fun _=>rfl;exact zho _ _ _ _;exact fun h=>absurd h hc0;intro _)|refine wk ?_|exact wkc|intro hc|refine wk2 ?_ ?_|fail)
     repeat' (first|refine zaM.panic ?_|refine wk ?_|fail)
     refine rdPX hr.symm hc0 ?_
     exact leB
   | ok xm6 j6=>
   obtain⟨us,gu⟩:=xm6
   rw[qm6]at m6 m6i hr
   obtain⟨m6a,m6b⟩:=m6i
   simp only[PR.code,PR.at,PR.vl]at m6
   simp only[PR.bind]at hr
   have hlm6:=zf8 _ _ _ qm6 rfl
   repeat' (first|refine zql ?_|(refine TO.zjx m6 rfl rfl rfl ⟨Le.refl _,Le.refl _,trivial⟩ rfl rfl rfl (fun _=>rfl) (fun _=>rfl) (zhn _ _ _) (fun _=>rfl) (zho _ _ _ _) (fun _=>?_) (fun h=>absurd rfl h))|(apply TO.zmh zaa;(iterate 3 exact rfl);exact zgF _ _ _;exact zgE _ _ _;exact rfl;exact rfl;exact leB;exact rfl)|refine wk ?_|exact wkc|intro hc|refine wk2 ?_ ?_|fail)
   obtain⟨m7,m7i⟩:=zbj l n es j6 [[100,111]] hl m6b (by decide)
   cases qm7:(rdr l es).must [[100,111]] j6 with
   | er ke c=>
     rw[qm7]at m7 m7i hr
     have hc0:=m7i.2
     replace m7:=m7.er
     try simp only[PR.vl]at m7
     simp only[PR.bind]at hr
     repeat' (first|refine zql ?_|refine we m7 ?_ ?_|refine wk ?_|exact wkc|intro hc|refine wk2 ?_ ?_|fail)
     repeat' (first|refine zaM.panic ?_|refine wk ?_|fail)
     refine rdPX hr.symm hc0 ?_
     exact leB
   | ok u7 j7=>
   rw[qm7]at m7 m7i hr
   obtain⟨m7a,m7b⟩:=m7i
   replace m7:=m7.ok
   try simp only[PR.vl]at m7
   simp only[PR.bind]at hr
   repeat' (first|refine zql ?_|refine we m7 ?_ ?_|refine wk ?_|exact wkc|intro hc|refine wk2 ?_ ?_|fail)
   obtain⟨m8,m8i⟩:=hbd j7 m7b
   cases qm8:bd j7 with
   | er ke c=>
     rw[qm8]at m8 m8i hr
     have hc0:=m8i.2
     replace m8:=m8.er
     try simp only[PR.vl]at m8
     simp only[PR.bind]at hr
     repeat' (first|refine zql ?_|refine we m8 ?_ ?_|refine wk ?_|exact wkc|intro hc|refine wk2 ?_ ?_|fail)
     repeat' (first|refine zaM.panic ?_|refine wk ?_|fail)
     refine rdPX hr.symm hc0 ?_
     exact leB
   | ok bb j8=>
   rw[qm8]at m8 m8i hr
   obtain⟨m8a,m8b⟩:=m8i
   replace m8:=m8.ok
   try simp only[PR.vl]at m8
   simp only[PR.bind]at hr
   obtain⟨eqs,ats⟩:=bb
   repeat' (first|refine zql ?_|refine we m8 ?_ ?_|refine wk ?_|exact wkc|intro hc|refine wk2 ?_ ?_|fail)
   obtain⟨m9,m9i⟩:=zn8 l n es j8 hk hes m8b [117,110,116,105,108]
   cases qm9:(rdr l es).trans (rdr l es).expr [117,110,116,105,108] (rdr l es).K.length [] [] j8 with
   | er ke c=>
     rw[qm9]at m9 m9i hr
     have hc0:=m9i.2
     simp only[PR.code,PR.at,PR.vl]at m9
     simp only[PR.bind]at hr
     repeat' (first|refine zql ?_|(apply TO.zjx m9;(iterate 3 exact rfl);exact⟨Le.refl _,Le.refl _,trivial⟩;(iterate 3 exact rfl);exact fun _=>rfl;exact fun _=>rfl;exact zhn _ _ _;exact fun _=>rfl;exact zho _ _ _ _;exact fun h=>absurd h hc0;intro _)|refine wk ?_|exact wkc|intro hc|refine wk2 ?_ ?_|fail)
     repeat' (first|refine zaM.panic ?_|refine wk ?_|fail)
     refine rdPX hr.symm hc0 ?_
     exact leB
   | ok xm9 j9=>
   obtain⟨vs,gv⟩:=xm9
   rw[qm9]at m9 m9i hr
   obtain⟨m9a,m9b⟩:=m9i
   simp only[PR.code,PR.at,PR.vl]at m9
   simp only[PR.bind]at hr
   have hlm9:=zf8 _ _ _ qm9 rfl
   repeat' (first|refine zql ?_|(refine TO.zjx m9 rfl rfl rfl ⟨Le.refl _,Le.refl _,trivial⟩ rfl rfl rfl (fun _=>rfl) (fun _=>rfl) (zhn _ _ _) (fun _=>rfl) (zho _ _ _ _) (fun _=>?_) (fun h=>absurd rfl h))|(apply TO.zmh zaa;(iterate 3 exact rfl);exact zgF _ _ _;exact zgE _ _ _;exact rfl;exact rfl;exact leB;exact rfl)|refine wk ?_|exact wkc|intro hc|refine wk2 ?_ ?_|fail)
   obtain⟨m10,m10i⟩:=zbj l n es j9 [[100,111,110,101]] hl m9b (by decide)
   cases qm10:(rdr l es).must [[100,111,110,101]] j9 with
   | er ke c=>
     rw[qm10]at m10 m10i hr
     have hc0:=m10i.2
     replace m10:=m10.er
     try simp only[PR.vl]at m10
     simp only[PR.bind]at hr
     repeat' (first|refine zql ?_|refine we m10 ?_ ?_|refine wk ?_|exact wkc|intro hc|refine wk2 ?_ ?_|fail)
     repeat' (first|refine zaM.panic ?_|refine wk ?_|fail)
     refine rdPX hr.symm hc0 ?_
     exact leB
   | ok u10 j10=>
   rw[qm10]at m10 m10i hr
   obtain⟨m10a,m10b⟩:=m10i
   replace m10:=m10.ok
   try simp only[PR.vl]at m10
   simp only[PR.bind]at hr
   repeat' (first|refine zql ?_|refine we m10 ?_ ?_|(apply TO.zmP zaa;(iterate 11 exact rfl))|(apply TO.zmM zaa;(iterate 10 exact rfl);exact hcl;(iterate 3 exact rfl);exact leB;exact rfl;omega;exact rfl)|refine wk ?_|exact wkc|intro hc|refine wk2 ?_ ?_|fail)
   obtain⟨s,hs⟩:∃s:Sta,s= .mk nm ds eqs ats us vs:=⟨_,rfl⟩
   have hxl:(ss++[s]).length=ss.length+1:=by rw[qal];rfl
   refine zaM.next (m,j10,ss++[s],gs++[gu,gv]) (idsA ss.length) ⟨?_,m10b,?_,?_,?_,?_,?_⟩ ?_ (Hands.ofF (zkw hlt4) ⟨rfl,rfl,?_,?_,?_,zdp.rows fun k hk=>?_⟩ ?_) (leB) ?_ ?_ ⟨⟨_,rfl,Le.refl _⟩,⟨_,rfl,Le.refl _⟩,⟨_,rfl,Le.refl _⟩,⟨_,rfl,Le.refl _⟩,⟨_,rfl,?_⟩,trivial⟩
   ·show i≤j10;omega
   ·show l.length-j10≤m;omega
   ·show(ss++[s]).length≤8;omega
   ·show(rowsOf (ss++[s])).map List.length=(gs++[gu,gv]).map List.length
    rw[zdN,qav,qav,q5,hs]
    show _++[us.length,vs.length]=_++[gu.length,gv.length]
    rw[hlm6,hlm9]
   ·show ∀u∈rowsOf (ss++[s]),u.length≤4
    intro u hu
    rw[zdN,hs]at hu
    rcases qbf.1 hu with hu|hu
    ·exact q6 u hu
    ·rcases qbb.1 hu with rfl|hu
     ·exact zhq _ _ _ qm6 (by simp)
     ·rcases qbb.1 hu with rfl|hu
      ·exact zhq _ _ _ qm9 (by simp)
      ·cases hu
   ·show(((rdr l es).states (rdr l es).expr bd m (ss++[s]) (gs++[gu,gv]) j10).bind fun x i=>((rdr l es).must [[101,110,100]] i).bind fun _ i=>(zdQ (x.1.map Sta.name) x.2).bind fun jss _=>(.ok (.mk (zdr x.1 jss)) i:PR Auto))=r
    rw[hs];exact hr
   ·show l.length-j10<l.length-j3;omega
   ·show _=some ((Blk.cells [rowV 6 (ss++[s]).length 4]).ren _)
    show some (Blk.cells [SV.ms 6 27 0 (ss.length+1)])=some (.cells (rens _ [rowV 6 (ss++[s]).length 4]))
    simp only[rens,zcs]
    rw[zb6 (by omega),hxl];rfl
   ·show some (Blk.tail ((gs.map ggT).length+2))=some (Blk.tail ((gs++[gu,gv]).map ggT).length)
    rw[qav,qal];rfl
   ·show _=some ((rowB (ss++[s]).length (stC (ss++[s]))).ren _)
    rw[zbE (show 0<(ss++[s]).length by omega)]
    show _=some (Blk.cells (rens _ (stCs (fun k=>5+k) 0 (ss++[s]))))
    rw[zoS _ s hlt4,hs];rfl
   ·show _=some ((rR (rowsOf (ss++[s])) k).ren _)
    rw[zpw,zpv]
    unfold rI
    by_cases g1:k=2*ss.length
    ·rw[if_pos g1,if_pos g1,hs];rfl
    by_cases g2:k=2*ss.length+1
    ·rw[if_neg g1,if_neg g1,if_pos g2,if_pos g2,hs];rfl
    rw[if_neg g1,if_neg g1,if_neg g2,if_neg g2]
    clear g1 g2
    rcases(by omega:k=0\/k=1\/k=2\/k=3\/k=4\/k=5\/k=6\/k=7\/k=8\/k=9\/k=10\/k=11\/k=12\/k=13\/k=14\/k=15)with rfl|rfl|rfl|rfl|rfl|rfl|rfl|rfl|rfl|rfl|rfl|rfl|rfl|rfl|rfl|rfl
    all_goals rfl
   ·show zab 21 (rdB l n es j10::nilB:: .cells [rowV 6 (ss++[s]).length 4]:: .tail _::rowB (ss++[s]).length (stC (ss++[s]))::zbK (rR (rowsOf (ss++[s]))))=true
    have h1:=zi1 (n:=(ss++[s]).length) (zgN (h:=fun k=>5+k) (N:=21) 0 (ss++[s]) fun a _ ha=>by rw[hxl]at ha;show 5+a<21;omega)
    have h2:=zie (znp 21 (rowsOf (ss++[s])))
    have h3:(Blk.cells [rowV 6 (ss++[s]).length 4]).under 21=true:=by
     show unders 21 [rowV 6 (ss++[s]).length 4]=true
     simp only[unders,zbF (show 4<21 by decide),qa8]
    simp only[zab,h1,h2,h3,qa8];rfl
   ·intro a ha
    have ha:a<4:=ha
    rcases(by omega:a=0\/a=1\/a=2\/a=3)with rfl|rfl|rfl|rfl <;> rfl
   ·rfl
   ·show Le _ (.sl 1 ((gs++[gu,gv]).map ggT) 3)
    rw[qav];exact Le.refl _
 | false=>
 rw[h1]at t1
 rw[zi9 h1]at hr
 simp only[PR.bind]at hr
 refine wk ?_
 repeat' (first|refine zql ?_|refine wd t1 ?_|refine zaM.exit ?_|refine wk ?_|exact wkc|intro hc|refine wk2 ?_ ?_|fail)
 obtain⟨m11,m11i⟩:=zbj l n es j [[101,110,100]] hl q2 (by decide)
 cases qm11:(rdr l es).must [[101,110,100]] j with
 | er ke c=>
   rw[qm11]at m11 m11i hr
   have hc0:=m11i.2
   replace m11:=m11.er
   try simp only[PR.vl]at m11
   simp only[PR.bind]at hr
   repeat' (first|refine zql ?_|refine we m11 ?_ ?_|refine wk ?_|exact wkc|intro hc|refine wk2 ?_ ?_|fail)
   repeat' (first|refine zaM.panic ?_|refine wk ?_|fail)
   refine rdPX hr.symm hc0 ?_
   exact leB
 | ok u11 jj=>
 rw[qm11]at m11 m11i hr
 obtain⟨m11a,m11b⟩:=m11i
 replace m11:=m11.ok
 try simp only[PR.vl]at m11
 simp only[PR.bind]at hr
 repeat' (first|refine zql ?_|refine we m11 ?_ ?_|refine wk ?_|exact wkc|intro hc|refine wk2 ?_ ?_|fail)
 have hrl:=zc6 ss
 have hRg:(rowsOf ss).length=gs.length:=by omega
 obtain⟨ns,hns⟩:∃ns:List Str,ns=ss.map Sta.name:=⟨_,rfl⟩
 rw[<-hns]at hr
 have hfst:rowB ss.length (stC ss)=rowB ss.length (stC ss):=rfl
 refine TR.zb0 gs.length (fun i=>∀g∈gs.take i,okG ns g) (fun i=>[(0,.ref 0 0),(4,.ref 1 0),(5,.ref 2 0),(77,.sl 1 (gs.map ggT) 3),(78,.i (gs.map ggT).length),(79,.i i)]) (fun i=>GA l n es jj ss (curR ns (rowsOf ss) gs i) (gs.map ggT).length) (fun g hg=>by simp at hg) (fun i' hi' ha=>?_) (fun ha=>?_) ⟨rfl,rfl,rfl,rfl,rfl,rfl,trivial⟩ (by rw[zpc];rfl)
 ·have hx:(gs.map ggT)[i']?=some (.sl 2 (gs[i'].map goT)):=by rw[qar,qab hi'];rfl
  have hgi:gs[i']?=some gs[i']:=qab hi'
  have hui:(rowsOf ss)[i']?=some ((rowsOf ss)[i']'(by omega)):=qab (by omega)
  have hcur:=zmS (ns:=ns) hRg (i:=i') (by omega)
  have hcst:=zlp (ns:=ns) hRg (i:=i') (by omega) hgi
  have hln:((rowsOf ss)[i']'(by omega)).length=gs[i'].length:=by
   have h1:((rowsOf ss).map List.length)[i']?=(gs.map List.length)[i']? :=by rw[q5]
   rw[qar,qar,hui,hgi]at h1
   exact Option.some.inj h1
  have hcl2:=zlo (ns:=ns) q5 i'
  have hu4:=q6 _ (qay hui)
  generalize gs[i']=g at*
  generalize (rowsOf ss)[i']'(by omega)=u at*
  obtain⟨C,hC⟩:∃C,C=curR ns (rowsOf ss) gs i':=⟨_,rfl⟩
  rw[<-hC]at hcur hcst hcl2
  have hCl:C.length=gs.length:=by have:=congrArg List.length hcl2;rw[qad,qad]at this;omega
  have hmu:(g.map goT).length=g.length:=qad _
  show TR _ _ _ [(0,.ref 0 0),(4,.ref 1 0),(5,.ref 2 0),(77,.sl 1 (gs.map ggT) 3),(78,.i (gs.map ggT).length),(79,.i i')] (GA l n es jj ss (curR ns (rowsOf ss) gs i') (gs.map ggT).length) _
  rw[<-hC]
  refine wk ?_
  repeat' (first|refine zql ?_|refine wk ?_|exact wkc|intro hc|refine wk2 ?_ ?_|fail)
  have hC0:C.set i' u=C:=by
   obtain⟨h1,h2⟩:=qaa.1 hcur
   rw[<-h2,qbM]
  refine TR.zb0 g.length (fun k=>okG ns (g.take k)) (fun k=>[(0,.ref 0 0),(4,.ref 1 0),(5,.ref 2 0),(10,.i i'),(77,.sl 1 (gs.map ggT) 3),(78,.i (gs.map ggT).length),(79,.i i'),(84,.t (.sl 2 (g.map goT))),(85,.i (g.map goT).length),(86,.i k)]) (fun k=>GA l n es jj ss (C.set i' (setK ns u g k)) (gs.map ggT).length) (fun x hx=>by simp at hx) (fun k hk2 hb=>?_) (fun hb=>?_) ⟨rfl,rfl,rfl,rfl,rfl,rfl,rfl,rfl,rfl,rfl,trivial⟩ (by show GA l n es jj ss C _=GA l n es jj ss (C.set i' (setK ns u g 0)) _;rw[zpy,hC0])
  ·have hxg:(g.map goT)[k]?=some (.ag [.s g[k].1,.i g[k].2]):=by rw[qar,qab hk2];rfl
   have hgk:g[k]?=some g[k]:=qab hk2
   have huk:k<u.length:=by omega
   have hw:=znu (ns:=ns) hln huk
   have hwl:=zjV (ns:=ns) hln k
   generalize g[k]=x at*
   obtain⟨nm,at'⟩:=x
   obtain⟨C',hC'⟩:∃C',C'=C.set i' (setK ns u g k):=⟨_,rfl⟩
   have hCs:C'[i']?=some (setK ns u g k):=by rw[hC'];exact qao (by omega)
   have hCl':C'.map List.length=(rowsOf ss).map List.length:=by rw[hC',znv hcur hwl,hcl2]
   have hidx:=zhS 103 [.cp [.s nm,.i at'] 0] rfl (fun s=>s.name == nm) (zcY ss C') (by rw[zdc];omega) (fun s=>zhi s nm at')
   have hCn:C'.length=2*ss.length:=by have:=congrArg List.length hCl';rw[qad,qad]at this;omega
   have hlent:LeB (GA l n es jj ss C' (gs.map ggT).length) (rowV 6 ss.length 4) (.t (.sl 6 ((zcY ss C').map staT))):=LeB.row rfl (fun j c hc=>zmf (fun k=>5+k) 0 ss C' hCl' (fun a w haw=>by
    have:=(qaa.1 haw).1
    rw[show 2*0+a=a by omega]
    exact(zjB _ (by omega)).trans (congrArg some (zeE haw))) j c hc) (by rw[qad,zdc]) (fun e he=>by obtain⟨q,_,rfl⟩:=qa5.1 he;rw[zdm];rfl)
   show TR _ _ _ [(0,.ref 0 0),(4,.ref 1 0),(5,.ref 2 0),(10,.i i'),(77,.sl 1 (gs.map ggT) 3),(78,.i (gs.map ggT).length),(79,.i i'),(84,.t (.sl 2 (g.map goT))),(85,.i (g.map goT).length),(86,.i k)] (GA l n es jj ss (C.set i' (setK ns u g k)) (gs.map ggT).length) _
   rw[<-hC']
   rcases znW nm (zcY ss C') 0 with ⟨z1,z2⟩|⟨q,z1,z2,z3⟩
   ·rw[zd8,<-hns]at z2
    rw[z1]at hidx
    have m12:=za7 l n es jj at' 6 (by decide) hl
    have hc0:(6:Int)≠0:=by decide
    have hfx:zdQ ns gs= .er at' 6:=by
     have h1:=zjY hgi
     have h2:=zjY hgk
     have:=zjC (gs:=gs.take i') (rs:=gs.drop (i'+1)) (r:=g.drop (k+1)) (k:=at') ha hb z2
     rw[<-h2,<-h1]at this
     exact this
    rw[hfx]at hr
    simp only at hr
    refine wk ?_
    repeat' (first|refine wkt ?_|refine wka ?_|refine zql ?_|(apply TO.zlk hidx;(iterate 3 exact rfl);exact⟨hlent,LeB.fn1 _ (LeB.cp _ _),trivial⟩;exact Rigid.v _)|refine we m12 ?_ ?_|refine wk ?_|exact wkc|intro hc|refine wk2 ?_ ?_|fail)
    repeat' (first|refine zaf.panic ?_|refine wk ?_|fail)
    refine rdPX hr.symm hc0 ?_
    exact leB
   ·rw[zd8,<-hns,qaU]at z3
    rw[z2]at hidx
    rw[zdc]at z1
    have hst:=zmd (ns:=ns) hln huk hgk z3
    have hts:=zj7 _ k _ q hw
    rw[hst]at hts
    have hbk:(GA l n es jj ss C' (gs.map ggT).length)[4]?=some (.cells (stC ss)):=congrArg some (zbE (by omega))
    have hgetX:(GA l n es jj ss C' (gs.map ggT).length)[5+i']?=some (.cells ((trCs (setK ns u g k)).map .t)):=by
     refine(zjB _ (by omega)).trans ?_
     rw[zeE hCs,zbE (by omega)]
    have hoffX:0+((k:Int)).toNat*8+6<((trCs (setK ns u g k)).map SV.t).length:=by
     rw[qad,zhm]
     show 0+k*8+6<_
     omega
    have hqT:SV.i (q:Int)= .n (toI (q:Int)):=congrArg (fun z=>SV.t (T.v (Value.int .i64 z))) (zb4 (by omega)).symm
    have hsetX:(GA l n es jj ss C' (gs.map ggT).length).set (5+i') (.cells (((trCs (setK ns u g k)).map SV.t).set (0+((k:Int)).toNat*8+6) (.i (q:Int))))=GA l n es jj ss (C.set i' (setK ns u g (k+1))) (gs.map ggT).length:=by
     show List.set _ _ (Blk.cells (((trCs (setK ns u g k)).map SV.t).set (0+k*8+6) (.i (q:Int))))=_
     rw[show 0+k*8+6=8*k+6 by omega,hqT,hts]
     refine(zm2 _ (by omega) _).trans ?_
     have h1:=zpx (R:=C') (i:=i') (w:=setK ns u g (k+1)) (by omega)
     rw[zbE (by rw[zjV hln];omega)]at h1
     rw[h1,hC',qci]
    have hsg:=zme (fun k=>5+k) i' 0 ss u hui
    rw[show 2*0+i'=i' by omega]at hsg
    by_cases hpar:i' % 2=0
    ·have hc4:(stC ss)[0+(((i' / 2:Nat):Int)).toNat*6+4]?=some (rowV 8 u.length (5+i')):=by
      show(stC ss)[0+(i' / 2)*6+4]?=_
      rw[show 0+(i' / 2)*6+4=6*(i' / 2)+4+i' % 2 by omega]
      exact hsg
     exact zwe
    ·have hc4:(stC ss)[0+(((i' / 2:Nat):Int)).toNat*6+5]?=some (rowV 8 u.length (5+i')):=by
      show(stC ss)[0+(i' / 2)*6+5]?=_
      rw[show 0+(i' / 2)*6+5=6*(i' / 2)+4+i' % 2 by omega]
      exact hsg
     exact zwe
  ·show TR _ _ _ [(0,.ref 0 0),(4,.ref 1 0),(5,.ref 2 0),(10,.i i'),(77,.sl 1 (gs.map ggT) 3),(78,.i (gs.map ggT).length),(79,.i i'),(84,.t (.sl 2 (g.map goT))),(85,.i (g.map goT).length),(86,.i g.length)] (GA l n es jj ss (C.set i' (setK ns u g g.length)) (gs.map ggT).length) _
   rw[znt hln,hcst]
   refine wk ?_
   repeat' (first|refine zql ?_|refine wk ?_|exact wkc|intro hc|refine wk2 ?_ ?_|fail)
   refine zaf.zcq hi' fun y hy=>?_
   rw[qbr,hgi]at hy
   rcases qbf.1 hy with hy|hy
   ·exact ha y hy
   ·simp at hy
    subst hy
    rw[qbc]at hb
    exact hb
 ·rw[qbc]at ha
  obtain⟨jss,hfx,hfs⟩:=zjE ha
  replace hfs:=hfs ss hgl
  rw[hfx]at hr
  simp only at hr
  rw[hfs]at hr
  show TR _ _ _ [(0,.ref 0 0),(4,.ref 1 0),(5,.ref 2 0),(77,.sl 1 (gs.map ggT) 3),(78,.i (gs.map ggT).length),(79,.i gs.length)] (GA l n es jj ss (curR ns (rowsOf ss) gs gs.length) (gs.map ggT).length) _
  rw[zmR hRg]
  obtain⟨C,hC⟩:∃C,C=List.zipWith (setG ns) (rowsOf ss) gs:=⟨_,rfl⟩
  have hCl:C.map List.length=(rowsOf ss).map List.length:=by rw[hC,zfX q5]
  rw[<-hC]at hr⊢
  rcases Nat.eq_zero_or_pos ss.length with h0|hp
  ·have hse:ss=[]:=qaD h0
   have hre:zcY ss C=[]:=qaD (by rw[zdc,h0])
   rw[hre]at hr
   subst hse
   refine wk ?_
   repeat' (first|refine zql ?_|refine wk ?_|exact wkc|intro hc|refine wk2 ?_ ?_|fail)
   refine zds.ret ?_
   apply rdV hr.symm
   ·exact rfl
   ·rw[<-hr]
    show Le _ (.t (zaP (.mk [])))
    rw[zdK]
    exact zqa
   all_goals exact rfl
  ·refine wk ?_
   refine ziO hCl q4 hp ?_
   refine TO.zeB 2 0 6 4 ss.length (ts:=(((zcY ss C).map staT).map T.cells).flatten) (es:=(zcY ss C).map staT) (by decide) rfl rfl (congrArg some (zbE hp).symm) rfl (by rw[qad,zdc]) (fun e he=>by obtain⟨q,_,rfl⟩:=qa5.1 he;rw[zdm];rfl) rfl rfl ?_
   repeat' (first|refine zql ?_|refine wk ?_|exact wkc|intro hc|refine wk2 ?_ ?_|fail)
   refine zds.ret ?_
   apply rdV hr.symm
   ·exact rfl
   ·rw[<-hr]
    show Le _ (.t (zaP (.mk (zcY ss C))))
    rw[zdK]
    exact Le.toT rfl
   all_goals exact rfl
end Go.Proofs.YtpfnfpaahefdaaaGreat
