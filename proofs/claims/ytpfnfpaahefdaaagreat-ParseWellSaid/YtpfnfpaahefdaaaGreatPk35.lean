import Derived.Test.YtpfnfpaahefdaaaGreatPk34
set_option linter.all false
namespace Go.Proofs.YtpfnfpaahefdaaaGreat
open Go Go.TL
attribute [local irreducible] TR TO Then zac RetK Sound zaf Kf GG zaY
attribute [local irreducible] zaM zds
def exCs(l:List Ex):List T:=((l.map exT).map T.cells).flatten
theorem zjz(l:List Ex)(e:Ex):exCs (l++[e])=exCs l++exC e:=by simp[exCs,zal,T.cells]
theorem zeh:∀l:List Ex,(exCs l).length=l.length*6
 | []=>rfl
 | e::l=>by
   have:=zeh l
   unfold exCs at this⊢
   rw[qag,qag,qa9,qal,this,qac,zal]
   show 6+_=_
   omega
theorem zf0(cs z vs:List SV)(h:z.length=vs.length):splice (cs++z) cs.length vs=cs++vs:=by
 unfold splice
 rw[qch,qaZ (by rw[qal];omega),qaR]
theorem zoG{R:Rd}{f:Nat->PR Ex}(hf:∀i,i≤R.K.length->InR R.K.length (i+1) (f i))(hb:∀i,i≤R.K.length->InR R.K.length i (R.zcm f 3 i)){i:Nat}(h:i≤R.K.length):InR R.K.length (i+1) (R.node f i):=by
 unfold Rd.node
 refine(zdR h).bind fun _ j h1 h2=>(zaG _ h2).bind fun _ j h3 h4=>(zpi h4).bind fun _ j h5 h6=>(zaG _ h6).bind fun _ j h7 h8=>(zef _ _ h8).bind fun _ j h9 h10=>(zaG _ h10).bind fun _ j h11 h12=>(zfN h12).bind fun _ j h13 h14=>(zfr hf _ _ _ h14).bind fun _ j h15 h16=>(zaG _ h16).bind fun _ j h17 h18=>?_
 exact(hb _ h18).bind fun _ j h19 h20=>(zaG _ h20).bind fun _ j h21 h22=>⟨by omega,h22⟩
theorem rgF(a b c d:Nat){g:Prop}{n:Nat}{env0 envF:Env}{H0 H1 H2 HC HD HF:Heap}{K:TK}{id':Nat}{l:List Oper}(t:List SV)
  (hp:ziw Tryz.prog n K a b c d g l.toArray (za9 l.toArray t env0) H0 H1 H2 HC HD HF 0 l t)(hK:g->K .normal envF HF)
  (hB:(mixB l.toArray [] && midF l.toArray a b && (Nat.blt b c && Nat.blt c d && Nat.blt d l.length))=true:=by decide +kernel)(hE:zbJ (za9 l.toArray t env0)=some envF:=by exact rfl):
  TR Tryz.prog n (.region id' l.toArray true) env0 H0 K:=TR.regionF a b c d t hmix hB hp hE hK
abbrev zEx:List T:=[.v (.int .i64 0),.v (.int .i64 0),.v (.int .i64 0),.v (.int .i64 0),.v (str []),.v (.slice none 0 0)]
theorem zeZ(A:Foot)(w:World):TRel A w (.ag zEx) (.agg #[.int .i64 0,.int .i64 0,.int .i64 0,.int .i64 0,str [],.slice none 0 0]):=by
 refine .ag zEx _ rfl (fun i y hy=>?_) (fun i c y hc hy=>?_)
 ·rcases i with _|_|_|_|_|_|i
  all_goals first|(simp at hy;subst hy;rfl)|(simp at hy)
 ·rcases i with _|_|_|_|_|_|i
  all_goals first|(simp at hc hy;subst hc hy;exact .v _)|(simp at hc)
theorem set5{a b c d e f:Blk}{X Y:List SV}(h:X=Y):List.set [a,b,c,d,e,f] 5 (.cells X)=[a,b,c,d,e,.cells Y]:=by subst h;rfl
abbrev nodB (s:Str)(a b d:T)(x y:SV):Blk:=.cells [.t (.v (str s)),.t a,.t b,.t d,.t (.v (.slice none 0 0)),.t (.v (.slice none 0 0)),x,y]
theorem zjO(s:Str)(a b d:T)(x y:SV)(r:Nat->Nat):(nodB s a b d x y).ren r=nodB s a b d (x.ren r) (y.ren r):=rfl
theorem zgy{s:Str}{a b d:T}{x y:SV}{k:Nat}(hx:x.under k=true)(hy:y.under k=true):(nodB s a b d x y).under k=true:=by
 show unders k _=true
 simp only[unders,SV.under,hx,hy,qa8]
set_option maxHeartbeats 64000000 in
set_option maxRecDepth 20000 in
theorem zkF (l:List Tok) (n:Int) (es:List En) (i:Nat) (hk:TkOk l) (hes:EsOk es) (hi:i≤l.length):RdS l n es 42 [] i ((rdr l es).node (rdr l es).expr i) (.t (nodT (((rdr l es).node (rdr l es).expr i).vl noN))):=by
 have hl:=hk.len
 generalize hr:(rdr l es).node (rdr l es).expr i=r
 unfold Rd.node Rd.ins at hr
 refine Sound.err rfl (fun _=>rfl) ?_
 refine so Tryz.func42 ?_
 refine TR.dead ?_
 repeat' (first|refine zql ?_|refine wk ?_|exact wkc|intro hc|refine wk2 ?_ ?_|fail)
 obtain⟨m1,m1i⟩:=idC l n es i hl hi
 cases qm1:(rdr l es).id i with
 | er ke c=>
   rw[qm1]at m1 m1i hr
   have hc0:=m1i.2
   replace m1:=m1.er
   try simp only[PR.vl]at m1
   simp only[PR.bind]at hr
   repeat' (first|refine zql ?_|refine we m1 ?_ ?_|refine wk ?_|exact wkc|intro hc|refine wk2 ?_ ?_|fail)
   repeat' (first|refine zaM.panic ?_|refine wk ?_|fail)
   refine rdPX hr.symm hc0 ?_
   exact leB
 | ok s j1=>
 rw[qm1]at m1 m1i hr
 obtain⟨m1a,m1b⟩:=m1i
 replace m1:=m1.ok
 try simp only[PR.vl]at m1
 simp only[PR.bind]at hr
 repeat' (first|refine zql ?_|refine we m1 ?_ ?_|refine wk ?_|exact wkc|intro hc|refine wk2 ?_ ?_|fail)
 obtain⟨m2,m2i⟩:=zbj l n es j1 [[40]] hl m1b (by decide)
 cases qm2:(rdr l es).must [[40]] j1 with
 | er ke c=>
   rw[qm2]at m2 m2i hr
   have hc0:=m2i.2
   replace m2:=m2.er
   try simp only[PR.vl]at m2
   simp only[PR.bind]at hr
   repeat' (first|refine zql ?_|refine we m2 ?_ ?_|refine wk ?_|exact wkc|intro hc|refine wk2 ?_ ?_|fail)
   repeat' (first|refine zaM.panic ?_|refine wk ?_|fail)
   refine rdPX hr.symm hc0 ?_
   exact leB
 | ok u2 j2=>
 rw[qm2]at m2 m2i hr
 obtain⟨m2a,m2b⟩:=m2i
 replace m2:=m2.ok
 try simp only[PR.vl]at m2
 simp only[PR.bind]at hr
 repeat' (first|refine zql ?_|refine we m2 ?_ ?_|refine wk ?_|exact wkc|intro hc|refine wk2 ?_ ?_|fail)
 have t1:=zaF l n es j2 [41] hl
 clear m1 m2
 cases h1:(rdr l es).isAt j2 [41] with
 | true=>
   have hlth1:=zaj h1
   rw[zae]at hlth1
   rw[h1]at t1
   rw[if_pos h1]at hr
   simp only[PR.bind]at hr
   obtain⟨a,ha⟩:∃a:List Decl,a=[]:=⟨_,rfl⟩
   obtain⟨jj,hjj⟩:∃jj,jj=j2:=⟨_,rfl⟩
   replace hr:(((rdr l es).must [[41],[114,101,116,117,114,110,115],[40]] jj).bind fun _ i=>((rdr l es).decls 64 false ((rdr l es).K.length+1) [] i).bind fun b i=>((rdr l es).must [[41]] i).bind fun _ i=>((rdr l es).locals i).bind fun d i=>((rdr l es).claims (rdr l es).expr (rdr l es).K.length [] [] i).bind fun ae i=>((rdr l es).must [[108,101,116]] i).bind fun _ i=>((rdr l es).zcm (rdr l es).expr 3 i).bind fun qa i=>((rdr l es).must [[116,101,108]] i).bind fun _ i=>(.ok ⟨s,a,b,d,qa.1,qa.2,ae.1,ae.2⟩ i:PR Nod))=r:=by rw[ha,hjj];exact hr
   repeat' (first|refine zql ?_|refine wd t1 ?_|refine wk ?_|exact wkc|intro hc|refine wk2 ?_ ?_|fail)
   refine TO.znP 2 1 (v':=.t (.sl 3 (a.map zag))) (by rw[ha];exact Le.nil 3) rfl rfl rfl ?_
   have hja:i≤jj:=by omega
   have hjb:jj≤l.length:=by omega
   subst hjj
   clear ha t1 h1 hlth1
   obtain⟨m4,m4i⟩:=zbj l n es jj [[41],[114,101,116,117,114,110,115],[40]] hl hjb (by decide)
   cases qm4:(rdr l es).must [[41],[114,101,116,117,114,110,115],[40]] jj with
   | er ke c=>
     rw[qm4]at m4 m4i hr
     have hc0:=m4i.2
     replace m4:=m4.er
     try simp only[PR.vl]at m4
     simp only[PR.bind]at hr
     repeat' (first|refine zql ?_|refine we m4 ?_ ?_|refine wk ?_|exact wkc|intro hc|refine wk2 ?_ ?_|fail)
     repeat' (first|refine zaM.panic ?_|refine wk ?_|fail)
     refine rdPX hr.symm hc0 ?_
     exact leB
   | ok u4 j4=>
   rw[qm4]at m4 m4i hr
   obtain⟨m4a,m4b⟩:=m4i
   replace m4:=m4.ok
   try simp only[PR.vl]at m4
   simp only[PR.bind]at hr
   repeat' (first|refine zql ?_|refine we m4 ?_ ?_|refine wk ?_|exact wkc|intro hc|refine wk2 ?_ ?_|fail)
   obtain⟨m5,m5i⟩:=zg0 l n es j4 hk hes m4b 64 false (by decide)
   cases qm5:(rdr l es).decls 64 false ((rdr l es).K.length+1) [] j4 with
   | er ke c=>
     rw[qm5]at m5 m5i hr
     have hc0:=m5i.2
     replace m5:=m5.er
     try simp only[PR.vl]at m5
     simp only[PR.bind]at hr
     repeat' (first|refine zql ?_|refine we m5 ?_ ?_|refine wk ?_|exact wkc|intro hc|refine wk2 ?_ ?_|fail)
     repeat' (first|refine zaM.panic ?_|refine wk ?_|fail)
     refine rdPX hr.symm hc0 ?_
     exact leB
   | ok b j5=>
   rw[qm5]at m5 m5i hr
   obtain⟨m5a,m5b⟩:=m5i
   replace m5:=m5.ok
   try simp only[PR.vl]at m5
   simp only[PR.bind]at hr
   repeat' (first|refine zql ?_|refine we m5 ?_ ?_|refine wk ?_|exact wkc|intro hc|refine wk2 ?_ ?_|fail)
   obtain⟨m6,m6i⟩:=zbj l n es j5 [[41]] hl m5b (by decide)
   cases qm6:(rdr l es).must [[41]] j5 with
   | er ke c=>
     rw[qm6]at m6 m6i hr
     have hc0:=m6i.2
     replace m6:=m6.er
     try simp only[PR.vl]at m6
     simp only[PR.bind]at hr
     repeat' (first|refine zql ?_|refine we m6 ?_ ?_|refine wk ?_|exact wkc|intro hc|refine wk2 ?_ ?_|fail)
     repeat' (first|refine zaM.panic ?_|refine wk ?_|fail)
     refine rdPX hr.symm hc0 ?_
     exact leB
   | ok u6 j6=>
   rw[qm6]at m6 m6i hr
   obtain⟨m6a,m6b⟩:=m6i
   replace m6:=m6.ok
   try simp only[PR.vl]at m6
   simp only[PR.bind]at hr
   repeat' (first|refine zql ?_|refine we m6 ?_ ?_|refine wk ?_|exact wkc|intro hc|refine wk2 ?_ ?_|fail)
   obtain⟨m7,m7i⟩:=ziV l n es j6 hk hes m6b
   cases qm7:(rdr l es).locals j6 with
   | er ke c=>
     rw[qm7]at m7 m7i hr
     have hc0:=m7i.2
     replace m7:=m7.er
     try simp only[PR.vl]at m7
     simp only[PR.bind]at hr
     repeat' (first|refine zql ?_|refine we m7 ?_ ?_|refine wk ?_|exact wkc|intro hc|refine wk2 ?_ ?_|fail)
     repeat' (first|refine zaM.panic ?_|refine wk ?_|fail)
     refine rdPX hr.symm hc0 ?_
     exact leB
   | ok dl j7=>
   rw[qm7]at m7 m7i hr
   obtain⟨m7a,m7b⟩:=m7i
   replace m7:=m7.ok
   try simp only[PR.vl]at m7
   simp only[PR.bind]at hr
   repeat' (first|refine zql ?_|refine we m7 ?_ ?_|refine wk ?_|exact wkc|intro hc|refine wk2 ?_ ?_|fail)
   replace hr:(((rdr l es).claims (rdr l es).expr (rdr l es).K.length [] [] j7).bind fun ae i=>((rdr l es).must [[108,101,116]] i).bind fun _ i=>((rdr l es).zcm (rdr l es).expr 3 i).bind fun qa i=>((rdr l es).must [[116,101,108]] i).bind fun _ i=>(.ok ⟨s,a,b,dl,qa.1,qa.2,ae.1,ae.2⟩ i:PR Nod))=r:=hr
   clear m4 m5 m6 m7
   refine TR.zfe (ι:=Nat×Nat×List Ex×List Ex) (fun x=>i≤x.2.1/\x.2.1≤l.length/\l.length-x.2.1≤x.1/\x.2.2.1.length≤8/\x.2.2.2.length≤8/\(((rdr l es).claims (rdr l es).expr x.1 x.2.2.1 x.2.2.2 x.2.1).bind fun ae i=>((rdr l es).must [[108,101,116]] i).bind fun _ i=>((rdr l es).zcm (rdr l es).expr 3 i).bind fun qa i=>((rdr l es).must [[116,101,108]] i).bind fun _ i=>(.ok ⟨s,a,b,dl,qa.1,qa.2,ae.1,ae.2⟩ i:PR Nod))=r) (fun x=>l.length-x.2.1) (fun x=>[(0,.ref 0 0),(2,.ref 1 0),(3,.ref 2 0)]) (fun x=>[rdB l n es x.2.1,nodZ,nodB s (.sl 3 (a.map zag)) (.sl 3 (b.map zag)) (.sl 3 (dl.map zag)) (rowV 6 x.2.2.1.length 3) (rowV 6 x.2.2.2.length 4),rowB x.2.2.1.length ((exCs x.2.2.1).map .t),rowB x.2.2.2.length ((exCs x.2.2.2).map .t)]) ((rdr l es).K.length,j7,[],[])
    ⟨by show i≤j7;omega,m7b,by rw[zae];show l.length-j7≤l.length;omega,by show 0≤8;omega,by show 0≤8;omega,hr⟩ ⟨rfl,rfl,rfl,trivial⟩ 2 rfl ?_
   clear hr
   rintro⟨m,j,xs,ys⟩ ⟨q1,q2,q3,q4,q5,hr⟩
   replace q1:i≤j:=q1
   replace q2:j≤l.length:=q2
   replace q3:l.length-j≤m:=q3
   replace q4:xs.length≤8:=q4
   replace q5:ys.length≤8:=q5
   replace hr:(((rdr l es).claims (rdr l es).expr m xs ys j).bind fun ae i=>((rdr l es).must [[108,101,116]] i).bind fun _ i=>((rdr l es).zcm (rdr l es).expr 3 i).bind fun qa i=>((rdr l es).must [[116,101,108]] i).bind fun _ i=>(.ok ⟨s,a,b,dl,qa.1,qa.2,ae.1,ae.2⟩ i:PR Nod))=r:=hr
   have hcx:((exCs xs).map SV.t).length=xs.length*6:=by rw[qad,zeh]
   have hcy:((exCs ys).map SV.t).length=ys.length*6:=by rw[qad,zeh]
   have t2:=zaF l n es j [97,115,115,117,109,101] hl
   have t3:=zaF l n es j [101,110,115,117,114,101] hl
   show TR _ _ _ [(0,.ref 0 0),(2,.ref 1 0),(3,.ref 2 0)] [rdB l n es j,nodZ,nodB s (.sl 3 (a.map zag)) (.sl 3 (b.map zag)) (.sl 3 (dl.map zag)) (rowV 6 xs.length 3) (rowV 6 ys.length 4),rowB xs.length ((exCs xs).map .t),rowB ys.length ((exCs ys).map .t)] _
   cases h2:(rdr l es).isAt j [97,115,115,117,109,101] with
   | true=>
     have hlth2:=zaj h2
     rw[zae]at hlth2
     rw[h2]at t2
     cases m with
     | zero=>exfalso;omega
     | succ m=>
     rw[Rd.claims,if_pos h2]at hr
     refine wk ?_
     repeat' (first|refine zql ?_|refine wd t2 ?_|(apply TO.lenR zaa;(iterate 4 exact rfl))|refine wk ?_|exact wkc|intro hc|refine wk2 ?_ ?_|fail)
     obtain⟨m3,m3i⟩:=limC l n es j xs.length xs.length 8 hl q2 rfl
     cases qm3:limR xs.length 8 j with
     | er ke c=>
       rw[qm3]at m3 m3i hr
       have hc0:=m3i.2
       replace m3:=m3.er
       try simp only[PR.vl]at m3
       simp only[PR.bind]at hr
       repeat' (first|refine zql ?_|refine we m3 ?_ ?_|refine wk ?_|exact wkc|intro hc|refine wk2 ?_ ?_|fail)
       repeat' (first|refine zaM.panic ?_|refine wk ?_|fail)
       refine rdPX hr.symm hc0 ?_
       exact leB
     | ok u3 j3=>
     rw[qm3]at m3 m3i hr
     obtain⟨m3a,m3b⟩:=m3i
     replace m3:=m3.ok
     try simp only[PR.vl]at m3
     simp only[PR.bind]at hr
     obtain⟨hlt4,rfl⟩:=za6 qm3
     repeat' (first|refine wkt ?_|refine zql ?_|refine we m3 ?_ ?_|exact wkc|intro hc|refine wk2 ?_ ?_|fail)
     have hoff:(0+((xs.length:Nat):Int).toNat*6)+6≤((exCs xs).map SV.t++zEx.map SV.t).length:=by
      exact zwey
     have hspl0:∀ec:List T,ec.length=6->splice ((exCs xs).map SV.t++zEx.map SV.t) (0+((xs.length:Nat):Int).toNat*6) (ec.map SV.t)=(exCs xs).map SV.t++ec.map SV.t:=fun ec he=>by
      exact zwbp
     obtain⟨m4,m4i⟩:=zez l n es (j3+1) hk hes hlth2
     cases qm4:(rdr l es).expr (j3+1) with
     | er ke c=>
       rw[qm4]at m4 m4i hr
       have hc0:=m4i.2
       replace m4:=m4.er
       try simp only[PR.vl]at m4
       simp only[PR.bind]at hr
       have hspl:=hspl0 (exC noE) rfl
       refine rgF 4 7 9 11 (g:=False) (H1:=[rdB l n es (j3+1),nodZ,nodB s (.sl 3 (a.map zag)) (.sl 3 (b.map zag)) (.sl 3 (dl.map zag)) (rowV 6 xs.length 3) (rowV 6 ys.length 4),rowB xs.length ((exCs xs).map .t),rowB ys.length ((exCs ys).map .t)]) (H2:=[rdB l n es (j3+1),nodZ,nodB s (.sl 3 (a.map zag)) (.sl 3 (b.map zag)) (.sl 3 (dl.map zag)) (rowV 6 xs.length 3) (rowV 6 ys.length 4),.dead,rowB ys.length ((exCs ys).map .t),.cells ((exCs xs).map .t++zEx.map .t)]) (HC:=[rdB l n es (j3+1),nodZ,nodB s (.sl 3 (a.map zag)) (.sl 3 (b.map zag)) (.sl 3 (dl.map zag)) (rowV 6 xs.length 3) (rowV 6 ys.length 4),.dead,rowB ys.length ((exCs ys).map .t),.cells ((exCs xs).map .t++(exC noE).map .t)]) (HD:=[rdB l n es (j3+1),nodZ,nodB s (.sl 3 (a.map zag)) (.sl 3 (b.map zag)) (.sl 3 (dl.map zag)) (.ms 6 5 0 (xs.length+1)) (rowV 6 ys.length 4),.dead,rowB ys.length ((exCs ys).map .t),.cells ((exCs xs).map .t++zEx.map .t)]) (HF:=[rdB l n es (j3+1),nodZ,nodB s (.sl 3 (a.map zag)) (.sl 3 (b.map zag)) (.sl 3 (dl.map zag)) (.ms 6 5 0 (xs.length+1)) (rowV 6 ys.length 4),.dead,rowB ys.length ((exCs ys).map .t),.cells ((exCs xs).map .t++(exC noE).map .t)]) [.ref 2 6,.ref 2 6,rowV 6 xs.length 3,.ref 0 0,.t (.ag (exC noE)),.i xs.length,.t (.sl 6 [.ag zEx]),.ms 6 5 0 (xs.length+1),.ref 5 (0+((xs.length:Nat):Int).toNat*6),.t (.v undef),.ref 2 6,.t (.v undef)] ?_ (fun h=>h.elim)
       repeat' (first|exact trivial|exact⟨⟨rfl,rfl⟩,trivial⟩|refine qak (fun env=>?_) ?_|refine qak ?_ ?_|refine fun(env:Env)=>?_|refine zql ?_|refine we m4 ?_ ?_|(apply TO.lenR zaa;(iterate 4 exact rfl))|(apply TO.zb8 zaa;(iterate 5 exact rfl);exact zeZ;(iterate 3 exact rfl))|(apply TO.zcS zaa;(iterate 10 exact rfl);exact hcx;exact rfl;exact rfl;exact leB;exact rfl;(simp only[qac,qai];omega);exact rfl)|refine zqh ?_|refine zqd ?_|refine wk ?_|exact wkc|intro hc|refine wk2 ?_ ?_|fail)
       repeat' (first|refine zaM.panic ?_|refine wk ?_|fail)
       refine rdPX hr.symm hc0 ?_
       exact leB
     | ok e k=>
     rw[qm4]at m4 m4i hr
     obtain⟨m4a,m4b⟩:=m4i
     replace m4:=m4.ok
     try simp only[PR.vl]at m4
     simp only[PR.bind]at hr
     rw[zal e]at m4
     have hspl:=hspl0 (exC e) rfl
     refine rgF 4 7 9 11 (g:=True) (H1:=[rdB l n es k,nodZ,nodB s (.sl 3 (a.map zag)) (.sl 3 (b.map zag)) (.sl 3 (dl.map zag)) (rowV 6 xs.length 3) (rowV 6 ys.length 4),rowB xs.length ((exCs xs).map .t),rowB ys.length ((exCs ys).map .t)]) (H2:=[rdB l n es k,nodZ,nodB s (.sl 3 (a.map zag)) (.sl 3 (b.map zag)) (.sl 3 (dl.map zag)) (rowV 6 xs.length 3) (rowV 6 ys.length 4),.dead,rowB ys.length ((exCs ys).map .t),.cells ((exCs xs).map .t++zEx.map .t)]) (HC:=[rdB l n es k,nodZ,nodB s (.sl 3 (a.map zag)) (.sl 3 (b.map zag)) (.sl 3 (dl.map zag)) (rowV 6 xs.length 3) (rowV 6 ys.length 4),.dead,rowB ys.length ((exCs ys).map .t),.cells ((exCs xs).map .t++(exC e).map .t)]) (HD:=[rdB l n es k,nodZ,nodB s (.sl 3 (a.map zag)) (.sl 3 (b.map zag)) (.sl 3 (dl.map zag)) (.ms 6 5 0 (xs.length+1)) (rowV 6 ys.length 4),.dead,rowB ys.length ((exCs ys).map .t),.cells ((exCs xs).map .t++zEx.map .t)]) (HF:=[rdB l n es k,nodZ,nodB s (.sl 3 (a.map zag)) (.sl 3 (b.map zag)) (.sl 3 (dl.map zag)) (.ms 6 5 0 (xs.length+1)) (rowV 6 ys.length 4),.dead,rowB ys.length ((exCs ys).map .t),.cells ((exCs xs).map .t++(exC e).map .t)]) [.ref 2 6,.ref 2 6,rowV 6 xs.length 3,.ref 0 0,.t (.ag (exC e)),.i xs.length,.t (.sl 6 [.ag zEx]),.ms 6 5 0 (xs.length+1),.ref 5 (0+((xs.length:Nat):Int).toNat*6),.t (.v undef),.ref 2 6,.t (.v undef)] ?_ (fun _=>?_)
     ·repeat' (first|exact trivial|exact⟨⟨rfl,rfl⟩,trivial⟩|refine qak (fun env=>?_) ?_|refine qak ?_ ?_|refine fun(env:Env)=>?_|refine zql ?_|refine we m4 ?_ ?_|(apply TO.lenR zaa;(iterate 4 exact rfl))|(apply TO.zb8 zaa;(iterate 5 exact rfl);exact zeZ;(iterate 3 exact rfl))|(apply TO.zcS zaa;(iterate 10 exact rfl);exact hcx;exact rfl;exact rfl;exact leB;exact rfl;(simp only[qac,qai];omega);exact rfl)|refine zqh ?_|refine zqd ?_|refine wk ?_|exact wkc|intro hc|refine wk2 ?_ ?_|fail)
      done
     obtain⟨m13,m13i⟩:=zbj l n es k [[59]] hl m4b (by decide)
     cases qm13:(rdr l es).must [[59]] k with
     | er ke c=>
       rw[qm13]at m13 m13i hr
       have hc0:=m13i.2
       replace m13:=m13.er
       try simp only[PR.vl]at m13
       simp only[PR.bind]at hr
       repeat' (first|refine zql ?_|refine we m13 ?_ ?_|refine wk ?_|exact wkc|intro hc|refine wk2 ?_ ?_|fail)
       repeat' (first|refine zaM.panic ?_|refine wk ?_|fail)
       refine rdPX hr.symm hc0 ?_
       exact leB
     | ok u13 j13=>
     rw[qm13]at m13 m13i hr
     obtain⟨m13a,m13b⟩:=m13i
     replace m13:=m13.ok
     try simp only[PR.vl]at m13
     simp only[PR.bind]at hr
     repeat' (first|refine zql ?_|refine we m13 ?_ ?_|refine wk ?_|exact wkc|intro hc|refine wk2 ?_ ?_|fail)
     have hxl:(xs++[e]).length=xs.length+1:=by rw[qal];rfl
     refine zaM.next (m,j13,(xs++[e]),ys) [0,1,2,5,4] ⟨?_,m13b,?_,?_,?_,hr⟩ ?_ (Hands.ofF (by decide) ⟨rfl,rfl,?_,?_,?_,trivial⟩ ?_) (leB) ?_ rfl ⟨⟨_,rfl,Le.refl _⟩,⟨_,rfl,Le.refl _⟩,⟨_,rfl,Le.refl _⟩,trivial⟩
     ·show i≤j13;omega
     ·show l.length-j13≤m;omega
     ·show(xs++[e]).length≤8;omega
     ·show ys.length≤8;omega
     ·show l.length-j13<l.length-j3;omega
     ·exact zwp
     ·exact zwce
     ·exact zwer
     ·exact zwh
     ·exact zweh
   | false=>
   rw[h2]at t2
   cases h3:(rdr l es).isAt j [101,110,115,117,114,101] with
   | true=>
     have hlth3:=zaj h3
     rw[zae]at hlth3
     rw[h3]at t3
     cases m with
     | zero=>exfalso;omega
     | succ m=>
     rw[Rd.claims,if_neg (by rw[h2];decide),if_pos h3]at hr
     refine wk ?_
     repeat' (first|refine zql ?_|refine wd t2 ?_|refine wd t3 ?_|(apply TO.lenR zaa;(iterate 4 exact rfl))|refine wk ?_|exact wkc|intro hc|refine wk2 ?_ ?_|fail)
     obtain⟨m3,m3i⟩:=limC l n es j ys.length ys.length 8 hl q2 rfl
     cases qm3:limR ys.length 8 j with
     | er ke c=>
       rw[qm3]at m3 m3i hr
       have hc0:=m3i.2
       replace m3:=m3.er
       try simp only[PR.vl]at m3
       simp only[PR.bind]at hr
       repeat' (first|refine zql ?_|refine we m3 ?_ ?_|refine wk ?_|exact wkc|intro hc|refine wk2 ?_ ?_|fail)
       repeat' (first|refine zaM.panic ?_|refine wk ?_|fail)
       refine rdPX hr.symm hc0 ?_
       exact leB
     | ok u3 j3=>
     rw[qm3]at m3 m3i hr
     obtain⟨m3a,m3b⟩:=m3i
     replace m3:=m3.ok
     try simp only[PR.vl]at m3
     simp only[PR.bind]at hr
     obtain⟨hlt4,rfl⟩:=za6 qm3
     repeat' (first|refine wkt ?_|refine zql ?_|refine we m3 ?_ ?_|exact wkc|intro hc|refine wk2 ?_ ?_|fail)
     have hoff:(0+((ys.length:Nat):Int).toNat*6)+6≤((exCs ys).map SV.t++zEx.map SV.t).length:=by
      exact zwez
     have hspl0:∀ec:List T,ec.length=6->splice ((exCs ys).map SV.t++zEx.map SV.t) (0+((ys.length:Nat):Int).toNat*6) (ec.map SV.t)=(exCs ys).map SV.t++ec.map SV.t:=fun ec he=>by
      exact zwbq
     obtain⟨m4,m4i⟩:=zez l n es (j3+1) hk hes hlth3
     cases qm4:(rdr l es).expr (j3+1) with
     | er ke c=>
       rw[qm4]at m4 m4i hr
       have hc0:=m4i.2
       replace m4:=m4.er
       try simp only[PR.vl]at m4
       simp only[PR.bind]at hr
       have hspl:=hspl0 (exC noE) rfl
       refine rgF 4 7 9 11 (g:=False) (H1:=[rdB l n es (j3+1),nodZ,nodB s (.sl 3 (a.map zag)) (.sl 3 (b.map zag)) (.sl 3 (dl.map zag)) (rowV 6 xs.length 3) (rowV 6 ys.length 4),rowB xs.length ((exCs xs).map .t),rowB ys.length ((exCs ys).map .t)]) (H2:=[rdB l n es (j3+1),nodZ,nodB s (.sl 3 (a.map zag)) (.sl 3 (b.map zag)) (.sl 3 (dl.map zag)) (rowV 6 xs.length 3) (rowV 6 ys.length 4),rowB xs.length ((exCs xs).map .t),.dead,.cells ((exCs ys).map .t++zEx.map .t)]) (HC:=[rdB l n es (j3+1),nodZ,nodB s (.sl 3 (a.map zag)) (.sl 3 (b.map zag)) (.sl 3 (dl.map zag)) (rowV 6 xs.length 3) (rowV 6 ys.length 4),rowB xs.length ((exCs xs).map .t),.dead,.cells ((exCs ys).map .t++(exC noE).map .t)]) (HD:=[rdB l n es (j3+1),nodZ,nodB s (.sl 3 (a.map zag)) (.sl 3 (b.map zag)) (.sl 3 (dl.map zag)) (rowV 6 xs.length 3) (.ms 6 5 0 (ys.length+1)),rowB xs.length ((exCs xs).map .t),.dead,.cells ((exCs ys).map .t++zEx.map .t)]) (HF:=[rdB l n es (j3+1),nodZ,nodB s (.sl 3 (a.map zag)) (.sl 3 (b.map zag)) (.sl 3 (dl.map zag)) (rowV 6 xs.length 3) (.ms 6 5 0 (ys.length+1)),rowB xs.length ((exCs xs).map .t),.dead,.cells ((exCs ys).map .t++(exC noE).map .t)]) [.ref 2 7,.ref 2 7,rowV 6 ys.length 4,.ref 0 0,.t (.ag (exC noE)),.i ys.length,.t (.sl 6 [.ag zEx]),.ms 6 5 0 (ys.length+1),.ref 5 (0+((ys.length:Nat):Int).toNat*6),.t (.v undef),.ref 2 7,.t (.v undef)] ?_ (fun h=>h.elim)
       repeat' (first|exact trivial|exact⟨⟨rfl,rfl⟩,trivial⟩|refine qak (fun env=>?_) ?_|refine qak ?_ ?_|refine fun(env:Env)=>?_|refine zql ?_|refine we m4 ?_ ?_|(apply TO.lenR zaa;(iterate 4 exact rfl))|(apply TO.zb8 zaa;(iterate 5 exact rfl);exact zeZ;(iterate 3 exact rfl))|(apply TO.zcS zaa;(iterate 10 exact rfl);exact hcy;exact rfl;exact rfl;exact leB;exact rfl;(simp only[qac,qai];omega);exact rfl)|refine zqh ?_|refine zqd ?_|refine wk ?_|exact wkc|intro hc|refine wk2 ?_ ?_|fail)
       repeat' (first|refine zaM.panic ?_|refine wk ?_|fail)
       refine rdPX hr.symm hc0 ?_
       exact leB
     | ok e k=>
     rw[qm4]at m4 m4i hr
     obtain⟨m4a,m4b⟩:=m4i
     replace m4:=m4.ok
     try simp only[PR.vl]at m4
     simp only[PR.bind]at hr
     rw[zal e]at m4
     have hspl:=hspl0 (exC e) rfl
     refine rgF 4 7 9 11 (g:=True) (H1:=[rdB l n es k,nodZ,nodB s (.sl 3 (a.map zag)) (.sl 3 (b.map zag)) (.sl 3 (dl.map zag)) (rowV 6 xs.length 3) (rowV 6 ys.length 4),rowB xs.length ((exCs xs).map .t),rowB ys.length ((exCs ys).map .t)]) (H2:=[rdB l n es k,nodZ,nodB s (.sl 3 (a.map zag)) (.sl 3 (b.map zag)) (.sl 3 (dl.map zag)) (rowV 6 xs.length 3) (rowV 6 ys.length 4),rowB xs.length ((exCs xs).map .t),.dead,.cells ((exCs ys).map .t++zEx.map .t)]) (HC:=[rdB l n es k,nodZ,nodB s (.sl 3 (a.map zag)) (.sl 3 (b.map zag)) (.sl 3 (dl.map zag)) (rowV 6 xs.length 3) (rowV 6 ys.length 4),rowB xs.length ((exCs xs).map .t),.dead,.cells ((exCs ys).map .t++(exC e).map .t)]) (HD:=[rdB l n es k,nodZ,nodB s (.sl 3 (a.map zag)) (.sl 3 (b.map zag)) (.sl 3 (dl.map zag)) (rowV 6 xs.length 3) (.ms 6 5 0 (ys.length+1)),rowB xs.length ((exCs xs).map .t),.dead,.cells ((exCs ys).map .t++zEx.map .t)]) (HF:=[rdB l n es k,nodZ,nodB s (.sl 3 (a.map zag)) (.sl 3 (b.map zag)) (.sl 3 (dl.map zag)) (rowV 6 xs.length 3) (.ms 6 5 0 (ys.length+1)),rowB xs.length ((exCs xs).map .t),.dead,.cells ((exCs ys).map .t++(exC e).map .t)]) [.ref 2 7,.ref 2 7,rowV 6 ys.length 4,.ref 0 0,.t (.ag (exC e)),.i ys.length,.t (.sl 6 [.ag zEx]),.ms 6 5 0 (ys.length+1),.ref 5 (0+((ys.length:Nat):Int).toNat*6),.t (.v undef),.ref 2 7,.t (.v undef)] ?_ (fun _=>?_)
     ·repeat' (first|exact trivial|exact⟨⟨rfl,rfl⟩,trivial⟩|refine qak (fun env=>?_) ?_|refine qak ?_ ?_|refine fun(env:Env)=>?_|refine zql ?_|refine we m4 ?_ ?_|(apply TO.lenR zaa;(iterate 4 exact rfl))|(apply TO.zb8 zaa;(iterate 5 exact rfl);exact zeZ;(iterate 3 exact rfl))|(apply TO.zcS zaa;(iterate 10 exact rfl);exact hcy;exact rfl;exact rfl;exact leB;exact rfl;(simp only[qac,qai];omega);exact rfl)|refine zqh ?_|refine zqd ?_|refine wk ?_|exact wkc|intro hc|refine wk2 ?_ ?_|fail)
      done
     obtain⟨m13,m13i⟩:=zbj l n es k [[59]] hl m4b (by decide)
     cases qm13:(rdr l es).must [[59]] k with
     | er ke c=>
       rw[qm13]at m13 m13i hr
       have hc0:=m13i.2
       replace m13:=m13.er
       try simp only[PR.vl]at m13
       simp only[PR.bind]at hr
       repeat' (first|refine zql ?_|refine we m13 ?_ ?_|refine wk ?_|exact wkc|intro hc|refine wk2 ?_ ?_|fail)
       repeat' (first|refine zaM.panic ?_|refine wk ?_|fail)
       refine rdPX hr.symm hc0 ?_
       exact leB
     | ok u13 j13=>
     rw[qm13]at m13 m13i hr
     obtain⟨m13a,m13b⟩:=m13i
     replace m13:=m13.ok
     try simp only[PR.vl]at m13
     simp only[PR.bind]at hr
     repeat' (first|refine zql ?_|refine we m13 ?_ ?_|refine wk ?_|exact wkc|intro hc|refine wk2 ?_ ?_|fail)
     have hxl:(ys++[e]).length=ys.length+1:=by rw[qal];rfl
     refine zaM.next (m,j13,xs,(ys++[e])) [0,1,2,3,5] ⟨?_,m13b,?_,?_,?_,hr⟩ ?_ (Hands.ofF (by decide) ⟨rfl,rfl,?_,?_,?_,trivial⟩ ?_) (leB) ?_ rfl ⟨⟨_,rfl,Le.refl _⟩,⟨_,rfl,Le.refl _⟩,⟨_,rfl,Le.refl _⟩,trivial⟩
     ·show i≤j13;omega
     ·show l.length-j13≤m;omega
     ·show xs.length≤8;omega
     ·show(ys++[e]).length≤8;omega
     ·show l.length-j13<l.length-j3;omega
     ·exact zwq
     ·exact zweq
     ·exact zwcf
     ·exact zwi
     ·exact zweh
   | false=>
   rw[h3]at t3
   rw[zfs h2 h3]at hr
   simp only[PR.bind]at hr
   refine wk ?_
   repeat' (first|refine zql ?_|refine wd t2 ?_|refine wd t3 ?_|refine zaM.exit ?_|refine wk ?_|exact wkc|intro hc|refine wk2 ?_ ?_|fail)
   refine TO.zeB 2 6 6 3 xs.length (ts:=exCs xs) (es:=xs.map exT) (by decide) rfl rfl rfl rfl (by rw[qad]) (fun e he=>by obtain⟨q,_,rfl⟩:=qa5.1 he;rw[zal];rfl) rfl rfl ?_
   refine TO.zeB 2 7 6 4 ys.length (ts:=exCs ys) (es:=ys.map exT) (by decide) rfl rfl rfl rfl (by rw[qad]) (fun e he=>by obtain⟨q,_,rfl⟩:=qa5.1 he;rw[zal];rfl) rfl rfl ?_
   obtain⟨m8,m8i⟩:=zbj l n es j [[108,101,116]] hl q2 (by decide)
   cases qm8:(rdr l es).must [[108,101,116]] j with
   | er ke c=>
     rw[qm8]at m8 m8i hr
     have hc0:=m8i.2
     replace m8:=m8.er
     try simp only[PR.vl]at m8
     simp only[PR.bind]at hr
     repeat' (first|refine zql ?_|refine we m8 ?_ ?_|refine wk ?_|exact wkc|intro hc|refine wk2 ?_ ?_|fail)
     repeat' (first|refine zaM.panic ?_|refine wk ?_|fail)
     refine rdPX hr.symm hc0 ?_
     exact leB
   | ok u8 j8=>
   rw[qm8]at m8 m8i hr
   obtain⟨m8a,m8b⟩:=m8i
   replace m8:=m8.ok
   try simp only[PR.vl]at m8
   simp only[PR.bind]at hr
   repeat' (first|refine zql ?_|refine we m8 ?_ ?_|refine wk ?_|exact wkc|intro hc|refine wk2 ?_ ?_|fail)
   obtain⟨m9,m9i⟩:=ze7 l n es hk hes 3 0 rfl j8 m8b
   cases qm9:(rdr l es).zcm (rdr l es).expr 3 j8 with
   | er ke c=>
     rw[qm9]at m9 m9i hr
     have hc0:=m9i.2
     replace m9:=m9.er
     try simp only[PR.vl]at m9
     simp only[PR.bind]at hr
     repeat' (first|refine zql ?_|refine we m9 ?_ ?_|refine wk ?_|exact wkc|intro hc|refine wk2 ?_ ?_|fail)
     repeat' (first|refine zaM.panic ?_|refine wk ?_|fail)
     refine rdPX hr.symm hc0 ?_
     exact leB
   | ok qa j9=>
   rw[qm9]at m9 m9i hr
   obtain⟨m9a,m9b⟩:=m9i
   replace m9:=m9.ok
   try simp only[PR.vl]at m9
   simp only[PR.bind]at hr
   repeat' (first|refine zql ?_|refine we m9 ?_ ?_|refine wk ?_|exact wkc|intro hc|refine wk2 ?_ ?_|fail)
   obtain⟨m10,m10i⟩:=zbj l n es j9 [[116,101,108]] hl m9b (by decide)
   cases qm10:(rdr l es).must [[116,101,108]] j9 with
   | er ke c=>
     rw[qm10]at m10 m10i hr
     have hc0:=m10i.2
     replace m10:=m10.er
     try simp only[PR.vl]at m10
     simp only[PR.bind]at hr
     repeat' (first|refine zql ?_|refine we m10 ?_ ?_|refine wk ?_|exact wkc|intro hc|refine wk2 ?_ ?_|fail)
     repeat' (first|refine zaM.panic ?_|refine wk ?_|fail)
     refine rdPX hr.symm hc0 ?_
     exact leB
   | ok u10 j10=>
   rw[qm10]at m10 m10i hr
   obtain⟨m10a,m10b⟩:=m10i
   replace m10:=m10.ok
   try simp only[PR.vl]at m10
   simp only[PR.bind]at hr
   repeat' (first|refine zql ?_|refine we m10 ?_ ?_|refine wk ?_|exact wkc|intro hc|refine wk2 ?_ ?_|fail)
   refine zds.ret ?_
   apply rdV hr.symm
   ·exact rfl
   ·rw[<-hr,vlE]
    unfold nodT
    simp only
    exact zqa
   all_goals exact rfl
 | false=>
 rw[h1]at t1
 rw[if_neg (by rw[h1];decide)]at hr
 repeat' (first|refine zql ?_|refine wd t1 ?_|refine wk ?_|exact wkc|intro hc|refine wk2 ?_ ?_|fail)
 obtain⟨m3,m3i⟩:=zg0 l n es j2 hk hes m2b 64 false (by decide)
 cases qm3:(rdr l es).decls 64 false ((rdr l es).K.length+1) [] j2 with
 | er ke c=>
   rw[qm3]at m3 m3i hr
   have hc0:=m3i.2
   replace m3:=m3.er
   try simp only[PR.vl]at m3
   simp only[PR.bind]at hr
   repeat' (first|refine zql ?_|refine we m3 ?_ ?_|refine wk ?_|exact wkc|intro hc|refine wk2 ?_ ?_|fail)
   repeat' (first|refine zaM.panic ?_|refine wk ?_|fail)
   refine rdPX hr.symm hc0 ?_
   exact leB
 | ok a jj=>
 rw[qm3]at m3 m3i hr
 obtain⟨m3a,m3b⟩:=m3i
 replace m3:=m3.ok
 try simp only[PR.vl]at m3
 simp only[PR.bind]at hr
 repeat' (first|refine zql ?_|refine we m3 ?_ ?_|refine wk ?_|exact wkc|intro hc|refine wk2 ?_ ?_|fail)
 replace hr:(((rdr l es).must [[41],[114,101,116,117,114,110,115],[40]] jj).bind fun _ i=>((rdr l es).decls 64 false ((rdr l es).K.length+1) [] i).bind fun b i=>((rdr l es).must [[41]] i).bind fun _ i=>((rdr l es).locals i).bind fun d i=>((rdr l es).claims (rdr l es).expr (rdr l es).K.length [] [] i).bind fun ae i=>((rdr l es).must [[108,101,116]] i).bind fun _ i=>((rdr l es).zcm (rdr l es).expr 3 i).bind fun qa i=>((rdr l es).must [[116,101,108]] i).bind fun _ i=>(.ok ⟨s,a,b,d,qa.1,qa.2,ae.1,ae.2⟩ i:PR Nod))=r:=hr
 have hja:i≤jj:=by omega
 have hjb:jj≤l.length:=by omega
 clear m3
 obtain⟨m4,m4i⟩:=zbj l n es jj [[41],[114,101,116,117,114,110,115],[40]] hl hjb (by decide)
 cases qm4:(rdr l es).must [[41],[114,101,116,117,114,110,115],[40]] jj with
 | er ke c=>
   rw[qm4]at m4 m4i hr
   have hc0:=m4i.2
   replace m4:=m4.er
   try simp only[PR.vl]at m4
   simp only[PR.bind]at hr
   repeat' (first|refine zql ?_|refine we m4 ?_ ?_|refine wk ?_|exact wkc|intro hc|refine wk2 ?_ ?_|fail)
   repeat' (first|refine zaM.panic ?_|refine wk ?_|fail)
   refine rdPX hr.symm hc0 ?_
   exact leB
 | ok u4 j4=>
 rw[qm4]at m4 m4i hr
 obtain⟨m4a,m4b⟩:=m4i
 replace m4:=m4.ok
 try simp only[PR.vl]at m4
 simp only[PR.bind]at hr
 repeat' (first|refine zql ?_|refine we m4 ?_ ?_|refine wk ?_|exact wkc|intro hc|refine wk2 ?_ ?_|fail)
 obtain⟨m5,m5i⟩:=zg0 l n es j4 hk hes m4b 64 false (by decide)
 cases qm5:(rdr l es).decls 64 false ((rdr l es).K.length+1) [] j4 with
 | er ke c=>
   rw[qm5]at m5 m5i hr
   have hc0:=m5i.2
   replace m5:=m5.er
   try simp only[PR.vl]at m5
   simp only[PR.bind]at hr
   repeat' (first|refine zql ?_|refine we m5 ?_ ?_|refine wk ?_|exact wkc|intro hc|refine wk2 ?_ ?_|fail)
   repeat' (first|refine zaM.panic ?_|refine wk ?_|fail)
   refine rdPX hr.symm hc0 ?_
   exact leB
 | ok b j5=>
 rw[qm5]at m5 m5i hr
 obtain⟨m5a,m5b⟩:=m5i
 replace m5:=m5.ok
 try simp only[PR.vl]at m5
 simp only[PR.bind]at hr
 repeat' (first|refine zql ?_|refine we m5 ?_ ?_|refine wk ?_|exact wkc|intro hc|refine wk2 ?_ ?_|fail)
 obtain⟨m6,m6i⟩:=zbj l n es j5 [[41]] hl m5b (by decide)
 cases qm6:(rdr l es).must [[41]] j5 with
 | er ke c=>
   rw[qm6]at m6 m6i hr
   have hc0:=m6i.2
   replace m6:=m6.er
   try simp only[PR.vl]at m6
   simp only[PR.bind]at hr
   repeat' (first|refine zql ?_|refine we m6 ?_ ?_|refine wk ?_|exact wkc|intro hc|refine wk2 ?_ ?_|fail)
   repeat' (first|refine zaM.panic ?_|refine wk ?_|fail)
   refine rdPX hr.symm hc0 ?_
   exact leB
 | ok u6 j6=>
 rw[qm6]at m6 m6i hr
 obtain⟨m6a,m6b⟩:=m6i
 replace m6:=m6.ok
 try simp only[PR.vl]at m6
 simp only[PR.bind]at hr
 repeat' (first|refine zql ?_|refine we m6 ?_ ?_|refine wk ?_|exact wkc|intro hc|refine wk2 ?_ ?_|fail)
 obtain⟨m7,m7i⟩:=ziV l n es j6 hk hes m6b
 cases qm7:(rdr l es).locals j6 with
 | er ke c=>
   rw[qm7]at m7 m7i hr
   have hc0:=m7i.2
   replace m7:=m7.er
   try simp only[PR.vl]at m7
   simp only[PR.bind]at hr
   repeat' (first|refine zql ?_|refine we m7 ?_ ?_|refine wk ?_|exact wkc|intro hc|refine wk2 ?_ ?_|fail)
   repeat' (first|refine zaM.panic ?_|refine wk ?_|fail)
   refine rdPX hr.symm hc0 ?_
   exact leB
 | ok dl j7=>
 rw[qm7]at m7 m7i hr
 obtain⟨m7a,m7b⟩:=m7i
 replace m7:=m7.ok
 try simp only[PR.vl]at m7
 simp only[PR.bind]at hr
 repeat' (first|refine zql ?_|refine we m7 ?_ ?_|refine wk ?_|exact wkc|intro hc|refine wk2 ?_ ?_|fail)
 replace hr:(((rdr l es).claims (rdr l es).expr (rdr l es).K.length [] [] j7).bind fun ae i=>((rdr l es).must [[108,101,116]] i).bind fun _ i=>((rdr l es).zcm (rdr l es).expr 3 i).bind fun qa i=>((rdr l es).must [[116,101,108]] i).bind fun _ i=>(.ok ⟨s,a,b,dl,qa.1,qa.2,ae.1,ae.2⟩ i:PR Nod))=r:=hr
 clear m4 m5 m6 m7
 refine TR.zfe (ι:=Nat×Nat×List Ex×List Ex) (fun x=>i≤x.2.1/\x.2.1≤l.length/\l.length-x.2.1≤x.1/\x.2.2.1.length≤8/\x.2.2.2.length≤8/\(((rdr l es).claims (rdr l es).expr x.1 x.2.2.1 x.2.2.2 x.2.1).bind fun ae i=>((rdr l es).must [[108,101,116]] i).bind fun _ i=>((rdr l es).zcm (rdr l es).expr 3 i).bind fun qa i=>((rdr l es).must [[116,101,108]] i).bind fun _ i=>(.ok ⟨s,a,b,dl,qa.1,qa.2,ae.1,ae.2⟩ i:PR Nod))=r) (fun x=>l.length-x.2.1) (fun x=>[(0,.ref 0 0),(2,.ref 1 0),(3,.ref 2 0)]) (fun x=>[rdB l n es x.2.1,nodZ,nodB s (.sl 3 (a.map zag)) (.sl 3 (b.map zag)) (.sl 3 (dl.map zag)) (rowV 6 x.2.2.1.length 3) (rowV 6 x.2.2.2.length 4),rowB x.2.2.1.length ((exCs x.2.2.1).map .t),rowB x.2.2.2.length ((exCs x.2.2.2).map .t)]) ((rdr l es).K.length,j7,[],[])
  ⟨by show i≤j7;omega,m7b,by rw[zae];show l.length-j7≤l.length;omega,by show 0≤8;omega,by show 0≤8;omega,hr⟩ ⟨rfl,rfl,rfl,trivial⟩ 2 rfl ?_
 clear hr
 rintro⟨m,j,xs,ys⟩ ⟨q1,q2,q3,q4,q5,hr⟩
 replace q1:i≤j:=q1
 replace q2:j≤l.length:=q2
 replace q3:l.length-j≤m:=q3
 replace q4:xs.length≤8:=q4
 replace q5:ys.length≤8:=q5
 replace hr:(((rdr l es).claims (rdr l es).expr m xs ys j).bind fun ae i=>((rdr l es).must [[108,101,116]] i).bind fun _ i=>((rdr l es).zcm (rdr l es).expr 3 i).bind fun qa i=>((rdr l es).must [[116,101,108]] i).bind fun _ i=>(.ok ⟨s,a,b,dl,qa.1,qa.2,ae.1,ae.2⟩ i:PR Nod))=r:=hr
 have hcx:((exCs xs).map SV.t).length=xs.length*6:=by rw[qad,zeh]
 have hcy:((exCs ys).map SV.t).length=ys.length*6:=by rw[qad,zeh]
 have t2:=zaF l n es j [97,115,115,117,109,101] hl
 have t3:=zaF l n es j [101,110,115,117,114,101] hl
 show TR _ _ _ [(0,.ref 0 0),(2,.ref 1 0),(3,.ref 2 0)] [rdB l n es j,nodZ,nodB s (.sl 3 (a.map zag)) (.sl 3 (b.map zag)) (.sl 3 (dl.map zag)) (rowV 6 xs.length 3) (rowV 6 ys.length 4),rowB xs.length ((exCs xs).map .t),rowB ys.length ((exCs ys).map .t)] _
 cases h2:(rdr l es).isAt j [97,115,115,117,109,101] with
 | true=>
   have hlth2:=zaj h2
   rw[zae]at hlth2
   rw[h2]at t2
   cases m with
   | zero=>exfalso;omega
   | succ m=>
   rw[Rd.claims,if_pos h2]at hr
   refine wk ?_
   repeat' (first|refine zql ?_|refine wd t2 ?_|(apply TO.lenR zaa;(iterate 4 exact rfl))|refine wk ?_|exact wkc|intro hc|refine wk2 ?_ ?_|fail)
   obtain⟨m3,m3i⟩:=limC l n es j xs.length xs.length 8 hl q2 rfl
   cases qm3:limR xs.length 8 j with
   | er ke c=>
     rw[qm3]at m3 m3i hr
     have hc0:=m3i.2
     replace m3:=m3.er
     try simp only[PR.vl]at m3
     simp only[PR.bind]at hr
     repeat' (first|refine zql ?_|refine we m3 ?_ ?_|refine wk ?_|exact wkc|intro hc|refine wk2 ?_ ?_|fail)
     repeat' (first|refine zaM.panic ?_|refine wk ?_|fail)
     refine rdPX hr.symm hc0 ?_
     exact leB
   | ok u3 j3=>
   rw[qm3]at m3 m3i hr
   obtain⟨m3a,m3b⟩:=m3i
   replace m3:=m3.ok
   try simp only[PR.vl]at m3
   simp only[PR.bind]at hr
   obtain⟨hlt4,rfl⟩:=za6 qm3
   repeat' (first|refine wkt ?_|refine zql ?_|refine we m3 ?_ ?_|exact wkc|intro hc|refine wk2 ?_ ?_|fail)
   have hoff:(0+((xs.length:Nat):Int).toNat*6)+6≤((exCs xs).map SV.t++zEx.map SV.t).length:=by
    exact zwey
   have hspl0:∀ec:List T,ec.length=6->splice ((exCs xs).map SV.t++zEx.map SV.t) (0+((xs.length:Nat):Int).toNat*6) (ec.map SV.t)=(exCs xs).map SV.t++ec.map SV.t:=fun ec he=>by
    exact zwbp
   obtain⟨m4,m4i⟩:=zez l n es (j3+1) hk hes hlth2
   cases qm4:(rdr l es).expr (j3+1) with
   | er ke c=>
     rw[qm4]at m4 m4i hr
     have hc0:=m4i.2
     replace m4:=m4.er
     try simp only[PR.vl]at m4
     simp only[PR.bind]at hr
     have hspl:=hspl0 (exC noE) rfl
     refine rgF 4 7 9 11 (g:=False) (H1:=[rdB l n es (j3+1),nodZ,nodB s (.sl 3 (a.map zag)) (.sl 3 (b.map zag)) (.sl 3 (dl.map zag)) (rowV 6 xs.length 3) (rowV 6 ys.length 4),rowB xs.length ((exCs xs).map .t),rowB ys.length ((exCs ys).map .t)]) (H2:=[rdB l n es (j3+1),nodZ,nodB s (.sl 3 (a.map zag)) (.sl 3 (b.map zag)) (.sl 3 (dl.map zag)) (rowV 6 xs.length 3) (rowV 6 ys.length 4),.dead,rowB ys.length ((exCs ys).map .t),.cells ((exCs xs).map .t++zEx.map .t)]) (HC:=[rdB l n es (j3+1),nodZ,nodB s (.sl 3 (a.map zag)) (.sl 3 (b.map zag)) (.sl 3 (dl.map zag)) (rowV 6 xs.length 3) (rowV 6 ys.length 4),.dead,rowB ys.length ((exCs ys).map .t),.cells ((exCs xs).map .t++(exC noE).map .t)]) (HD:=[rdB l n es (j3+1),nodZ,nodB s (.sl 3 (a.map zag)) (.sl 3 (b.map zag)) (.sl 3 (dl.map zag)) (.ms 6 5 0 (xs.length+1)) (rowV 6 ys.length 4),.dead,rowB ys.length ((exCs ys).map .t),.cells ((exCs xs).map .t++zEx.map .t)]) (HF:=[rdB l n es (j3+1),nodZ,nodB s (.sl 3 (a.map zag)) (.sl 3 (b.map zag)) (.sl 3 (dl.map zag)) (.ms 6 5 0 (xs.length+1)) (rowV 6 ys.length 4),.dead,rowB ys.length ((exCs ys).map .t),.cells ((exCs xs).map .t++(exC noE).map .t)]) [.ref 2 6,.ref 2 6,rowV 6 xs.length 3,.ref 0 0,.t (.ag (exC noE)),.i xs.length,.t (.sl 6 [.ag zEx]),.ms 6 5 0 (xs.length+1),.ref 5 (0+((xs.length:Nat):Int).toNat*6),.t (.v undef),.ref 2 6,.t (.v undef)] ?_ (fun h=>h.elim)
     repeat' (first|exact trivial|exact⟨⟨rfl,rfl⟩,trivial⟩|refine qak (fun env=>?_) ?_|refine qak ?_ ?_|refine fun(env:Env)=>?_|refine zql ?_|refine we m4 ?_ ?_|(apply TO.lenR zaa;(iterate 4 exact rfl))|(apply TO.zb8 zaa;(iterate 5 exact rfl);exact zeZ;(iterate 3 exact rfl))|(apply TO.zcS zaa;(iterate 10 exact rfl);exact hcx;exact rfl;exact rfl;exact leB;exact rfl;(simp only[qac,qai];omega);exact rfl)|refine zqh ?_|refine zqd ?_|refine wk ?_|exact wkc|intro hc|refine wk2 ?_ ?_|fail)
     repeat' (first|refine zaM.panic ?_|refine wk ?_|fail)
     refine rdPX hr.symm hc0 ?_
     exact leB
   | ok e k=>
   rw[qm4]at m4 m4i hr
   obtain⟨m4a,m4b⟩:=m4i
   replace m4:=m4.ok
   try simp only[PR.vl]at m4
   simp only[PR.bind]at hr
   rw[zal e]at m4
   have hspl:=hspl0 (exC e) rfl
   refine rgF 4 7 9 11 (g:=True) (H1:=[rdB l n es k,nodZ,nodB s (.sl 3 (a.map zag)) (.sl 3 (b.map zag)) (.sl 3 (dl.map zag)) (rowV 6 xs.length 3) (rowV 6 ys.length 4),rowB xs.length ((exCs xs).map .t),rowB ys.length ((exCs ys).map .t)]) (H2:=[rdB l n es k,nodZ,nodB s (.sl 3 (a.map zag)) (.sl 3 (b.map zag)) (.sl 3 (dl.map zag)) (rowV 6 xs.length 3) (rowV 6 ys.length 4),.dead,rowB ys.length ((exCs ys).map .t),.cells ((exCs xs).map .t++zEx.map .t)]) (HC:=[rdB l n es k,nodZ,nodB s (.sl 3 (a.map zag)) (.sl 3 (b.map zag)) (.sl 3 (dl.map zag)) (rowV 6 xs.length 3) (rowV 6 ys.length 4),.dead,rowB ys.length ((exCs ys).map .t),.cells ((exCs xs).map .t++(exC e).map .t)]) (HD:=[rdB l n es k,nodZ,nodB s (.sl 3 (a.map zag)) (.sl 3 (b.map zag)) (.sl 3 (dl.map zag)) (.ms 6 5 0 (xs.length+1)) (rowV 6 ys.length 4),.dead,rowB ys.length ((exCs ys).map .t),.cells ((exCs xs).map .t++zEx.map .t)]) (HF:=[rdB l n es k,nodZ,nodB s (.sl 3 (a.map zag)) (.sl 3 (b.map zag)) (.sl 3 (dl.map zag)) (.ms 6 5 0 (xs.length+1)) (rowV 6 ys.length 4),.dead,rowB ys.length ((exCs ys).map .t),.cells ((exCs xs).map .t++(exC e).map .t)]) [.ref 2 6,.ref 2 6,rowV 6 xs.length 3,.ref 0 0,.t (.ag (exC e)),.i xs.length,.t (.sl 6 [.ag zEx]),.ms 6 5 0 (xs.length+1),.ref 5 (0+((xs.length:Nat):Int).toNat*6),.t (.v undef),.ref 2 6,.t (.v undef)] ?_ (fun _=>?_)
   ·repeat' (first|exact trivial|exact⟨⟨rfl,rfl⟩,trivial⟩|refine qak (fun env=>?_) ?_|refine qak ?_ ?_|refine fun(env:Env)=>?_|refine zql ?_|refine we m4 ?_ ?_|(apply TO.lenR zaa;(iterate 4 exact rfl))|(apply TO.zb8 zaa;(iterate 5 exact rfl);exact zeZ;(iterate 3 exact rfl))|(apply TO.zcS zaa;(iterate 10 exact rfl);exact hcx;exact rfl;exact rfl;exact leB;exact rfl;(simp only[qac,qai];omega);exact rfl)|refine zqh ?_|refine zqd ?_|refine wk ?_|exact wkc|intro hc|refine wk2 ?_ ?_|fail)
    done
   obtain⟨m13,m13i⟩:=zbj l n es k [[59]] hl m4b (by decide)
   cases qm13:(rdr l es).must [[59]] k with
   | er ke c=>
     rw[qm13]at m13 m13i hr
     have hc0:=m13i.2
     replace m13:=m13.er
     try simp only[PR.vl]at m13
     simp only[PR.bind]at hr
     repeat' (first|refine zql ?_|refine we m13 ?_ ?_|refine wk ?_|exact wkc|intro hc|refine wk2 ?_ ?_|fail)
     repeat' (first|refine zaM.panic ?_|refine wk ?_|fail)
     refine rdPX hr.symm hc0 ?_
     exact leB
   | ok u13 j13=>
   rw[qm13]at m13 m13i hr
   obtain⟨m13a,m13b⟩:=m13i
   replace m13:=m13.ok
   try simp only[PR.vl]at m13
   simp only[PR.bind]at hr
   repeat' (first|refine zql ?_|refine we m13 ?_ ?_|refine wk ?_|exact wkc|intro hc|refine wk2 ?_ ?_|fail)
   have hxl:(xs++[e]).length=xs.length+1:=by rw[qal];rfl
   refine zaM.next (m,j13,(xs++[e]),ys) [0,1,2,5,4] ⟨?_,m13b,?_,?_,?_,hr⟩ ?_ (Hands.ofF (by decide) ⟨rfl,rfl,?_,?_,?_,trivial⟩ ?_) (leB) ?_ rfl ⟨⟨_,rfl,Le.refl _⟩,⟨_,rfl,Le.refl _⟩,⟨_,rfl,Le.refl _⟩,trivial⟩
   ·show i≤j13;omega
   ·show l.length-j13≤m;omega
   ·show(xs++[e]).length≤8;omega
   ·show ys.length≤8;omega
   ·show l.length-j13<l.length-j3;omega
   ·exact zwp
   ·exact zwce
   ·exact zwer
   ·exact zwh
   ·exact zweh
 | false=>
 rw[h2]at t2
 cases h3:(rdr l es).isAt j [101,110,115,117,114,101] with
 | true=>
   have hlth3:=zaj h3
   rw[zae]at hlth3
   rw[h3]at t3
   cases m with
   | zero=>exfalso;omega
   | succ m=>
   rw[Rd.claims,if_neg (by rw[h2];decide),if_pos h3]at hr
   refine wk ?_
   repeat' (first|refine zql ?_|refine wd t2 ?_|refine wd t3 ?_|(apply TO.lenR zaa;(iterate 4 exact rfl))|refine wk ?_|exact wkc|intro hc|refine wk2 ?_ ?_|fail)
   obtain⟨m3,m3i⟩:=limC l n es j ys.length ys.length 8 hl q2 rfl
   cases qm3:limR ys.length 8 j with
   | er ke c=>
     rw[qm3]at m3 m3i hr
     have hc0:=m3i.2
     replace m3:=m3.er
     try simp only[PR.vl]at m3
     simp only[PR.bind]at hr
     repeat' (first|refine zql ?_|refine we m3 ?_ ?_|refine wk ?_|exact wkc|intro hc|refine wk2 ?_ ?_|fail)
     repeat' (first|refine zaM.panic ?_|refine wk ?_|fail)
     refine rdPX hr.symm hc0 ?_
     exact leB
   | ok u3 j3=>
   rw[qm3]at m3 m3i hr
   obtain⟨m3a,m3b⟩:=m3i
   replace m3:=m3.ok
   try simp only[PR.vl]at m3
   simp only[PR.bind]at hr
   obtain⟨hlt4,rfl⟩:=za6 qm3
   repeat' (first|refine wkt ?_|refine zql ?_|refine we m3 ?_ ?_|exact wkc|intro hc|refine wk2 ?_ ?_|fail)
   have hoff:(0+((ys.length:Nat):Int).toNat*6)+6≤((exCs ys).map SV.t++zEx.map SV.t).length:=by
    exact zwez
   have hspl0:∀ec:List T,ec.length=6->splice ((exCs ys).map SV.t++zEx.map SV.t) (0+((ys.length:Nat):Int).toNat*6) (ec.map SV.t)=(exCs ys).map SV.t++ec.map SV.t:=fun ec he=>by
    exact zwbq
   obtain⟨m4,m4i⟩:=zez l n es (j3+1) hk hes hlth3
   cases qm4:(rdr l es).expr (j3+1) with
   | er ke c=>
     rw[qm4]at m4 m4i hr
     have hc0:=m4i.2
     replace m4:=m4.er
     try simp only[PR.vl]at m4
     simp only[PR.bind]at hr
     have hspl:=hspl0 (exC noE) rfl
     refine rgF 4 7 9 11 (g:=False) (H1:=[rdB l n es (j3+1),nodZ,nodB s (.sl 3 (a.map zag)) (.sl 3 (b.map zag)) (.sl 3 (dl.map zag)) (rowV 6 xs.length 3) (rowV 6 ys.length 4),rowB xs.length ((exCs xs).map .t),rowB ys.length ((exCs ys).map .t)]) (H2:=[rdB l n es (j3+1),nodZ,nodB s (.sl 3 (a.map zag)) (.sl 3 (b.map zag)) (.sl 3 (dl.map zag)) (rowV 6 xs.length 3) (rowV 6 ys.length 4),rowB xs.length ((exCs xs).map .t),.dead,.cells ((exCs ys).map .t++zEx.map .t)]) (HC:=[rdB l n es (j3+1),nodZ,nodB s (.sl 3 (a.map zag)) (.sl 3 (b.map zag)) (.sl 3 (dl.map zag)) (rowV 6 xs.length 3) (rowV 6 ys.length 4),rowB xs.length ((exCs xs).map .t),.dead,.cells ((exCs ys).map .t++(exC noE).map .t)]) (HD:=[rdB l n es (j3+1),nodZ,nodB s (.sl 3 (a.map zag)) (.sl 3 (b.map zag)) (.sl 3 (dl.map zag)) (rowV 6 xs.length 3) (.ms 6 5 0 (ys.length+1)),rowB xs.length ((exCs xs).map .t),.dead,.cells ((exCs ys).map .t++zEx.map .t)]) (HF:=[rdB l n es (j3+1),nodZ,nodB s (.sl 3 (a.map zag)) (.sl 3 (b.map zag)) (.sl 3 (dl.map zag)) (rowV 6 xs.length 3) (.ms 6 5 0 (ys.length+1)),rowB xs.length ((exCs xs).map .t),.dead,.cells ((exCs ys).map .t++(exC noE).map .t)]) [.ref 2 7,.ref 2 7,rowV 6 ys.length 4,.ref 0 0,.t (.ag (exC noE)),.i ys.length,.t (.sl 6 [.ag zEx]),.ms 6 5 0 (ys.length+1),.ref 5 (0+((ys.length:Nat):Int).toNat*6),.t (.v undef),.ref 2 7,.t (.v undef)] ?_ (fun h=>h.elim)
     repeat' (first|exact trivial|exact⟨⟨rfl,rfl⟩,trivial⟩|refine qak (fun env=>?_) ?_|refine qak ?_ ?_|refine fun(env:Env)=>?_|refine zql ?_|refine we m4 ?_ ?_|(apply TO.lenR zaa;(iterate 4 exact rfl))|(apply TO.zb8 zaa;(iterate 5 exact rfl);exact zeZ;(iterate 3 exact rfl))|(apply TO.zcS zaa;(iterate 10 exact rfl);exact hcy;exact rfl;exact rfl;exact leB;exact rfl;(simp only[qac,qai];omega);exact rfl)|refine zqh ?_|refine zqd ?_|refine wk ?_|exact wkc|intro hc|refine wk2 ?_ ?_|fail)
     repeat' (first|refine zaM.panic ?_|refine wk ?_|fail)
     refine rdPX hr.symm hc0 ?_
     exact leB
   | ok e k=>
   rw[qm4]at m4 m4i hr
   obtain⟨m4a,m4b⟩:=m4i
   replace m4:=m4.ok
   try simp only[PR.vl]at m4
   simp only[PR.bind]at hr
   rw[zal e]at m4
   have hspl:=hspl0 (exC e) rfl
   refine rgF 4 7 9 11 (g:=True) (H1:=[rdB l n es k,nodZ,nodB s (.sl 3 (a.map zag)) (.sl 3 (b.map zag)) (.sl 3 (dl.map zag)) (rowV 6 xs.length 3) (rowV 6 ys.length 4),rowB xs.length ((exCs xs).map .t),rowB ys.length ((exCs ys).map .t)]) (H2:=[rdB l n es k,nodZ,nodB s (.sl 3 (a.map zag)) (.sl 3 (b.map zag)) (.sl 3 (dl.map zag)) (rowV 6 xs.length 3) (rowV 6 ys.length 4),rowB xs.length ((exCs xs).map .t),.dead,.cells ((exCs ys).map .t++zEx.map .t)]) (HC:=[rdB l n es k,nodZ,nodB s (.sl 3 (a.map zag)) (.sl 3 (b.map zag)) (.sl 3 (dl.map zag)) (rowV 6 xs.length 3) (rowV 6 ys.length 4),rowB xs.length ((exCs xs).map .t),.dead,.cells ((exCs ys).map .t++(exC e).map .t)]) (HD:=[rdB l n es k,nodZ,nodB s (.sl 3 (a.map zag)) (.sl 3 (b.map zag)) (.sl 3 (dl.map zag)) (rowV 6 xs.length 3) (.ms 6 5 0 (ys.length+1)),rowB xs.length ((exCs xs).map .t),.dead,.cells ((exCs ys).map .t++zEx.map .t)]) (HF:=[rdB l n es k,nodZ,nodB s (.sl 3 (a.map zag)) (.sl 3 (b.map zag)) (.sl 3 (dl.map zag)) (rowV 6 xs.length 3) (.ms 6 5 0 (ys.length+1)),rowB xs.length ((exCs xs).map .t),.dead,.cells ((exCs ys).map .t++(exC e).map .t)]) [.ref 2 7,.ref 2 7,rowV 6 ys.length 4,.ref 0 0,.t (.ag (exC e)),.i ys.length,.t (.sl 6 [.ag zEx]),.ms 6 5 0 (ys.length+1),.ref 5 (0+((ys.length:Nat):Int).toNat*6),.t (.v undef),.ref 2 7,.t (.v undef)] ?_ (fun _=>?_)
   ·repeat' (first|exact trivial|exact⟨⟨rfl,rfl⟩,trivial⟩|refine qak (fun env=>?_) ?_|refine qak ?_ ?_|refine fun(env:Env)=>?_|refine zql ?_|refine we m4 ?_ ?_|(apply TO.lenR zaa;(iterate 4 exact rfl))|(apply TO.zb8 zaa;(iterate 5 exact rfl);exact zeZ;(iterate 3 exact rfl))|(apply TO.zcS zaa;(iterate 10 exact rfl);exact hcy;exact rfl;exact rfl;exact leB;exact rfl;(simp only[qac,qai];omega);exact rfl)|refine zqh ?_|refine zqd ?_|refine wk ?_|exact wkc|intro hc|refine wk2 ?_ ?_|fail)
    done
   obtain⟨m13,m13i⟩:=zbj l n es k [[59]] hl m4b (by decide)
   cases qm13:(rdr l es).must [[59]] k with
   | er ke c=>
     rw[qm13]at m13 m13i hr
     have hc0:=m13i.2
     replace m13:=m13.er
     try simp only[PR.vl]at m13
     simp only[PR.bind]at hr
     repeat' (first|refine zql ?_|refine we m13 ?_ ?_|refine wk ?_|exact wkc|intro hc|refine wk2 ?_ ?_|fail)
     repeat' (first|refine zaM.panic ?_|refine wk ?_|fail)
     refine rdPX hr.symm hc0 ?_
     exact leB
   | ok u13 j13=>
   rw[qm13]at m13 m13i hr
   obtain⟨m13a,m13b⟩:=m13i
   replace m13:=m13.ok
   try simp only[PR.vl]at m13
   simp only[PR.bind]at hr
   repeat' (first|refine zql ?_|refine we m13 ?_ ?_|refine wk ?_|exact wkc|intro hc|refine wk2 ?_ ?_|fail)
   have hxl:(ys++[e]).length=ys.length+1:=by rw[qal];rfl
   refine zaM.next (m,j13,xs,(ys++[e])) [0,1,2,3,5] ⟨?_,m13b,?_,?_,?_,hr⟩ ?_ (Hands.ofF (by decide) ⟨rfl,rfl,?_,?_,?_,trivial⟩ ?_) (leB) ?_ rfl ⟨⟨_,rfl,Le.refl _⟩,⟨_,rfl,Le.refl _⟩,⟨_,rfl,Le.refl _⟩,trivial⟩
   ·show i≤j13;omega
   ·show l.length-j13≤m;omega
   ·show xs.length≤8;omega
   ·show(ys++[e]).length≤8;omega
   ·show l.length-j13<l.length-j3;omega
   ·exact zwq
   ·exact zweq
   ·exact zwcf
   ·exact zwi
   ·exact zweh
 | false=>
 rw[h3]at t3
 rw[zfs h2 h3]at hr
 simp only[PR.bind]at hr
 refine wk ?_
 repeat' (first|refine zql ?_|refine wd t2 ?_|refine wd t3 ?_|refine zaM.exit ?_|refine wk ?_|exact wkc|intro hc|refine wk2 ?_ ?_|fail)
 refine TO.zeB 2 6 6 3 xs.length (ts:=exCs xs) (es:=xs.map exT) (by decide) rfl rfl rfl rfl (by rw[qad]) (fun e he=>by obtain⟨q,_,rfl⟩:=qa5.1 he;rw[zal];rfl) rfl rfl ?_
 refine TO.zeB 2 7 6 4 ys.length (ts:=exCs ys) (es:=ys.map exT) (by decide) rfl rfl rfl rfl (by rw[qad]) (fun e he=>by obtain⟨q,_,rfl⟩:=qa5.1 he;rw[zal];rfl) rfl rfl ?_
 obtain⟨m8,m8i⟩:=zbj l n es j [[108,101,116]] hl q2 (by decide)
 cases qm8:(rdr l es).must [[108,101,116]] j with
 | er ke c=>
   rw[qm8]at m8 m8i hr
   have hc0:=m8i.2
   replace m8:=m8.er
   try simp only[PR.vl]at m8
   simp only[PR.bind]at hr
   repeat' (first|refine zql ?_|refine we m8 ?_ ?_|refine wk ?_|exact wkc|intro hc|refine wk2 ?_ ?_|fail)
   repeat' (first|refine zaM.panic ?_|refine wk ?_|fail)
   refine rdPX hr.symm hc0 ?_
   exact leB
 | ok u8 j8=>
 rw[qm8]at m8 m8i hr
 obtain⟨m8a,m8b⟩:=m8i
 replace m8:=m8.ok
 try simp only[PR.vl]at m8
 simp only[PR.bind]at hr
 repeat' (first|refine zql ?_|refine we m8 ?_ ?_|refine wk ?_|exact wkc|intro hc|refine wk2 ?_ ?_|fail)
 obtain⟨m9,m9i⟩:=ze7 l n es hk hes 3 0 rfl j8 m8b
 cases qm9:(rdr l es).zcm (rdr l es).expr 3 j8 with
 | er ke c=>
   rw[qm9]at m9 m9i hr
   have hc0:=m9i.2
   replace m9:=m9.er
   try simp only[PR.vl]at m9
   simp only[PR.bind]at hr
   repeat' (first|refine zql ?_|refine we m9 ?_ ?_|refine wk ?_|exact wkc|intro hc|refine wk2 ?_ ?_|fail)
   repeat' (first|refine zaM.panic ?_|refine wk ?_|fail)
   refine rdPX hr.symm hc0 ?_
   exact leB
 | ok qa j9=>
 rw[qm9]at m9 m9i hr
 obtain⟨m9a,m9b⟩:=m9i
 replace m9:=m9.ok
 try simp only[PR.vl]at m9
 simp only[PR.bind]at hr
 repeat' (first|refine zql ?_|refine we m9 ?_ ?_|refine wk ?_|exact wkc|intro hc|refine wk2 ?_ ?_|fail)
 obtain⟨m10,m10i⟩:=zbj l n es j9 [[116,101,108]] hl m9b (by decide)
 cases qm10:(rdr l es).must [[116,101,108]] j9 with
 | er ke c=>
   rw[qm10]at m10 m10i hr
   have hc0:=m10i.2
   replace m10:=m10.er
   try simp only[PR.vl]at m10
   simp only[PR.bind]at hr
   repeat' (first|refine zql ?_|refine we m10 ?_ ?_|refine wk ?_|exact wkc|intro hc|refine wk2 ?_ ?_|fail)
   repeat' (first|refine zaM.panic ?_|refine wk ?_|fail)
   refine rdPX hr.symm hc0 ?_
   exact leB
 | ok u10 j10=>
 rw[qm10]at m10 m10i hr
 obtain⟨m10a,m10b⟩:=m10i
 replace m10:=m10.ok
 try simp only[PR.vl]at m10
 simp only[PR.bind]at hr
 repeat' (first|refine zql ?_|refine we m10 ?_ ?_|refine wk ?_|exact wkc|intro hc|refine wk2 ?_ ?_|fail)
 refine zds.ret ?_
 apply rdV hr.symm
 ·exact rfl
 ·rw[<-hr,vlE]
  unfold nodT
  simp only
  exact zqa
 all_goals exact rfl
end Go.Proofs.YtpfnfpaahefdaaaGreat
