import Derived.Test.YtdicfgideclbdaaGreatDoorAk47
set_option maxHeartbeats 64000000
set_option linter.all false
namespace Go.Proofs.YtdicfgideclbdaaGreatDoor
open Go Go.TL
attribute [local irreducible] TR TO Then zaj RetK Sound zac Kf GG zaQ
attribute [local irreducible] zfq
variable {R:Rd}{f:Nat->PR Ex}
theorem znk:∀ {m:Nat} {a e:List Ex} {i:Nat},R.isAt i [97,115,115,117,109,101]=false->R.isAt i [101,110,115,117,114,101]=false->R.claims f m a e i= .ok (a,e) i
 | 0,_,_,_,_,_=>rfl
 | m+1,a,e,i,h1,h2=>by rw[Rd.claims,h1,oH oB,h2,oH oB]
abbrev nodZ:Blk:=.cells [.t (.v (str [])),.t (.v (.slice none 0 0)),.t (.v (.slice none 0 0)),.t (.v (.slice none 0 0)),.t (.v (.slice none 0 0)),.t (.v (.slice none 0 0)),.t (.v (.slice none 0 0)),.t (.v (.slice none 0 0))]
def exCs(l:List Ex):List T:=((l.map exT).map T.cells).flatten
theorem zoQ(l:List Ex)(e:Ex):exCs (l++[e])=exCs l++exC e:=by simp[exCs,zan,T.cells]
theorem zkm:∀l:List Ex,(exCs l).length=l.length*6
 | []=>rfl
 | e::l=>by
   have:=zkm l
   unfold exCs at this⊢;rw[qaf,qaf,qaK,qab,this,qae,zan];show 6+_=_;omega
theorem zn8(cs z vs:List SV)(h:z.length=vs.length):splice (cs++z) cs.length vs=cs++vs:=by
 unfold splice;rw[qcB,qa2 (by rw[qab];omega),qaz]
theorem zxU(hf:∀i,i≤R.K.length->InR R.K.length (i+1) (f i))(hb:∀i,i≤R.K.length->InR R.K.length i (R.zhe f 3 i)){i:Nat}(h:i≤R.K.length):InR R.K.length (i+1) (R.node f i):=by
 unfold Rd.node;refine(zhk h).bind fun _ j h1 h2=>(zaO _ h2).bind fun _ j h3 h4=>(zvT h4).bind fun _ j h5 h6=>(zaO _ h6).bind fun _ j h7 h8=>(zfT _ _ h8).bind fun _ j h9 h10=>(zaO _ h10).bind fun _ j h11 h12=>(zij h12).bind fun _ j h13 h14=>(zh0 hf _ _ _ h14).bind fun _ j h15 h16=>(zaO _ h16).bind fun _ j h17 h18=>?_
 exact(hb _ h18).bind fun _ j h19 h20=>(zaO _ h20).bind fun _ j h21 h22=>⟨oA,h22⟩
theorem rgF(a b c d:Nat){g:Prop}{n:Nat}{env0 envF:Env}{H0 H1 H2 HC HD HF:Heap}{K:TK}{id':Nat}{l:List Oper}(t:List SV)
  (hp:zm2 Tryz.prog n K a b c d g l.toArray (zaM l.toArray t env0) H0 H1 H2 HC HD HF 0 l t)(hK:g->K .normal envF HF)
  (hB:(mixB l.toArray [] && midF l.toArray a b && (Nat.blt b c && Nat.blt c d && Nat.blt d l.length))=true:=by decide +kernel)(hE:za7 (zaM l.toArray t env0)=some envF:=by exact rfl):
  TR Tryz.prog n (.region id' l.toArray true) env0 H0 K:=TR.regionF a b c d t hmix hB hp hE hK
abbrev zEx:List T:=[.v (.int .i64 0),.v (.int .i64 0),.v (.int .i64 0),.v (.int .i64 0),.v (str []),.v (.slice none 0 0)]
theorem zwX(A:Foot)(w:World):TRel A w (.ag zEx) (.agg #[.int .i64 0,.int .i64 0,.int .i64 0,.int .i64 0,str [],.slice none 0 0]):=by
 refine .ag zEx _ rfl (fun i y hy=>?_) (fun i c y hc hy=>?_)
 ·rcases i with _|_|_|_|_|_|i
  all_goals first|(simp at hy;subst hy;rfl)|(simp at hy)
 ·rcases i with _|_|_|_|_|_|i
  all_goals first|(simp at hc hy;subst hc hy;exact .v _)|(simp at hc)
theorem set5{a b c d e f:Blk}{X Y:List SV}(h:X=Y):List.set [a,b,c,d,e,f] 5 (.cells X)=[a,b,c,d,e,.cells Y]:=by subst h;rfl
abbrev nodB (s:Str)(a b d:T)(x y:SV):Blk:=.cells [.t (.v (str s)),.t a,.t b,.t d,.t (.v (.slice none 0 0)),.t (.v (.slice none 0 0)),x,y]
theorem zpm(s:Str)(a b d:T)(x y:SV)(r:Nat->Nat):(nodB s a b d x y).ren r=nodB s a b d (x.ren r) (y.ren r):=rfl
theorem zjK{s:Str}{a b d:T}{x y:SV}{k:Nat}(hx:x.under k=true)(hy:y.under k=true):(nodB s a b d x y).under k=true:=by
 show unders k _=true;simp only[unders,SV.under,hx,hy,qbx]
abbrev vN (x:Nod):SV:=.t (nodT x)
abbrev nB (s:Str)(a b d:List Decl)(x y:SV):Blk:=nodB s (.sl 3 (a.map zak)) (.sl 3 (b.map zak)) (.sl 3 (d.map zak)) x y
set_option maxRecDepth 20000 in
theorem zA1 (l:List Tok) (n:Int) (es:List En) (hk:TkOk l) (hes:EsOk es) (i:Nat) (hi:i≤l.length):RdK l n es 66 [] i (i+1) ((rdr l es).node (rdr l es).expr i) vN:=by
 obtain⟨hB,hBI⟩:=zlr l n es hk hes 3 0 rfl;refine .of (fun h=>zxU (fun j h=>zcZ _ _ h) hBI h) hi fun xr jr hr _ _=>?_
 have hl:=hk.len;unfold Rd.node at hr;refine so Tryz.func66 ?_;repeat' (first|refine zqi ?_|refine wk ?_|exact wkc|refine wk2 ?_ ?_|intro hc)
 obtain⟨s,j1,qm1,m1,m1a,m1b,hr⟩:=(idK l n es i hl hi).get hr;repeat' (first|refine zqi ?_|refine wd m1 ?_|refine wk ?_|exact wkc|refine wk2 ?_ ?_|intro hc)
 obtain⟨u2,j2,qm2,m2,m2a,m2b,hr⟩:=(zco l n es j1 [[40]] hl m1b oB).get hr;repeat' (first|refine zqi ?_|refine wd m2 ?_|refine wk ?_|exact wkc|refine wk2 ?_ ?_|intro hc)
 have t1:=zbp l n es j2 [41] hl;clear m1 m2;obtain⟨a,jj,qa,hr⟩:=zjm hr;have hja:=zvT (R:=rdr l es) (i:=j2) (by rw[zau];exact m2b);rw[qa,zau]at hja;obtain⟨hja,hjb⟩:=hja;apply zsk (E:=fun _:Unit=>[(0,.ref 0 0),(2,.ref 1 0),(3,.ref 2 0),(17,.ref 0 0),(18,.t (.sl 1 ([[41],[114,101,116,117,114,110,115],[40]].map T.s)))]) (H:=fun _=>[rdB l n es jj,nodZ,nodB s (.sl 3 (a.map zak)) (.v (.slice none 0 0)) (.v (.slice none 0 0)) (.t (.v (.slice none 0 0))) (.t (.v (.slice none 0 0)))]) (I:=fun _=>True)
 ·intro key;unfold Rd.ins at qa;cases h1:(rdr l es).isAt j2 [41] with
  | true=>
    rw[h1]at t1;rw[oG h1]at qa;cases qa;refine yh t1 ?_;refine TO.zvB 2 1 (v':=.t (.sl 3 (([]:List Decl).map zak))) (Le.nil 3) rfl rfl rfl ?_;exact zjE key () trivial
  | false=>
    rw[h1]at t1;rw[oH (by rw[h1];decide)]at qa;obtain⟨m3,_⟩:=zrO l n es hk hes j2 m2b 64 false oB _ _ qa;repeat' (first|refine zqi ?_|refine wd t1 ?_|refine wd m3 ?_|refine wk ?_|exact wkc|refine wk2 ?_ ?_|intro hc)
    exact zjE key () trivial
 intro _ _;replace hja:i≤jj:=oA
 clear qa t1;obtain⟨u4,j4,qm4,m4,m4a,m4b,hr⟩:=(zco l n es jj [[41],[114,101,116,117,114,110,115],[40]] hl hjb oB).get hr;repeat' (first|refine zqi ?_|refine wd m4 ?_|refine wk ?_|exact wkc|refine wk2 ?_ ?_|intro hc)
 obtain⟨b,j5,qm5,m5,m5a,m5b,hr⟩:=(zrO l n es hk hes j4 m4b 64 false oB).get hr;repeat' (first|refine zqi ?_|refine wd m5 ?_|refine wk ?_|exact wkc|refine wk2 ?_ ?_|intro hc)
 obtain⟨u6,j6,qm6,m6,m6a,m6b,hr⟩:=(zco l n es j5 [[41]] hl m5b oB).get hr;repeat' (first|refine zqi ?_|refine wd m6 ?_|refine wk ?_|exact wkc|refine wk2 ?_ ?_|intro hc)
 obtain⟨dl,j7,qm7,m7,m7a,m7b,hr⟩:=(zsv l n es hk hes j6 m6b).get hr;repeat' (first|refine zqi ?_|refine wd m7 ?_|refine wk ?_|exact wkc|refine wk2 ?_ ?_|intro hc)
 replace hr:(((rdr l es).claims (rdr l es).expr (rdr l es).K.length [] [] j7).bind fun ae i=>((rdr l es).must [[108,101,116]] i).bind fun _ i=>((rdr l es).zhe (rdr l es).expr 3 i).bind fun qa i=>((rdr l es).must [[116,101,108]] i).bind fun _ i=>(.ok ⟨s,a,b,dl,qa.1,qa.2,ae.1,ae.2⟩ i:PR Nod))= .ok xr jr:=hr;clear m4 m5 m6 m7
 refine TR.zkI (ι:=Nat×Nat×List Ex×List Ex) (fun x=>i≤x.2.1/\x.2.1≤l.length/\l.length-x.2.1≤x.1/\x.2.2.1.length≤8/\x.2.2.2.length≤8/\(((rdr l es).claims (rdr l es).expr x.1 x.2.2.1 x.2.2.2 x.2.1).bind fun ae i=>((rdr l es).must [[108,101,116]] i).bind fun _ i=>((rdr l es).zhe (rdr l es).expr 3 i).bind fun qa i=>((rdr l es).must [[116,101,108]] i).bind fun _ i=>(.ok ⟨s,a,b,dl,qa.1,qa.2,ae.1,ae.2⟩ i:PR Nod))= .ok xr jr) (fun x=>l.length-x.2.1) (fun x=>[(0,.ref 0 0),(2,.ref 1 0),(3,.ref 2 0)]) (fun x=>[rdB l n es x.2.1,nodZ,nB s a b dl (rowV 6 x.2.2.1.length 3) (rowV 6 x.2.2.2.length 4),TL.rowB x.2.2.1.length ((exCs x.2.2.1).map .t),TL.rowB x.2.2.2.length ((exCs x.2.2.2).map .t)]) ((rdr l es).K.length,j7,[],[])
  ⟨by show i≤j7;omega,m7b,by rw[zau];show l.length-j7≤l.length;omega,by show 0≤8;omega,by show 0≤8;omega,hr⟩ ⟨rfl,rfl,rfl,trivial⟩ 2 rfl ?_
 clear hr;rintro⟨m,j,xs,ys⟩ ⟨q1,q2,q3,q4,q5,hr⟩;replace q1:i≤j:=q1;replace q2:j≤l.length:=q2;replace q3:l.length-j≤m:=q3;replace q4:xs.length≤8:=q4;replace q5:ys.length≤8:=q5;replace hr:(((rdr l es).claims (rdr l es).expr m xs ys j).bind fun ae i=>((rdr l es).must [[108,101,116]] i).bind fun _ i=>((rdr l es).zhe (rdr l es).expr 3 i).bind fun qa i=>((rdr l es).must [[116,101,108]] i).bind fun _ i=>(.ok ⟨s,a,b,dl,qa.1,qa.2,ae.1,ae.2⟩ i:PR Nod))= .ok xr jr:=hr;have hcx:((exCs xs).map SV.t).length=xs.length*6:=by rw[qac,zkm]
 have hcy:((exCs ys).map SV.t).length=ys.length*6:=by rw[qac,zkm]
 have t2:=zbp l n es j [97,115,115,117,109,101] hl;have t3:=zbp l n es j [101,110,115,117,114,101] hl;show TR _ _ _ [(0,.ref 0 0),(2,.ref 1 0),(3,.ref 2 0)] [rdB l n es j,nodZ,nB s a b dl (rowV 6 xs.length 3) (rowV 6 ys.length 4),TL.rowB xs.length ((exCs xs).map .t),TL.rowB ys.length ((exCs ys).map .t)] _;cases h2:(rdr l es).isAt j [97,115,115,117,109,101] with
 | true=>
   have hlth2:=zal h2;rw[zau]at hlth2;rw[h2]at t2;cases m with
   | zero=>exfalso;omega
   | succ m=>
   rw[Rd.claims,oG h2]at hr;simp only[zfK]at hr;refine wk ?_;repeat' (first|refine zqi ?_|refine wd t2 ?_|(apply TO.lenR zaf;(iterate 4 exact rfl))|refine wk ?_|exact wkc|refine wk2 ?_ ?_|intro hc)
   obtain⟨u3,j3,qm3,m3,m3a,m3b,hr⟩:=(limK l n es j xs.length xs.length 8 hl q2 rfl).get hr;obtain⟨hlt4,rfl⟩:=zci qm3;repeat' (first|refine wkt ?_|refine zqi ?_|refine wd m3 ?_|exact wkc|refine wk2 ?_ ?_|intro hc)
   have hoff:(0+((xs.length:Nat):Int).toNat*6)+6≤((exCs xs).map SV.t++zEx.map SV.t).length:=by
    rw[qab,hcx];show 0+xs.length*6+6≤xs.length*6+6;omega
   have hspl0:∀ec:List T,ec.length=6->splice ((exCs xs).map SV.t++zEx.map SV.t) (0+((xs.length:Nat):Int).toNat*6) (ec.map SV.t)=(exCs xs).map SV.t++ec.map SV.t:=fun ec he=>by
    show splice _ (0+xs.length*6) _=_;rw[show 0+xs.length*6=((exCs xs).map SV.t).length by rw[hcx];omega];exact zwep
   obtain⟨e,k,qm4,m4,m4a,m4b,hr⟩:=(zoR l n es hk hes (j3+1) hlth2).get hr;have hspl:=hspl0 (exC e) rfl;refine rgF 4 7 9 11 (g:=True) (H1:=[rdB l n es k,nodZ,nB s a b dl (rowV 6 xs.length 3) (rowV 6 ys.length 4),TL.rowB xs.length ((exCs xs).map .t),TL.rowB ys.length ((exCs ys).map .t)]) (H2:=[rdB l n es k,nodZ,nB s a b dl (rowV 6 xs.length 3) (rowV 6 ys.length 4),.dead,TL.rowB ys.length ((exCs ys).map .t),.cells ((exCs xs).map .t++zEx.map .t)]) (HC:=[rdB l n es k,nodZ,nB s a b dl (rowV 6 xs.length 3) (rowV 6 ys.length 4),.dead,TL.rowB ys.length ((exCs ys).map .t),.cells ((exCs xs).map .t++(exC e).map .t)]) (HD:=[rdB l n es k,nodZ,nB s a b dl (.ms 6 5 0 (xs.length+1)) (rowV 6 ys.length 4),.dead,TL.rowB ys.length ((exCs ys).map .t),.cells ((exCs xs).map .t++zEx.map .t)]) (HF:=[rdB l n es k,nodZ,nB s a b dl (.ms 6 5 0 (xs.length+1)) (rowV 6 ys.length 4),.dead,TL.rowB ys.length ((exCs ys).map .t),.cells ((exCs xs).map .t++(exC e).map .t)]) [.ref 2 6,.ref 2 6,rowV 6 xs.length 3,.ref 0 0,.t (.ag (exC e)),.i xs.length,.t (.sl 6 [.ag zEx]),.ms 6 5 0 (xs.length+1),.ref 5 (0+((xs.length:Nat):Int).toNat*6),.t (.v undef),.ref 2 6,.t (.v undef)] ?_ (fun _=>?_)
   ·repeat' (first|exact trivial|exact⟨⟨rfl,rfl⟩,trivial⟩|refine qav (fun env=>?_) ?_|refine qav ?_ ?_|refine fun(env:Env)=>?_|refine zqi ?_|refine wd m4 ?_|(apply TO.lenR zaf;(iterate 4 exact rfl))|(apply TO.zlt zaf;(iterate 5 exact rfl);exact zwX;(iterate 3 exact rfl))|(apply TO.zm6 zaf;(iterate 10 exact rfl);exact hcx;exact rfl;exact rfl;exact leB;exact rfl;(simp only[qae,qal];omega);exact rfl)|refine zqh ?_|(apply TO.store zaf;(iterate 6 exact rfl);exact leB;exact rfl;exact hoff;exact set5 hspl)|refine wk ?_|exact wkc|refine wk2 ?_ ?_|intro hc)
    done
   obtain⟨u13,j13,qm13,m13,m13a,m13b,hr⟩:=(zco l n es k [[59]] hl m4b oB).get hr;refine yh m13 ?_;have hxl:(xs++[e]).length=xs.length+1:=by rw[qab];rfl
   refine zfq.next (m,j13,(xs++[e]),ys) [0,1,2,5,4] ⟨?_,m13b,?_,?_,?_,hr⟩ ?_ (Hands.ofF oB ⟨rfl,rfl,?_,?_,?_,trivial⟩ ?_) (leB) ?_ rfl ⟨⟨_,rfl,Le.refl _⟩,⟨_,rfl,Le.refl _⟩,⟨_,rfl,Le.refl _⟩,trivial⟩
   ·show i≤j13;omega
   ·show l.length-j13≤m;omega
   ·show(xs++[e]).length≤8;omega
   ·show ys.length≤8;omega
   ·show l.length-j13<l.length-j3;omega
   ·show some (nB s a b dl (.ms 6 5 0 (xs.length+1)) (rowV 6 ys.length 4))=some ((nB s a b dl (rowV 6 (xs++[e]).length 3) (rowV 6 ys.length 4)).ren _);rw[zpm,zdw,zdw,zc0 (n:=(xs++[e]).length) oA,hxl];rfl
   ·show _=some ((TL.rowB (xs++[e]).length ((exCs (xs++[e])).map .t)).ren _);rw[zen,zcb (show 0<(xs++[e]).length by omega),zoQ,qaw];rfl
   ·show _=some ((TL.rowB ys.length ((exCs ys).map .t)).ren _);rw[zen];rfl
   ·show zaa 5 [rdB l n es j13,nodZ,nB s a b dl (rowV 6 (xs++[e]).length 3) (rowV 6 ys.length 4),TL.rowB (xs++[e]).length ((exCs (xs++[e])).map .t),TL.rowB ys.length ((exCs ys).map .t)]=true;have h9:(nB s a b dl (rowV 6 (xs++[e]).length 3) (rowV 6 ys.length 4)).under 5=true:=zjK (zbV oB) (zbV oB);simp only[zaa,zdX,h9,qbx];rfl
   ·exact zweb
 | false=>
 rw[h2]at t2;cases h3:(rdr l es).isAt j [101,110,115,117,114,101] with
 | true=>
   have hlth3:=zal h3;rw[zau]at hlth3;rw[h3]at t3;cases m with
   | zero=>exfalso;omega
   | succ m=>
   rw[Rd.claims,oH (by rw[h2];decide),oG h3]at hr;simp only[zfK]at hr;refine wk ?_;repeat' (first|refine zqi ?_|refine wd t2 ?_|refine wd t3 ?_|(apply TO.lenR zaf;(iterate 4 exact rfl))|refine wk ?_|exact wkc|refine wk2 ?_ ?_|intro hc)
   obtain⟨u3,j3,qm3,m3,m3a,m3b,hr⟩:=(limK l n es j ys.length ys.length 8 hl q2 rfl).get hr;obtain⟨hlt4,rfl⟩:=zci qm3;repeat' (first|refine wkt ?_|refine zqi ?_|refine wd m3 ?_|exact wkc|refine wk2 ?_ ?_|intro hc)
   have hoff:(0+((ys.length:Nat):Int).toNat*6)+6≤((exCs ys).map SV.t++zEx.map SV.t).length:=by
    rw[qab,hcy];show 0+ys.length*6+6≤ys.length*6+6;omega
   have hspl0:∀ec:List T,ec.length=6->splice ((exCs ys).map SV.t++zEx.map SV.t) (0+((ys.length:Nat):Int).toNat*6) (ec.map SV.t)=(exCs ys).map SV.t++ec.map SV.t:=fun ec he=>by
    show splice _ (0+ys.length*6) _=_;rw[show 0+ys.length*6=((exCs ys).map SV.t).length by rw[hcy];omega];exact zwep
   obtain⟨e,k,qm4,m4,m4a,m4b,hr⟩:=(zoR l n es hk hes (j3+1) hlth3).get hr;have hspl:=hspl0 (exC e) rfl;refine rgF 4 7 9 11 (g:=True) (H1:=[rdB l n es k,nodZ,nB s a b dl (rowV 6 xs.length 3) (rowV 6 ys.length 4),TL.rowB xs.length ((exCs xs).map .t),TL.rowB ys.length ((exCs ys).map .t)]) (H2:=[rdB l n es k,nodZ,nB s a b dl (rowV 6 xs.length 3) (rowV 6 ys.length 4),TL.rowB xs.length ((exCs xs).map .t),.dead,.cells ((exCs ys).map .t++zEx.map .t)]) (HC:=[rdB l n es k,nodZ,nB s a b dl (rowV 6 xs.length 3) (rowV 6 ys.length 4),TL.rowB xs.length ((exCs xs).map .t),.dead,.cells ((exCs ys).map .t++(exC e).map .t)]) (HD:=[rdB l n es k,nodZ,nB s a b dl (rowV 6 xs.length 3) (.ms 6 5 0 (ys.length+1)),TL.rowB xs.length ((exCs xs).map .t),.dead,.cells ((exCs ys).map .t++zEx.map .t)]) (HF:=[rdB l n es k,nodZ,nB s a b dl (rowV 6 xs.length 3) (.ms 6 5 0 (ys.length+1)),TL.rowB xs.length ((exCs xs).map .t),.dead,.cells ((exCs ys).map .t++(exC e).map .t)]) [.ref 2 7,.ref 2 7,rowV 6 ys.length 4,.ref 0 0,.t (.ag (exC e)),.i ys.length,.t (.sl 6 [.ag zEx]),.ms 6 5 0 (ys.length+1),.ref 5 (0+((ys.length:Nat):Int).toNat*6),.t (.v undef),.ref 2 7,.t (.v undef)] ?_ (fun _=>?_)
   ·repeat' (first|exact trivial|exact⟨⟨rfl,rfl⟩,trivial⟩|refine qav (fun env=>?_) ?_|refine qav ?_ ?_|refine fun(env:Env)=>?_|refine zqi ?_|refine wd m4 ?_|(apply TO.lenR zaf;(iterate 4 exact rfl))|(apply TO.zlt zaf;(iterate 5 exact rfl);exact zwX;(iterate 3 exact rfl))|(apply TO.zm6 zaf;(iterate 10 exact rfl);exact hcy;exact rfl;exact rfl;exact leB;exact rfl;(simp only[qae,qal];omega);exact rfl)|refine zqh ?_|(apply TO.store zaf;(iterate 6 exact rfl);exact leB;exact rfl;exact hoff;exact set5 hspl)|refine wk ?_|exact wkc|refine wk2 ?_ ?_|intro hc)
    done
   obtain⟨u13,j13,qm13,m13,m13a,m13b,hr⟩:=(zco l n es k [[59]] hl m4b oB).get hr;refine yh m13 ?_;have hxl:(ys++[e]).length=ys.length+1:=by rw[qab];rfl
   refine zfq.next (m,j13,xs,(ys++[e])) [0,1,2,3,5] ⟨?_,m13b,?_,?_,?_,hr⟩ ?_ (Hands.ofF oB ⟨rfl,rfl,?_,?_,?_,trivial⟩ ?_) (leB) ?_ rfl ⟨⟨_,rfl,Le.refl _⟩,⟨_,rfl,Le.refl _⟩,⟨_,rfl,Le.refl _⟩,trivial⟩
   ·show i≤j13;omega
   ·show l.length-j13≤m;omega
   ·show xs.length≤8;omega
   ·show(ys++[e]).length≤8;omega
   ·show l.length-j13<l.length-j3;omega
   ·show some (nB s a b dl (rowV 6 xs.length 3) (.ms 6 5 0 (ys.length+1)))=some ((nB s a b dl (rowV 6 xs.length 3) (rowV 6 (ys++[e]).length 4)).ren _);rw[zpm,zdw,zdw,zc0 (n:=(ys++[e]).length) oA,hxl];rfl
   ·show _=some ((TL.rowB xs.length ((exCs xs).map .t)).ren _);rw[zen];rfl
   ·show _=some ((TL.rowB (ys++[e]).length ((exCs (ys++[e])).map .t)).ren _);rw[zen,zcb (show 0<(ys++[e]).length by omega),zoQ,qaw];rfl
   ·show zaa 5 [rdB l n es j13,nodZ,nB s a b dl (rowV 6 xs.length 3) (rowV 6 (ys++[e]).length 4),TL.rowB xs.length ((exCs xs).map .t),TL.rowB (ys++[e]).length ((exCs (ys++[e])).map .t)]=true;have h9:(nB s a b dl (rowV 6 xs.length 3) (rowV 6 (ys++[e]).length 4)).under 5=true:=zjK (zbV oB) (zbV oB);simp only[zaa,zdX,h9,qbx];rfl
   ·exact zweb
 | false=>
 rw[h3]at t3;rw[znk h2 h3,zp7]at hr;refine wk ?_;repeat' (first|refine zqi ?_|refine wd t2 ?_|refine wd t3 ?_|refine zfq.exit ?_|refine wk ?_|exact wkc|refine wk2 ?_ ?_|intro hc)
 refine TO.zku 2 6 6 3 xs.length (ts:=exCs xs) (es:=xs.map exT) oB rfl rfl rfl rfl (by rw[qac]) (fun e he=>by obtain⟨q,_,rfl⟩:=qaL.1 he;rw[zan];rfl) rfl rfl ?_;refine TO.zku 2 7 6 4 ys.length (ts:=exCs ys) (es:=ys.map exT) oB rfl rfl rfl rfl (by rw[qac]) (fun e he=>by obtain⟨q,_,rfl⟩:=qaL.1 he;rw[zan];rfl) rfl rfl ?_;obtain⟨u8,j8,qm8,m8,m8a,m8b,hr⟩:=(zco l n es j [[108,101,116]] hl q2 oB).get hr;repeat' (first|refine zqi ?_|refine wd m8 ?_|refine wk ?_|exact wkc|refine wk2 ?_ ?_|intro hc)
 obtain⟨qa,j9,qm9,m9,m9a,m9b,hr⟩:=(hB j8 m8b).get hr;repeat' (first|refine zqi ?_|refine wd m9 ?_|refine wk ?_|exact wkc|refine wk2 ?_ ?_|intro hc)
 obtain⟨u10,j10,qm10,m10,m10a,m10b,hr⟩:=(zco l n es j9 [[116,101,108]] hl m9b oB).get hr;refine yh m10 ?_;cases hr;refine rdO rfl ?_;unfold vN nodT;exact leX
end Go.Proofs.YtdicfgideclbdaaGreatDoor
namespace Go.Proofs.YtdicfgideclbdaaGreatDoor
open Go Go.TL
attribute [local irreducible] TR TO Then zaj RetK Sound zac Kf GG zaQ
variable {R:Rd}{l:List Tok}{es:List En}
abbrev rdT (l:List Tok)(n:Int)(es:List En)(i:Nat):Blk:=.cells [.t (.sl 3 (l.map tokT)),.i n,.i i,.sl 2 (es.map enT) 1]
abbrev tlT (es:List En):Blk:=.tail (es.map enT).length
def RdN(l:List Tok)(n:Int)(es:List En)(f:FuncId)(args:List SV)(i lo:Nat){α:Type}(r:PR α)(V:α->SV):Prop:=
 ∀x j,r= .ok x j->Sound Tryz.prog f (.ref 0 0::args) [rdT l n es i,tlT es] (fun r H'=>r= .ret (V x)/\H'=[rdT l n es j,tlT es])/\lo≤j/\j≤l.length
section
variable {n:Int}{f:FuncId}{args:List SV}{i lo:Nat}{α β:Type}{r:PR α}{V:α->SV}
theorem RdN.of(hin:i≤(rdr l []).K.length->InR (rdr l []).K.length lo r)(hi:i≤l.length)(h:∀x j,r= .ok x j->lo≤j->j≤l.length->Sound Tryz.prog f (.ref 0 0::args) [rdT l n es i,tlT es] (fun r H'=>r= .ret (V x)/\H'=[rdT l n es j,tlT es])):RdN l n es f args i lo r V:=fun x j e=>by
 exact zwfj
theorem RdN.get{F:α->Nat->PR β}{z:β}{m:Nat}(h:RdN l n es f args i lo r V)(hr:r.bind F= .ok z m):∃y k,r= .ok y k/\Sound Tryz.prog f (.ref 0 0::args) [rdT l n es i,tlT es] (fun r H'=>r= .ret (V y)/\H'=[rdT l n es k,tlT es])/\lo≤k/\k≤l.length/\F y k= .ok z m:=by
 exact zwdr
end
section
variable {n:Int}{rs:List ResultVar}{env:Env}{H:Heap}{v:SV}{vs:List SV}{j:Nat}
theorem rdOT(hr:zbO tab env H rs=some vs)(hl:Le (pack vs) v)(hu:v.under 2=true:=by exact rfl)(hk:Nat.ble 2 H.length=true:=by exact rfl)(ht:H.take 2=[rdT l n es j,tlT es]:=by exact rfl):RetK tab rs 2 (fun r H'=>r= .ret v/\H'=[rdT l n es j,tlT es]) .ret env H:=
 RetK.keep 2 hr hl rfl hk hu ht rfl ⟨rfl,rfl⟩
theorem zzV(hr:zbO tab env H rs=some vs)(hl:Le (pack vs) v)(hu:v.under 2=true:=by exact rfl)(hk:Nat.ble 2 H.length=true:=by exact rfl)(ht:H.take 2=[rdT l n es j,tlT es]:=by exact rfl):RetK tab rs 2 (fun r H'=>r= .ret v/\H'=[rdT l n es j,tlT es]) .normal env H:=
 RetK.zih 2 hr hl rfl hk hu ht rfl ⟨rfl,rfl⟩
end
theorem znE(l:List Tok)(n:Int)(es:List En)(i k:Nat)(s:Str)(hl:l.length≤1000000):Sound Tryz.prog 112 [.ref 0 0,.i k,.s s] [rdT l n es i,tlT es] (fun r H'=>r= .ret (.b ((rdr l es).isAt k s))/\H'=[rdT l n es i,tlT es]):=by
 have hml:(l.map tokT).length=l.length:=qac _;unfold Rd.isAt;simp only[qan];by_cases hk:k<l.length
 ·have hx:=zdR hk;rw[qad hk];generalize l[k]=t at*;simp only[qaT];refine so Tryz.func112 ?_;repeat' (first|refine wu ?_|exact wkc|refine wk2 ?_ ?_|intro hc)
  all_goals exact zwbu
 ·rw[qa8 oA];refine so Tryz.func112 ?_;exact zweh
theorem zl2(l:List Tok)(n:Int)(es:List En)(i:Nat)(s:Str)(hl:l.length≤1000000):Sound Tryz.prog 60 [.ref 0 0,.s s] [rdT l n es i,tlT es] (fun r H'=>r= .ret (.b ((rdr l es).isAt i s))/\H'=[rdT l n es i,tlT es]):=by
 have h:=znE l n es i i s hl;refine so Tryz.func60 ?_;refine yc h ?_;exact zwfh
theorem znI(l:List Tok)(n:Int)(es:List En)(i:Nat)(k:Int)(hl:l.length≤1000000):Sound Tryz.prog 64 [.ref 0 0,.i k] [rdT l n es i,tlT es] (fun r H'=>r= .ret (.b ((rdr l es).kind i k))/\H'=[rdT l n es i,tlT es]):=by
 have hml:(l.map tokT).length=l.length:=qac _;unfold Rd.kind;simp only[qan];by_cases hk:i<l.length
 ·have hx:=zdR hk;rw[qad hk];generalize l[i]=t at*;simp only[qaT];refine so Tryz.func64 ?_;repeat' (first|refine wu ?_|exact wkc|refine wk2 ?_ ?_|intro hc)
  all_goals exact zwbu
 ·rw[qa8 oA];refine so Tryz.func64 ?_;exact zweh
theorem zof(l:List Tok)(n:Int)(es:List En)(i:Nat)(s:Str)(hl:l.length≤1000000)(hi:i≤l.length):Sound Tryz.prog 65 [.ref 0 0,.s s] [rdT l n es i,tlT es] (fun r H'=>r= .ret (.b ((rdr l es).isAt i s))/\H'=[rdT l n es (if(rdr l es).isAt i s=true then i+1 else i),tlT es]):=by
 have h:=zl2 l n es i s hl;generalize (rdr l es).isAt i s=b at*;cases b
 all_goals
  refine so Tryz.func65 ?_;refine yc h ?_;exact RetK.keep 2 rfl (Le.refl _) rfl rfl rfl rfl rfl ⟨rfl,rfl⟩
theorem isN(l:List Tok)(n:Int)(es:List En)(i:Nat)(s:Str)(hl:l.length≤1000000):Sound Tryz.prog 60 [.ref 0 0,.s s] [rdT l n es i,tlT es] (fun r H'=>r= .ret (.b ((rdr l []).isAt i s))/\H'=[rdT l n es i,tlT es]):=zl2 l n es i s hl
theorem zzj(l:List Tok)(n:Int)(es:List En)(i:Nat)(k:Int)(hl:l.length≤1000000):Sound Tryz.prog 64 [.ref 0 0,.i k] [rdT l n es i,tlT es] (fun r H'=>r= .ret (.b ((rdr l []).kind i k))/\H'=[rdT l n es i,tlT es]):=znI l n es i k hl
theorem takeN(l:List Tok)(n:Int)(es:List En)(i:Nat)(s:Str)(hl:l.length≤1000000)(hi:i≤l.length):Sound Tryz.prog 65 [.ref 0 0,.s s] [rdT l n es i,tlT es] (fun r H'=>r= .ret (.b ((rdr l []).isAt i s))/\H'=[rdT l n es (if(rdr l []).isAt i s=true then i+1 else i),tlT es]):=zof l n es i s hl hi
theorem zzz (l:List Tok) (n:Int) (es:List En) (i:Nat) (ss:List Str) (hl:l.length≤1000000) (hi:i≤l.length) (hs:ss.length≤1000):RdN l n es 63 [.t (.sl 1 (ss.map T.s))] i (i+ss.length) ((rdr l []).must ss i) vU:=by
 refine RdN.of (zaO ss) hi fun x j hr _ _=>?_
 have hml:(ss.map T.s).length=ss.length:=qac _;replace hr:(rdr l []).must (ss.drop 0) (i+0)= .ok x j:=hr;refine so Tryz.func63 ?_;repeat' (first|refine wu ?_|exact wkc|refine wk2 ?_ ?_|intro hc)
 refine TR.zaz ss.length (fun k=>(rdr l []).must (ss.drop k) (i+k)= .ok x j/\i+k≤l.length) (fun k=>[(0,.ref 0 0),(6,.t (.sl 1 (ss.map T.s))),(7,.i (ss.map T.s).length),(8,.i k)]) (fun k=>[rdT l n es (i+k:Nat),tlT es]) ⟨hr,hi⟩ (fun k hlt ha=>?_) (fun ha=>?_)
 ·obtain⟨ha,hk⟩:=ha;have hx:=zkb hlt;rw[qaN hlt,Rd.must]at ha;have ht:=takeN l n es (i+k) ss[k] hl hk;have hlt2:=@zal (rdr l []) (i+k) ss[k];exact zwbg
 ·obtain⟨ha,hk⟩:=ha;rw[qa2 (qag _)]at ha;cases ha;refine ya ?_;exact zzV (vs:=[]) rfl (Le.refl _)
theorem idN(l:List Tok)(n:Int)(es:List En)(i:Nat)(hl:l.length≤1000000)(hi:i≤l.length):RdN l n es 62 [] i (i+1) ((rdr l []).id i) vS:=by
 refine RdN.of zhk hi fun x j hr _ _=>?_
 have hml:(l.map tokT).length=l.length:=qac _;have hk:=zzj l n es i 1 hl;unfold Rd.id at hr;split at hr
 ·rename_i hb;have hlt:=zdJ hb;rw[zau]at hlt;rw[hb]at hk
  have htx:(rdr l []).txt i=l[i].2.1:=by
   exact zwds
  rw[htx]at hr;cases hr;have hx:=zdR hlt;have hx':(l.map tokT)[((i:Int)+1-1).toNat]?=some (.ag [T.i l[i].1,.s l[i].2.1,T.i l[i].2.2]):=by rw[show((i:Int)+1-1).toNat=i by omega];exact hx
  clear htx;generalize l[i]=t at*;refine so Tryz.func62 ?_;refine yc hk ?_;exact rdOT rfl (Le.refl _)
 ·cases hr
theorem limN(l:List Tok)(n:Int)(es:List En)(i a b most:Nat)(hl:l.length≤1000000)(hi:i≤l.length)(hb:a=b):RdN l n es 61 [.i a,.i most] i i (limR b most i) vU:=by
 subst hb;refine RdN.of zdK hi fun x j hr _ _=>?_
 unfold limR at hr;split at hr
 ·cases hr
 ·cases hr;refine so Tryz.func61 ?_;refine ya ?_;exact zzV (vs:=[]) rfl (Le.refl _)
abbrev rdZ (l:List Tok)(n:Int)(i:Nat):Blk:=.cells [.t (.sl 3 (l.map tokT)),.i n,.i i,.t (.v (.slice none 0 0))]
abbrev prZ:Blk:=.cells [.t (.v (.slice none 0 0)),.t (.v (.slice none 0 0))]
theorem zq3:∀ {m:Nat} {a:List En} {i:Nat},R.isAt i [116,121,112,101]=false->R.types m a i= .ok a i
 | 0,_,_,_=>rfl
 | m+1,a,i,h1=>by rw[Rd.types,h1,oH oB]
theorem zqI:∀ {m:Nat} {a:List Nod} {i:Nat},R.isAt i [110,111,100,101]=false->R.nodes m a i= .ok a i
 | 0,_,_,_=>rfl
 | m+1,a,i,h1=>by rw[Rd.nodes,h1,oH oB]
theorem zuV(p:Prog):zsU p= .ag [.sl 2 (p.enums.map enT),.sl 8 (p.nodes.map nodT)]:=rfl
theorem zsD(u:Nod):nodT u= .ag [.s u.name,.sl 3 (u.ins.map zak),.sl 3 (u.outs.map zak),.sl 3 (u.locals.map zak),.sl 7 (u.eqs.map equT),.sl 1 (u.autos.map zam),.sl 6 (u.assume.map exT),.sl 6 (u.ensure.map exT)]:=rfl
set_option maxRecDepth 20000 in
theorem zBb (l:List Tok) (n:Int) (i:Nat) (hk:TkOk l) (hi:i≤l.length) (xr:Prog) (jr:Nat) (hr:(rdr l []).program i= .ok xr jr):Sound Tryz.prog 27 [.ref 0 0] [rdZ l n i] (fun r H'=>r= .ret (.t (zsU xr))/\H'=[rdB l n xr.enums jr]):=by
 have hl:=hk.len;unfold Rd.program at hr;refine so Tryz.func27 ?_;refine TR.zdg 2 0 3 rfl rfl rfl ?_;repeat' (first|refine wkb ?_|refine wk ?_|fail)
 refine TR.zbk (ι:=Nat×Nat×List En) (fun x=>i≤x.2.1/\x.2.1≤l.length/\l.length-x.2.1≤x.1/\x.2.2.length≤24/\(∀u∈x.2.2,u.tags.length≤16)/\(((rdr l []).types x.1 x.2.2 x.2.1).bind fun es i=>(Rd.nodes ⟨(rdr l []).K,es⟩ (rdr l []).K.length [] i).bind fun l i=>(.ok ⟨es,l⟩ i:PR Prog))= .ok xr jr) (fun x=>l.length-x.2.1) (fun _=>[(0,.ref 0 0),(2,.ref 2 0),(3,.ref 3 0)]) (fun x=>[rdT l n x.2.2 x.2.1,tlT x.2.2,prZ,prZ]) ((rdr l []).K.length,i,[])
  ⟨by show i≤i;omega,hi,by rw[zau];show l.length-i≤l.length;omega,by show 0≤24;omega,(fun u hu=>by cases hu),hr⟩ ⟨rfl,rfl,rfl,trivial⟩ rfl ?_
 clear hr;rintro⟨m0,j0,xs0⟩ ⟨q1,q2,q3,q4,q5,hr⟩;replace q1:i≤j0:=q1;replace q2:j0≤l.length:=q2;replace q3:l.length-j0≤m0:=q3;replace q4:xs0.length≤24:=q4;replace q5:∀u∈xs0,u.tags.length≤16:=q5;replace hr:(((rdr l []).types m0 xs0 j0).bind fun es i=>(Rd.nodes ⟨(rdr l []).K,es⟩ (rdr l []).K.length [] i).bind fun l i=>(.ok ⟨es,l⟩ i:PR Prog))= .ok xr jr:=hr;have hme:(xs0.map enT).length=xs0.length:=qac _;have t0:=isN l n xs0 j0 [116,121,112,101] hl;show TR _ _ _ [(0,.ref 0 0),(2,.ref 2 0),(3,.ref 3 0)] [rdT l n xs0 j0,tlT xs0,prZ,prZ] _;cases h0:(rdr l []).isAt j0 [116,121,112,101] with
 | true=>
   have hlth0:=zal h0;rw[zau]at hlth0;rw[h0]at t0;cases m0 with
   | zero=>exfalso;omega
   | succ m0=>
   rw[Rd.types,oG h0]at hr;simp only[zfK]at hr;refine wk ?_;repeat' (first|refine wkt ?_|refine zqi ?_|refine wd t0 ?_|exact wkc|refine wk2 ?_ ?_|intro hc)
   obtain⟨u3,j1,qn3,n3,n3a,n3b,hr⟩:=(limN l n xs0 j0 (xs0.map enT).length xs0.length 24 hl q2 hme).get hr;obtain⟨hlt4,rfl⟩:=zci qn3;repeat' (first|refine wkb ?_|refine zqi ?_|refine wd n3 ?_|exact wkc|refine wk2 ?_ ?_|intro hc)
   obtain⟨nm,j2,qn4,n4,n4a,n4b,hr⟩:=(idN l n xs0 (j1+1) hl hlth0).get hr;repeat' (first|refine wkb ?_|refine zqi ?_|refine wd n4 ?_|refine wk ?_|exact wkc|refine wk2 ?_ ?_|intro hc)
   refine TO.zdg 1 4 1 rfl rfl rfl ?_;obtain⟨u5,jt,qn5,n5,n5a,n5b,hr⟩:=(zzz l n xs0 j2 [[61]] hl n4b oB).get hr;repeat' (first|refine wkt ?_|refine zqi ?_|refine wd n5 ?_|exact wkc|refine wk2 ?_ ?_|intro hc)
   refine TR.zbk (ι:=Nat×Nat×List Str) (fun x=>jt≤x.2.1/\x.2.1≤l.length/\l.length-x.2.1<x.1/\x.2.2.length≤x.2.1/\(((rdr l []).names 16 [124] x.1 x.2.2 x.2.1).bind fun tg i=>((rdr l []).must [[59]] i).bind fun _ i=>((rdr l []).types m0 (xs0++[(⟨nm,tg⟩:En)]) i).bind fun es i=>(Rd.nodes ⟨(rdr l []).K,es⟩ (rdr l []).K.length [] i).bind fun l i=>(.ok ⟨es,l⟩ i:PR Prog))= .ok xr jr) (fun x=>l.length-x.2.1) (fun _=>[(0,.ref 0 0),(4,.ref 4 0),(2,.ref 2 0),(3,.ref 3 0)]) (fun x=>[rdT l n xs0 x.2.1,tlT xs0,prZ,prZ,.cells [.t (.s nm),.sl 1 (x.2.2.map T.s) 5],.tail (x.2.2.map T.s).length]) ((rdr l []).K.length+1,jt,[])
    ⟨by show jt≤jt;omega,n5b,by rw[zau];show l.length-jt<l.length+1;omega,by show 0≤jt;omega,hr⟩ ⟨rfl,rfl,rfl,rfl,trivial⟩ rfl ?_
   clear hr;rintro⟨m,j,xs⟩ ⟨q1,q2,q3,q4,hr⟩;replace q1:jt≤j:=q1;replace q2:j≤l.length:=q2;replace q3:l.length-j<m:=q3;replace q4:xs.length≤j:=q4;replace hr:(((rdr l []).names 16 [124] m xs j).bind fun tg i=>((rdr l []).must [[59]] i).bind fun _ i=>((rdr l []).types m0 (xs0++[(⟨nm,tg⟩:En)]) i).bind fun es i=>(Rd.nodes ⟨(rdr l []).K,es⟩ (rdr l []).K.length [] i).bind fun l i=>(.ok ⟨es,l⟩ i:PR Prog))= .ok xr jr:=hr;have hml:(xs.map T.s).length=xs.length:=qac _;cases m with
   | zero=>exfalso;omega
   | succ m=>
   rw[Rd.names,Rd.zkD]at hr;simp only[zfK]at hr;have t1:=zzj l n xs0 j 1 hl;cases h1:(rdr l []).kind j 1 with
   | true=>
     have hlth1:=zdJ h1;rw[zau]at hlth1;rw[h1]at t1;rw[oG h1]at hr;refine wk ?_;repeat' (first|refine wkt ?_|refine zqi ?_|refine wd t1 ?_|exact wkc|refine wk2 ?_ ?_|intro hc)
     obtain⟨u3,j3,qm3,m3,m3a,m3b,hr⟩:=(limN l n xs0 j (xs.map T.s).length xs.length 16 hl q2 hml).get hr;obtain⟨hlt4,rfl⟩:=zci qm3;repeat' (first|refine wkt ?_|refine zqi ?_|refine wd m3 ?_|exact wkc|refine wk2 ?_ ?_|intro hc)
     obtain⟨o,k,qm4,m4,m4a,m4b,hr⟩:=(idN l n xs0 j3 hl q2).get hr;refine rgX 3 (g:=True) [(.ref 4 1,0,1),(.sl 1 (xs.map T.s) 5,0,1),(.ref 0 0,0,1),(.t (T.s o),1,0),(.t (.sl 1 [T.s o]),1,1),(.sl 1 ((xs.map T.s)++[T.s o]) 5,1,0),(.ref 4 1,0,2),(.t (.v undef),1,0)] [[rdT l n xs0 j3,tlT xs0,prZ,prZ,.cells [.t (.s nm),.sl 1 (xs.map T.s) 5],.tail ((xs.map T.s)).length],[rdT l n xs0 k,tlT xs0,prZ,prZ,.cells [.t (.s nm),.sl 1 (xs.map T.s) 5],.tail ((xs.map T.s)).length],[rdT l n xs0 k,tlT xs0,prZ,prZ,.cells [.t (.s nm),.sl 1 (xs.map T.s) 5],.tail (((xs.map T.s)).length+1)],[rdT l n xs0 k,tlT xs0,prZ,prZ,.cells [.t (.s nm),.sl 1 ((xs.map T.s)++[T.s o]) 5],.tail (((xs.map T.s)).length+1)]] ?_ (fun _=>?_)
     ·repeat' (first|refine wkt ?_|exact trivial|exact⟨⟨rfl,rfl⟩,trivial⟩|refine qav (fun env=>?_) ?_|refine qav ?_ ?_|refine wd m4 ?_|refine wk ?_|exact wkc|refine wk2 ?_ ?_|intro hc)
      done
     have t2:=takeN l n xs0 k [124] hl m4b;cases h2:(rdr l []).isAt k [124] with
     | true=>
       have hlth2:=zal h2;rw[zau]at hlth2;rw[h2,oG rfl]at t2;rw[oG h2]at hr;refine wk ?_;repeat' (first|refine wkt ?_|refine zqi ?_|refine wd t2 ?_|exact wkc|refine wk2 ?_ ?_|intro hc)
       refine zac.next (m,k+1,xs++[o]) ⟨?_,hlth2,?_,?_,hr⟩ ?_ ⟨rfl,rfl,rfl,rfl,trivial⟩ ?_
       ·show jt≤k+1;omega
       ·show l.length-(k+1)<m;omega
       ·show(xs++[o]).length≤k+1;rw[qab];simp only[qae,qal];omega
       ·show l.length-(k+1)<l.length-j3;omega
       ·show _=[rdT l n xs0 (k+1:Nat),tlT xs0,prZ,prZ,.cells [.t (.s nm),.sl 1 ((xs++[o]).map T.s) 5],.tail ((xs++[o]).map T.s).length];exact zweu
     | false=>
     rw[h2,oH oB]at t2;rw[oH (by rw[h2];decide)]at hr;simp only[PR.bind]at hr;have hmo:(xs.map T.s++[T.s o])=(xs++[o]).map T.s:=by rw[qaw];rfl
     have hx16:(xs++[o]).length≤16:=by rw[qab];simp only[qae,qal];omega
     have hxo:(xs++[o]).length≤k:=by rw[qab];simp only[qae,qal];omega
     refine wk ?_;repeat' (first|refine wkt ?_|refine zqi ?_|refine wd t2 ?_|refine zac.exit ?_|exact wkc|refine wk2 ?_ ?_|intro hc)
     rw[hmo];generalize xs++[o]=ys at*;clear hmo t1 m3 t2;obtain⟨u6,j6,qn6,n6,n6a,n6b,hr⟩:=(zzz l n xs0 k [[59]] hl m4b oB).get hr;refine TO.forget 4 1 rfl rfl rfl ?_;repeat' (first|refine wkt ?_|refine zqi ?_|refine wd n6 ?_|exact wkc|refine wk2 ?_ ?_|intro hc)
     refine rgX 7 (g:=True) [(.ref 0 0,0,1),(.ref 0 0,0,0),(.ref 0 0,0,0),(.ref 0 3,0,0),(.sl 2 (xs0.map enT) 1,0,0),(.ag [.t (.s nm),.t (.sl 1 (ys.map T.s))],0,0),(.t (.sl 2 [.ag [.s nm,.sl 1 (ys.map T.s)]]),0,0),(.sl 2 (xs0.map enT++[.ag [.s nm,.sl 1 (ys.map T.s)]]) 1,1,0),(.ref 0 0,1,1),(.ref 0 3,1,1),(.t (.v undef),1,0)]
      [[rdT l n xs0 j6,tlT xs0,prZ,prZ,.cells [.t (.s nm),.t (.sl 1 (ys.map T.s))],.tail ((xs.map T.s).length+1)],[rdT l n xs0 j6,.tail ((xs0.map enT).length+1),prZ,prZ,.cells [.t (.s nm),.t (.sl 1 (ys.map T.s))],.tail ((xs.map T.s).length+1)],[.cells [.t (.sl 3 (l.map tokT)),.i n,.i j6,.sl 2 (xs0.map enT++[.ag [.s nm,.sl 1 (ys.map T.s)]]) 1],.tail ((xs0.map enT).length+1),prZ,prZ,.cells [.t (.s nm),.t (.sl 1 (ys.map T.s))],.tail ((xs.map T.s).length+1)]] ?_ (fun _=>?_)
     ·repeat' (first|exact trivial|exact⟨⟨rfl,rfl⟩,trivial⟩|refine qav (fun env=>?_) ?_|refine qav ?_ ?_|refine fun(env:Env)=>?_|refine wk ?_|fail)
      done
     ·have hmx:((xs0++[(⟨nm,ys⟩:En)]).map enT)=xs0.map enT++[.ag [.s nm,.sl 1 (ys.map T.s)]]:=by rw[qaw];rfl
      repeat' (first|refine wkt ?_|fail)
      refine zac.cut 4 (m0,j6,xs0++[(⟨nm,ys⟩:En)]) ⟨?_,n6b,?_,?_,?_,hr⟩ ?_ ⟨rfl,rfl,rfl,trivial⟩ rfl rfl ?_ rfl rfl
      ·show i≤j6;omega
      ·show l.length-j6≤m0;omega
      ·show(xs0++[(⟨nm,ys⟩:En)]).length≤24;rw[qab];simp only[qae,qal];omega
      ·show ∀u∈xs0++[(⟨nm,ys⟩:En)],u.tags.length≤16;intro u hu;rcases qbe.1 hu with hu|hu
       ·exact q5 u hu
       ·simp at hu;subst hu;exact hx16
      ·show l.length-j6<l.length-j1;omega
      ·show _=[rdT l n (xs0++[(⟨nm,ys⟩:En)]) j6,tlT (xs0++[(⟨nm,ys⟩:En)]),prZ,prZ];unfold rdT tlT;rw[hmx,qab];rfl
   | false=>
   rw[h1]at t1;rw[oH (by rw[h1];decide)]at hr;have hid:(rdr l []).id j= .er j 5:=by unfold Rd.id;rw[h1];rfl
   rw[hid]at hr;cases hr
 | false=>
 rw[h0]at t0;rw[zq3 h0,zp7]at hr;have hes:EsOk xs0:=⟨oA,fun u hu=>by have:=q5 u hu;omega⟩;refine wk ?_;repeat' (first|refine wkt ?_|refine zqi ?_|refine wd t0 ?_|refine zac.exit ?_|exact wkc|refine wk2 ?_ ?_|intro hc)
 refine TR.forget 0 3 rfl rfl rfl ?_;refine TR.forget 3 0 rfl rfl rfl ?_;refine TR.zdg 8 3 1 rfl rfl rfl ?_;replace hr:((Rd.nodes (rdr l xs0) (rdr l []).K.length [] j0).bind fun l2 j=>.ok ⟨xs0,l2⟩ j:PR Prog)= .ok xr jr:=hr
 refine TR.zbk (ι:=Nat×Nat×List Nod) (fun x=>i≤x.2.1/\x.2.1≤l.length/\l.length-x.2.1≤x.1/\x.2.2.length≤x.2.1/\((Rd.nodes (rdr l xs0) x.1 x.2.2 x.2.1).bind fun l2 j=>.ok ⟨xs0,l2⟩ j:PR Prog)= .ok xr jr) (fun x=>l.length-x.2.1) (fun _=>[(0,.ref 0 0),(2,.ref 2 0),(3,.ref 3 0)]) (fun x=>[rdB l n xs0 x.2.1,tlT xs0,prZ,.cells [.t (.sl 2 (xs0.map enT)),.sl 8 (x.2.2.map nodT) 4],.tail (x.2.2.map nodT).length]) ((rdr l []).K.length,j0,[])
  ⟨by show i≤j0;omega,q2,by rw[zau];show l.length-j0≤l.length;omega,by show 0≤j0;omega,hr⟩ ⟨rfl,rfl,rfl,trivial⟩ rfl ?_
 clear hr;rintro⟨m,j,xs⟩ ⟨q1,q2,q3,q4,hr⟩;replace q1:i≤j:=q1;replace q2:j≤l.length:=q2;replace q3:l.length-j≤m:=q3;replace q4:xs.length≤j:=q4;replace hr:((Rd.nodes (rdr l xs0) m xs j).bind fun l2 j=>.ok ⟨xs0,l2⟩ j:PR Prog)= .ok xr jr:=hr;have hml:(xs.map nodT).length=xs.length:=qac _;have t3:=zbp l n xs0 j [110,111,100,101] hl;cases hw2:(rdr l xs0).isAt j [110,111,100,101] with
 | true=>
   have hlthw2:=zal hw2;rw[zau]at hlthw2;rw[hw2]at t3;cases m with
   | zero=>exfalso;omega
   | succ m=>
   rw[Rd.nodes,oG hw2]at hr;simp only[zfK]at hr;refine wk ?_;repeat' (first|refine wkt ?_|refine zqi ?_|refine wd t3 ?_|exact wkc|refine wk2 ?_ ?_|intro hc)
   obtain⟨u3,j3,qm3,m3,m3a,m3b,hr⟩:=(limK l n xs0 j (xs.map nodT).length xs.length 96 hl q2 hml).get hr;obtain⟨hlt4,rfl⟩:=zci qm3;repeat' (first|refine wkt ?_|refine zqi ?_|refine wd m3 ?_|exact wkc|refine wk2 ?_ ?_|intro hc)
   obtain⟨o,k,qm4,m4,m4a,m4b,hr⟩:=(zA1 l n xs0 hk hes (j3+1) hlthw2).get hr;unfold vN at m4;rw[zsD o]at m4;refine rgX 3 (g:=True) [(.ref 3 1,0,1),(.sl 8 (xs.map nodT) 4,0,1),(.ref 0 0,0,1),(.t (.ag [.s o.name,.sl 3 (o.ins.map zak),.sl 3 (o.outs.map zak),.sl 3 (o.locals.map zak),.sl 7 (o.eqs.map equT),.sl 1 (o.autos.map zam),.sl 6 (o.assume.map exT),.sl 6 (o.ensure.map exT)]),1,0),(.t (.sl 8 [.ag [.s o.name,.sl 3 (o.ins.map zak),.sl 3 (o.outs.map zak),.sl 3 (o.locals.map zak),.sl 7 (o.eqs.map equT),.sl 1 (o.autos.map zam),.sl 6 (o.assume.map exT),.sl 6 (o.ensure.map exT)]]),1,1),(.sl 8 ((xs.map nodT)++[.ag [.s o.name,.sl 3 (o.ins.map zak),.sl 3 (o.outs.map zak),.sl 3 (o.locals.map zak),.sl 7 (o.eqs.map equT),.sl 1 (o.autos.map zam),.sl 6 (o.assume.map exT),.sl 6 (o.ensure.map exT)]]) 4,1,0),(.ref 3 1,0,2),(.t (.v undef),1,0)] [[rdB l n xs0 (j3+1),tlT xs0,prZ,.cells [.t (.sl 2 (xs0.map enT)),.sl 8 (xs.map nodT) 4],.tail ((xs.map nodT)).length],[rdB l n xs0 k,tlT xs0,prZ,.cells [.t (.sl 2 (xs0.map enT)),.sl 8 (xs.map nodT) 4],.tail ((xs.map nodT)).length],[rdB l n xs0 k,tlT xs0,prZ,.cells [.t (.sl 2 (xs0.map enT)),.sl 8 (xs.map nodT) 4],.tail (((xs.map nodT)).length+1)],[rdB l n xs0 k,tlT xs0,prZ,.cells [.t (.sl 2 (xs0.map enT)),.sl 8 ((xs.map nodT)++[.ag [.s o.name,.sl 3 (o.ins.map zak),.sl 3 (o.outs.map zak),.sl 3 (o.locals.map zak),.sl 7 (o.eqs.map equT),.sl 1 (o.autos.map zam),.sl 6 (o.assume.map exT),.sl 6 (o.ensure.map exT)]]) 4],.tail (((xs.map nodT)).length+1)]] ?_ (fun _=>?_)
   ·repeat' (first|refine wkt ?_|exact trivial|exact⟨⟨rfl,rfl⟩,trivial⟩|refine qav (fun env=>?_) ?_|refine qav ?_ ?_|refine wd m4 ?_|refine wk ?_|exact wkc|refine wk2 ?_ ?_|intro hc)
    done
   ·refine ya ?_;refine zac.next (m,k,xs++[o]) ⟨?_,m4b,?_,?_,hr⟩ ?_ ⟨rfl,rfl,rfl,trivial⟩ ?_
    ·show i≤k;omega
    ·show l.length-k≤m;omega
    ·show(xs++[o]).length≤k;rw[qab];simp only[qae,qal];omega
    ·show l.length-k<l.length-j3;omega
    ·show _=[rdB l n xs0 k,tlT xs0,prZ,.cells [.t (.sl 2 (xs0.map enT)),.sl 8 ((xs++[o]).map nodT) 4],.tail ((xs++[o]).map nodT).length];rw[qaw,qaf,qaD,qab,zsD o];rfl
 | false=>
 rw[hw2]at t3;rw[zqI hw2,zp7]at hr;cases hr;refine wk ?_;repeat' (first|refine wkt ?_|refine zqi ?_|refine wd t3 ?_|refine zac.exit ?_|exact wkc|refine wk2 ?_ ?_|intro hc)
 refine rdO rfl ?_;rw[zuV];exact leX
section
theorem zzN(p:Prog):zsU p= .ag [.sl 2 (p.enums.map enT),.sl 8 (p.nodes.map nodT)]:=rfl
theorem znm(H:Heap)(hb:zaa H.length H=true):
  zcT Tryz.prog 25 [.ref 0 0,.ref 1 0,.ref 2 0] H none (fun H3=>H3=H):=by
 refine zcT.of (tab:=tab) Tryz.func25 oD rfl rfl rfl rfl ?_;repeat' (first|refine wkb ?_|(apply TO.znN;exact rfl;exact rfl;kernel_rfl)|refine Then.normal ?_|fail)
 exact⟨qag _,by rw[qaJ (qag _)];exact hb,qaJ (qag _)⟩
theorem zrn(s:Str)(hs:(scan s).2.2=0)(hb:s.length≤1000000):Sound Tryz.prog 24 [.s s,.t (.v (.slice none 0 0))] [] (fun r H'=>r= .ret (.tup [.ref 0 0,.i 0,.i 0])/\H'=[rdZ (scan s).1 s.length 0]):=by
 have h:=zjW s;generalize scan s=x at*;obtain⟨x1,x2,x3⟩:=x;simp only at hs h;subst hs;refine so Tryz.func24 ?_;repeat' (first|refine wkb ?_|refine wv h ?_|fail)
 refine wk2 ?_ ?_
 ·intro hc;exact oI rfl hc
 intro hc;repeat' (first|refine zqj ?_|(apply TO.go zaf 0 false;exact rfl;(first|apply GG.to|apply GG.stop|apply GG.tr0|apply GG.tr|apply GG.ex))|(apply TR.go0 zaf 0 false;exact rfl;(first|apply GG.to|apply GG.stop|apply GG.tr0|apply GG.tr|apply GG.ex))|(apply TR.go zaf 0 false;exact rfl;(first|apply GG.to|apply GG.stop|apply GG.tr0|apply GG.tr|apply GG.ex))|(apply TO.go0 zaf 0 false;exact rfl;(first|apply GG.to|apply GG.stop|apply GG.tr0|apply GG.tr|apply GG.ex))|(apply zev.go zaf 0 false;exact rfl;(first|apply GG.to|apply GG.stop|apply GG.tr0|apply GG.tr|apply GG.ex))|fail)
 exact RetK.keep 1 rfl (Le.refl _) rfl rfl rfl rfl rfl ⟨rfl,rfl⟩
theorem toE{P:Program}{f:FuncId}{args:List SV}{H H1:Heap}{v:SV}(h:Sound P f args H (fun r H'=>r= .ret v/\H'=H1)):Sound P f args H (Err 0 v (.b true) H1):=by
 have e:Err 0 v (.b true) H1=fun r H'=>r= .ret v/\H'=H1:=by funext r H';unfold Err;rw[oG rfl]
 rw[e];exact h
theorem zxx(l:List Tok)(n:Int)(es:List En)(i:Nat)(hl:l.length≤1000000)(hi:i≤l.length)(h:¬i<l.length):RdG l n es 28 [] i i (.tup []):=by
 have hml:(l.map tokT).length=l.length:=qac _;refine so Tryz.func28 ?_;refine ya ?_;exact rdON (vs:=[]) rfl (Le.refl _)
attribute [local irreducible] TD zhd
theorem znV (s:Str) (hb:s.length≤1000000) {p:Prog} (hw:(T.ag (zbr p)).w≤1000000000) (hq0:∃j,(scan s).2.2=0/\(rdr (scan s).1 []).program 0= .ok p j/\¬j<(scan s).1.length/\j≤(scan s).1.length/\(zaX p).2=0):
  Pure Tryz.prog 10 [.s s] (.tup [.t (zsU p),.i 0,.i 0]):=by
 obtain⟨j,h0,h1,h2,h3,h4⟩:=hq0;have hk:=zyc s;have hx:=toE (zBb (scan s).1 s.length 0 hk (qaM _) p j h1);have hbn:=zrn s h0 hb;have hfi:=toE (zxx (scan s).1 s.length p.enums j hk.len h3 h2);generalize (scan s).1=l at*;have hsh:Pure Tryz.prog 29 [.t (.ag [.sl 2 (p.enums.map enT),.sl 8 (p.nodes.map nodT)])] _:=zeX p hw;generalize zaX p=y at*;obtain⟨xw,xe⟩:=y;simp only at hsh h4;subst h4;rw[zzN p]at hx⊢;refine Sound.znR zaf Tryz.func10 oD rfl rfl (gf:=25) (cv:=[.ref 0 0,.ref 1 0,.ref 2 0]) ?_;refine TD.seq ?_;repeat' (first|refine wkb ?_|refine wk ?_|fail)
 refine zgO ?_;refine TD.seq ?_;refine wk ?_;repeat' (first|refine wkb ?_|(apply TO.zAy hbn;(iterate 3 exact rfl);exact⟨Le.refl _,Le.refl _,trivial⟩;exact rfl;exact rfl)|refine wk ?_|exact wkc|refine wk2 ?_ ?_|intro hc)
 refine zgO ?_;refine TD.seq ?_;repeat' (first|refine wkb ?_|refine wk ?_|exact wkc|refine wk2 ?_ ?_|intro hc)
 refine zgO ?_;refine TD.defer (tz:=0) rfl rfl ?_;repeat' (first|refine wkb ?_|refine wk ?_|refine we4 hx ?_ ?_|refine we4 hfi ?_ ?_|refine wv hsh ?_|exact wkc|refine wk2 ?_ ?_|intro hc)
 exact⟨_,znm _ rfl,fun H3 h=>by subst h;exact wkr⟩
end
end Go.Proofs.YtdicfgideclbdaaGreatDoor
