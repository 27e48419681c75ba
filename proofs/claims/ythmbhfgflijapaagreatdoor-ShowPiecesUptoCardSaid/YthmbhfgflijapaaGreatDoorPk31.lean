import Derived.Test.YthmbhfgflijapaaGreatDoorPk30
set_option linter.all false
namespace Go.Proofs.YthmbhfgflijapaaGreatDoor
open Go Go.TL
attribute [local irreducible] TR TO Then zag RetK Sound zab Kf GG zaK
abbrev mB (t:Int)(s:Str)(a:SV):Blk:=.cells [.t (.i 9),.t (.v (.int .i64 0)),.t (.v (.int .i64 t)),.t (.v (.int .i64 0)),.t (.s s),a]
def Rd.mrest(R:Rd)(f:Nat->PR Ex)(s:Str)(t m k:Nat)(xs:List Ex)(j:Nat):PR Ex:=(R.branches f t (R.size t) m k xs j).bind fun l j=>.ok (mkE 9 0 t 0 s l) j
def Rd.mA(R:Rd)(f:Nat->PR Ex)(s:Str)(w j:Nat):PR Ex:=(R.branch f 0 w false j).bind fun te j=>R.mrest f s te.1 (R.size te.1) 1 ((List.replicate (R.size te.1) noE).set w te.2) j
theorem zrY(R:Rd)(f:Nat->PR Ex)(i:Nat):R.merge f i=(R.id i).bind fun s j=>R.mA f s (if R.isAt (j+1) [116,114,117,101]=true then 1 else 0) j:=rfl
theorem zpV{R:Rd}{f:Nat->PR Ex}{s:Str}{t m k:Nat}{xs:List Ex}{j:Nat}(h:R.size t≤k):R.mrest f s t m k xs j= .ok (mkE 9 0 t 0 s xs) j:=by
 unfold Rd.mrest
 cases m with
 | zero=>rfl
 | succ m=>rw[Rd.branches,if_pos h];rfl
theorem zom{R:Rd}{f:Nat->PR Ex}{s:Str}{t m k:Nat}{xs:List Ex}{j:Nat}(h:k<R.size t):R.mrest f s t (m+1) k xs j=(R.branch f t (if t=1 then 1-k else k) true j).bind fun te j=>R.mrest f s t m (k+1) (xs.set (if t=1 then 1-k else k) te.2) j:=by
 unfold Rd.mrest
 rw[Rd.branches,if_neg (by omega)]
 cases R.branch f t (if t=1 then 1-k else k) true j <;> rfl
theorem st4{a b c d:Blk}{x y:List SV}(h:x=y):[a,b,c,d].set 3 (Blk.cells x)=[a,b,c,.cells y]:=by subst h;rfl
theorem zbC{a b c:Blk}(ts:List T)(h:zaa 4 [a,b,c]=true):zaa 4 [a,b,c,.cells (ts.map .t)]=true:=by
 simp only[zaa,Blk.under,zjU,Bool.and_true]at*
 exact h
abbrev zE:List T:=[.v (.int .i64 0),.v (.int .i64 0),.v (.int .i64 0),.v (.int .i64 0),.v (str []),.v (.slice none 0 0)]
theorem zdh:∀(q:Nat) (c':T),(exC noE)[q]?=some c'->∃c,zE[q]?=some c/\Le (.t c) (.t c')
 | 0,_,h=>by cases h;exact⟨_,rfl,Le.refl _⟩
 | 1,_,h=>by cases h;exact⟨_,rfl,Le.refl _⟩
 | 2,_,h=>by cases h;exact⟨_,rfl,Le.refl _⟩
 | 3,_,h=>by cases h;exact⟨_,rfl,Le.refl _⟩
 | 4,_,h=>by cases h;exact⟨_,rfl,Le.refl _⟩
 | 5,_,h=>by cases h;exact⟨_,rfl,Le.nil _⟩
 | q+6,_,h=>by simp[exC]at h
theorem zgD(l:List Tok)(n:Int)(es:List En)(i:Nat)(ss:List Str)(hl:l.length≤1000000)(hi:i≤l.length)(hs:ss.length≤1000):RdS l n es 158 [.t (.sl 1 (ss.map T.s))] i ((rdr l es).must ss i) (.tup [])/\InR l.length (i+ss.length) ((rdr l es).must ss i):=by
 have h:=zbN (R:=rdr l es) ss (i:=i) (by rw[zal];exact hi)
 rw[zal]at h
 exact⟨zb6 l n es i ss hl hi hs,h⟩
theorem zri(l:List Tok)(n:Int)(es:List En)(i:Nat)(hl:l.length≤1000000)(hi:i≤l.length)(he:EsOk es):
  RdS l n es 163 [] i ((rdr l es).aTag i) (.tup [.i ((((rdr l es).aTag i).vl (0,0)).1:Nat),.i ((((rdr l es).aTag i).vl (0,0)).2:Nat)])/\InR l.length (i+1) ((rdr l es).aTag i):=by
 have h:=zi9 (R:=rdr l es) (i:=i) (by rw[zal];exact hi)
 rw[zal]at h
 exact⟨zg4 l n es i hl hi he,h⟩
theorem zjW(l:List Tok)(n:Int)(es:List En)(i t v:Nat)(known:Bool)(hk:TkOk l)(hes:EsOk es)(hi:i≤l.length):
  RdS l n es 170 [.i t,.i v,.b known] i ((rdr l es).wanted t v known i) (.tup [])/\InR l.length i ((rdr l es).wanted t v known i):=by
 have h:=zly (R:=rdr l es) (t:=t) (v:=v) (known:=known) (i:=i) (by rw[zal];exact hi)
 rw[zal]at h
 exact⟨zlz l n es i t v known hk hes,h⟩
set_option maxHeartbeats 16000000 in
theorem zkP (l:List Tok) (n:Int) (es:List En) (hk:TkOk l) (hes:EsOk es):zsF l n es:=by
 intro f i hi hF
 have hl:=hk.len
 have q1:=zfu l n es i hl hi
 have hin:=zkB (R:=rdr l es) (i:=i) (by rw[zal];exact hi)
 rw[zal]at hin
 generalize hr:(rdr l es).merge f i=r
 rw[zrY]at hr
 refine Sound.err rfl (fun _=>rfl) ?_
 cases hq1:(rdr l es).id i with
 | er k c=>
   rw[hq1]at q1 hin hr
   have hc0:=hin.2
   replace q1:=q1.er
   simp only[PR.vl]at q1
   simp only[PR.bind]at hr
   refine so Tryz.func159 ?_
   repeat' (first|refine wkb ?_|refine wk ?_|refine we q1 ?_ ?_|exact wkc|intro hc|refine wk2 ?_ ?_|fail)
   exact rdP hr.symm hc0
 | ok s j0=>
 rw[hq1]at q1 hin hr
 replace q1:=q1.ok
 obtain⟨hj1,hj2⟩:=hin
 simp only[PR.vl]at q1
 simp only[PR.bind]at hr
 refine so Tryz.func159 ?_
 repeat' (first|refine wkb ?_|refine wk ?_|refine we q1 ?_ ?_|exact wkc|intro hc|refine wk2 ?_ ?_|fail)
 refine TR.zcS (ι:=Option (Nat×Nat×Nat×List Ex×Nat)) (fun|none=>(rdr l es).mA f s (if(rdr l es).isAt (j0+1) [116,114,117,101]=true then 1 else 0) j0=r|some (t,m,k,xs,j)=>j0≤j/\j≤l.length/\(rdr l es).size t-k≤m/\1≤k/\xs.length=(rdr l es).size t/\(t=1\/3≤t)/\t≤6000000/\(rdr l es).size t≤3000000/\(rdr l es).mrest f s t m k xs j=r)
  (fun|none=>6000000|some (t,m,k,xs,j)=>(rdr l es).size t-k)
  (fun|none=>[(0,.ref 0 0),(2,.ref 1 0),(3,.ref 2 0),(4,.i 1),(5,.i 0)]|some (t,m,k,xs,j)=>[(0,.ref 0 0),(2,.ref 1 0),(3,.ref 2 0),(4,.i ((rdr l es).size t:Nat)),(5,.i (k:Nat))])
  (fun|none=>[rdB l n es j0,exZ,mB 0 s (.t (.v (.slice none 0 0)))]|some (t,m,k,xs,j)=>[rdB l n es j,exZ,mB t s (.ms 6 3 0 ((rdr l es).size t)),.cells (zaC xs)]) none hr ⟨rfl,rfl,rfl,rfl,rfl,trivial⟩ rfl ?_
 clear hr q1 hq1
 rintro(_|⟨t,m,k,xs,j⟩) hI
 ·replace hr:(rdr l es).mA f s (if(rdr l es).isAt (j0+1) [116,114,117,101]=true then 1 else 0) j0=r:=hI
  clear hI
  show TR _ _ _ [(0,.ref 0 0),(2,.ref 1 0),(3,.ref 2 0),(4,.i 1),(5,.i 0)] [rdB l n es j0,exZ,mB 0 s (.t (.v (.slice none 0 0)))] _
  cases hb:(rdr l es).isAt (j0+1) [116,114,117,101] with
  | true=>
    have h1:=zbx l n es (j0+1) [116,114,117,101] hl
    rw[hb]at h1 hr
    rw[if_pos rfl]at hr
    unfold Rd.mA Rd.branch at hr
    obtain⟨m1,h2⟩:=zgD l n es j0 [[40]] hl hj2 (by decide)
    cases hq1:(rdr l es).must [[40]] j0 with
    | er ke c=>
      rw[hq1]at m1 h2 hr
      have hc0:=h2.2
      replace m1:=m1.er
      simp only[PR.bind]at hr
      refine wk ?_
      repeat' (first|refine wkt ?_|(apply TO.want;exact rfl)|(apply TO.zaV;(iterate 3 exact rfl);omega;omega)|refine zqh ?_|refine we m1 ?_ ?_|exact wkc|intro hc|refine wk2 ?_ ?_|fail)
      repeat' (first|refine zab.panic ?_|refine wk ?_|fail)
      first
       | exact rdP hr.symm hc0 rfl (zbC _ rfl)
       | exact rdP hr.symm hc0
    | ok u1 j1=>
    rw[hq1]at m1 h2 hr
    obtain⟨h2a,h2b⟩:=h2
    replace m1:=m1.ok
    simp only[PR.bind]at hr
    have e1:=zgS hq1
    subst e1
    obtain⟨w1,hw⟩:=zjW l n es (j0+1) 0 1 false hk hes h2b
    cases hq2:(rdr l es).wanted 0 1 false (j0+1) with
    | er ke c=>
      rw[hq2]at w1 hw hr
      have hc0:=hw.2
      replace w1:=w1.er
      simp only[PR.bind]at hr
      refine wk ?_
      repeat' (first|refine wkt ?_|(apply TO.want;exact rfl)|(apply TO.zaV;(iterate 3 exact rfl);omega;omega)|refine zqh ?_|refine we m1 ?_ ?_|refine wd h1 ?_|refine we w1 ?_ ?_|exact wkc|intro hc|refine wk2 ?_ ?_|fail)
      repeat' (first|refine zab.panic ?_|refine wk ?_|fail)
      first
       | exact rdP hr.symm hc0 rfl (zbC _ rfl)
       | exact rdP hr.symm hc0
    | ok u2 jw=>
    rw[hq2]at w1 hw hr
    obtain⟨hwa,hwb⟩:=hw
    replace w1:=w1.ok
    simp only[PR.bind]at hr
    have e2:=zfO hq2
    subst e2
    obtain⟨a1,h3⟩:=zri l n es (j0+1) hl h2b hes
    cases hq3:(rdr l es).aTag (j0+1) with
    | er ke c=>
      rw[hq3]at a1 h3 hr
      have hc0:=h3.2
      replace a1:=a1.er
      simp only[PR.vl]at a1
      simp only[PR.bind]at hr
      refine wk ?_
      repeat' (first|refine wkt ?_|(apply TO.want;exact rfl)|(apply TO.zaV;(iterate 3 exact rfl);omega;omega)|refine zqh ?_|refine we m1 ?_ ?_|refine wd h1 ?_|refine we w1 ?_ ?_|refine we a1 ?_ ?_|exact wkc|intro hc|refine wk2 ?_ ?_|fail)
      repeat' (first|refine zab.panic ?_|refine wk ?_|fail)
      first
       | exact rdP hr.symm hc0 rfl (zbC _ rfl)
       | exact rdP hr.symm hc0
    | ok tv j2=>
    rw[hq3]at a1 h3 hr
    obtain⟨h3a,h3b⟩:=h3
    replace a1:=a1.ok
    simp only[PR.vl]at a1
    simp only[PR.bind]at hr
    obtain⟨hty,hwS⟩:=zkt (w:=1) hes (fun h=>by first|exact hb|exact absurd h (by decide)) (by decide) hq3
    have hSle:=size_le (l:=l) hes hty
    obtain⟨⟨hv1,hv2⟩,_⟩:=zev hes hq3
    obtain⟨t,v⟩:=tv
    simp only at hr a1 hty hwS hSle hv1 hv2
    rw[if_neg (fun h=>Bool.noConfusion h.1)]at hr
    have hsz:Pure Tryz.prog 64 [.t (.sl 2 (es.map enT)),.i (t:Int)] (.i (((rdr l es).size t:Nat):Int)):=by rw[<-zqq hty];exact zdF es ⟨(t:Int),by omega⟩
    have hrl:(List.replicate ((rdr l es).size t) noE).length=(rdr l es).size t:=qbG
    obtain⟨m2,h4⟩:=zgD l n es j2 [[45,62]] hl h3b (by decide)
    cases hq4:(rdr l es).must [[45,62]] j2 with
    | er ke c=>
      rw[hq4]at m2 h4 hr
      have hc0:=h4.2
      replace m2:=m2.er
      simp only[PR.bind]at hr
      refine wk ?_
      repeat' (first|refine wkt ?_|(apply TO.want;exact rfl)|(apply TO.zaV;(iterate 3 exact rfl);omega;omega)|refine zqh ?_|refine we m1 ?_ ?_|refine wd h1 ?_|refine we w1 ?_ ?_|refine we a1 ?_ ?_|refine wv hsz ?_|refine we m2 ?_ ?_|exact wkc|intro hc|refine wk2 ?_ ?_|fail)
      (apply TO.makeSlice zaf;(iterate 7 exact rfl);omega;exact rfl)
      refine TO.zkK 3 (cs':=zaC (List.replicate ((rdr l es).size t) noE)) (H':=[rdB l n es j2,exZ,mB t s (.t (.v (.slice none 0 0))),.cells (zaC (List.replicate ((rdr l es).size t) noE))]) rfl (by rw[zaS,zan,zan];rfl) (by rw[zan];show 0<_*6;omega) (by rw[zaS];exact zbW (z:=zE) (z':=exC noE) rfl zdh _) rfl ?_
      repeat' (first|refine wkt ?_|(apply TO.want;exact rfl)|(apply TO.zaV;(iterate 3 exact rfl);omega;omega)|refine zqh ?_|refine we m1 ?_ ?_|refine wd h1 ?_|refine we w1 ?_ ?_|refine we a1 ?_ ?_|refine wv hsz ?_|refine we m2 ?_ ?_|exact wkc|intro hc|refine wk2 ?_ ?_|fail)
      repeat' (first|refine zab.panic ?_|refine wk ?_|fail)
      first
       | exact rdP hr.symm hc0 rfl (zbC _ rfl)
       | exact rdP hr.symm hc0
    | ok u4 j3=>
    rw[hq4]at m2 h4 hr
    obtain⟨h4a,h4b⟩:=h4
    replace m2:=m2.ok
    simp only[PR.bind]at hr
    obtain⟨hx,h5⟩:=hF j3 (by omega) h4b
    cases hq5:f j3 with
    | er ke c=>
      rw[hq5]at hx h5 hr
      have hc0:=h5.2
      replace hx:=hx.er
      simp only[PR.vl]at hx
      simp only[PR.bind]at hr
      refine wk ?_
      repeat' (first|refine wkt ?_|(apply TO.want;exact rfl)|(apply TO.zaV;(iterate 3 exact rfl);omega;omega)|refine zqh ?_|refine we m1 ?_ ?_|refine wd h1 ?_|refine we w1 ?_ ?_|refine we a1 ?_ ?_|refine wv hsz ?_|refine we m2 ?_ ?_|exact wkc|intro hc|refine wk2 ?_ ?_|fail)
      (apply TO.makeSlice zaf;(iterate 7 exact rfl);omega;exact rfl)
      refine TO.zkK 3 (cs':=zaC (List.replicate ((rdr l es).size t) noE)) (H':=[rdB l n es j2,exZ,mB t s (.t (.v (.slice none 0 0))),.cells (zaC (List.replicate ((rdr l es).size t) noE))]) rfl (by rw[zaS,zan,zan];rfl) (by rw[zan];show 0<_*6;omega) (by rw[zaS];exact zbW (z:=zE) (z':=exC noE) rfl zdh _) rfl ?_
      repeat' (first|refine wkt ?_|(apply TO.want;exact rfl)|(apply TO.zaV;(iterate 3 exact rfl);omega;omega)|refine zqh ?_|refine we m1 ?_ ?_|refine wd h1 ?_|refine we w1 ?_ ?_|refine we a1 ?_ ?_|refine wv hsz ?_|refine we m2 ?_ ?_|exact wkc|intro hc|refine wk2 ?_ ?_|fail)
      refine rgX 4 (g:=False) [(.ref 2 5,0,1),((.ms 6 3 0 ((rdr l es).size t)),0,1),(.i (1:Nat),0,1),(.ref 0 0,0,1),(.t (.ag [T.n noE.kind,T.n noE.op,T.n noE.t,T.n noE.v,T.s noE.name,T.sl 6 (noE.args.map exT)]),1,0),(.ref 3 (0+1*6),0,1),(.any,1,0)] [[rdB l n es j3,exZ,mB t s (.ms 6 3 0 ((rdr l es).size t)),.cells (zaC (List.replicate ((rdr l es).size t) noE))],[rdB l n es j3,exZ,mB t s (.ms 6 3 0 ((rdr l es).size t)),.cells (zaC (List.replicate ((rdr l es).size t) noE))],[rdB l n es j3,exZ,mB t s (.ms 6 3 0 ((rdr l es).size t)),.cells (zaC ((List.replicate ((rdr l es).size t) noE).set 1 noE))]] ?_ (fun h=>h.elim)
      repeat' (first|refine wkt ?_|exact trivial|exact⟨⟨rfl,rfl⟩,trivial⟩|refine qai (fun env=>?_) ?_|refine qai ?_ ?_|refine we hx ?_ ?_|refine zqg ?_|(apply TO.store zaf;(iterate 6 exact rfl);exact leB;exact rfl;(show _+6≤(zaC _).length;rw[zbl];omega);exact st4 (zbm noE (List.replicate ((rdr l es).size t) noE) 1 (by omega)))|refine wk ?_|exact wkc|intro hc|refine wk2 ?_ ?_|fail)
      repeat' (first|refine zab.panic ?_|refine wk ?_|fail)
      first
       | exact rdP hr.symm hc0 rfl (zbC _ rfl)
       | exact rdP hr.symm hc0
    | ok e j4=>
    rw[hq5]at hx h5 hr
    obtain⟨h5a,h5b⟩:=h5
    replace hx:=hx.ok
    simp only[PR.vl]at hx
    simp only[PR.bind]at hr
    rw[zae e]at hx
    unfold exC at hx
    obtain⟨m3,h6⟩:=zgD l n es j4 [[41]] hl h5b (by decide)
    cases hq6:(rdr l es).must [[41]] j4 with
    | er ke c=>
      rw[hq6]at m3 h6 hr
      have hc0:=h6.2
      replace m3:=m3.er
      simp only[PR.bind]at hr
      refine wk ?_
      repeat' (first|refine wkt ?_|(apply TO.want;exact rfl)|(apply TO.zaV;(iterate 3 exact rfl);omega;omega)|refine zqh ?_|refine we m1 ?_ ?_|refine wd h1 ?_|refine we w1 ?_ ?_|refine we a1 ?_ ?_|refine wv hsz ?_|refine we m2 ?_ ?_|exact wkc|intro hc|refine wk2 ?_ ?_|fail)
      (apply TO.makeSlice zaf;(iterate 7 exact rfl);omega;exact rfl)
      refine TO.zkK 3 (cs':=zaC (List.replicate ((rdr l es).size t) noE)) (H':=[rdB l n es j2,exZ,mB t s (.t (.v (.slice none 0 0))),.cells (zaC (List.replicate ((rdr l es).size t) noE))]) rfl (by rw[zaS,zan,zan];rfl) (by rw[zan];show 0<_*6;omega) (by rw[zaS];exact zbW (z:=zE) (z':=exC noE) rfl zdh _) rfl ?_
      repeat' (first|refine wkt ?_|(apply TO.want;exact rfl)|(apply TO.zaV;(iterate 3 exact rfl);omega;omega)|refine zqh ?_|refine we m1 ?_ ?_|refine wd h1 ?_|refine we w1 ?_ ?_|refine we a1 ?_ ?_|refine wv hsz ?_|refine we m2 ?_ ?_|exact wkc|intro hc|refine wk2 ?_ ?_|fail)
      refine rgX 4 (g:=True) [(.ref 2 5,0,1),((.ms 6 3 0 ((rdr l es).size t)),0,1),(.i (1:Nat),0,1),(.ref 0 0,0,1),(.t (.ag [T.n e.kind,T.n e.op,T.n e.t,T.n e.v,T.s e.name,T.sl 6 (e.args.map exT)]),1,0),(.ref 3 (0+1*6),0,1),(.any,1,0)] [[rdB l n es j3,exZ,mB t s (.ms 6 3 0 ((rdr l es).size t)),.cells (zaC (List.replicate ((rdr l es).size t) noE))],[rdB l n es j4,exZ,mB t s (.ms 6 3 0 ((rdr l es).size t)),.cells (zaC (List.replicate ((rdr l es).size t) noE))],[rdB l n es j4,exZ,mB t s (.ms 6 3 0 ((rdr l es).size t)),.cells (zaC ((List.replicate ((rdr l es).size t) noE).set 1 e))]] ?_ (fun _=>?_)
      ·repeat' (first|refine wkt ?_|exact trivial|exact⟨⟨rfl,rfl⟩,trivial⟩|refine qai (fun env=>?_) ?_|refine qai ?_ ?_|refine we hx ?_ ?_|refine zqg ?_|(apply TO.store zaf;(iterate 6 exact rfl);exact leB;exact rfl;(show _+6≤(zaC _).length;rw[zbl];omega);exact st4 (zbm e (List.replicate ((rdr l es).size t) noE) 1 (by omega)))|refine wk ?_|exact wkc|intro hc|refine wk2 ?_ ?_|fail)
       done
      repeat' (first|refine wkt ?_|(apply TO.want;exact rfl)|(apply TO.zaV;(iterate 3 exact rfl);omega;omega)|refine zqh ?_|refine we m3 ?_ ?_|exact wkc|intro hc|refine wk2 ?_ ?_|fail)
      repeat' (first|refine zab.panic ?_|refine wk ?_|fail)
      first
       | exact rdP hr.symm hc0 rfl (zbC _ rfl)
       | exact rdP hr.symm hc0
    | ok u6 j5=>
    rw[hq6]at m3 h6 hr
    obtain⟨h6a,h6b⟩:=h6
    replace m3:=m3.ok
    simp only[PR.bind]at hr
    refine wk ?_
    repeat' (first|refine wkt ?_|(apply TO.want;exact rfl)|(apply TO.zaV;(iterate 3 exact rfl);omega;omega)|refine zqh ?_|refine we m1 ?_ ?_|refine wd h1 ?_|refine we w1 ?_ ?_|refine we a1 ?_ ?_|refine wv hsz ?_|refine we m2 ?_ ?_|exact wkc|intro hc|refine wk2 ?_ ?_|fail)
    (apply TO.makeSlice zaf;(iterate 7 exact rfl);omega;exact rfl)
    refine TO.zkK 3 (cs':=zaC (List.replicate ((rdr l es).size t) noE)) (H':=[rdB l n es j2,exZ,mB t s (.t (.v (.slice none 0 0))),.cells (zaC (List.replicate ((rdr l es).size t) noE))]) rfl (by rw[zaS,zan,zan];rfl) (by rw[zan];show 0<_*6;omega) (by rw[zaS];exact zbW (z:=zE) (z':=exC noE) rfl zdh _) rfl ?_
    repeat' (first|refine wkt ?_|(apply TO.want;exact rfl)|(apply TO.zaV;(iterate 3 exact rfl);omega;omega)|refine zqh ?_|refine we m1 ?_ ?_|refine wd h1 ?_|refine we w1 ?_ ?_|refine we a1 ?_ ?_|refine wv hsz ?_|refine we m2 ?_ ?_|exact wkc|intro hc|refine wk2 ?_ ?_|fail)
    refine rgX 4 (g:=True) [(.ref 2 5,0,1),((.ms 6 3 0 ((rdr l es).size t)),0,1),(.i (1:Nat),0,1),(.ref 0 0,0,1),(.t (.ag [T.n e.kind,T.n e.op,T.n e.t,T.n e.v,T.s e.name,T.sl 6 (e.args.map exT)]),1,0),(.ref 3 (0+1*6),0,1),(.any,1,0)] [[rdB l n es j3,exZ,mB t s (.ms 6 3 0 ((rdr l es).size t)),.cells (zaC (List.replicate ((rdr l es).size t) noE))],[rdB l n es j4,exZ,mB t s (.ms 6 3 0 ((rdr l es).size t)),.cells (zaC (List.replicate ((rdr l es).size t) noE))],[rdB l n es j4,exZ,mB t s (.ms 6 3 0 ((rdr l es).size t)),.cells (zaC ((List.replicate ((rdr l es).size t) noE).set 1 e))]] ?_ (fun _=>?_)
    ·repeat' (first|refine wkt ?_|exact trivial|exact⟨⟨rfl,rfl⟩,trivial⟩|refine qai (fun env=>?_) ?_|refine qai ?_ ?_|refine we hx ?_ ?_|refine zqg ?_|(apply TO.store zaf;(iterate 6 exact rfl);exact leB;exact rfl;(show _+6≤(zaC _).length;rw[zbl];omega);exact st4 (zbm e (List.replicate ((rdr l es).size t) noE) 1 (by omega)))|refine wk ?_|exact wkc|intro hc|refine wk2 ?_ ?_|fail)
     done
    repeat' (first|refine wkt ?_|(apply TO.want;exact rfl)|(apply TO.zaV;(iterate 3 exact rfl);omega;omega)|refine zqh ?_|refine we m3 ?_ ?_|exact wkc|intro hc|refine wk2 ?_ ?_|fail)
    have hI2:j0≤j5/\j5≤l.length/\(rdr l es).size t-1≤(rdr l es).size t/\1≤1/\((List.replicate ((rdr l es).size t) noE).set 1 e).length=(rdr l es).size t/\(t=1\/3≤t)/\t≤6000000/\(rdr l es).size t≤3000000/\(rdr l es).mrest f s t ((rdr l es).size t) 1 ((List.replicate ((rdr l es).size t) noE).set 1 e) j5=r:=⟨by omega,h6b,by omega,qae _,by rw[qbV,hrl],hty,by omega,hSle,hr⟩
    refine zab.next (some (t,(rdr l es).size t,1,(List.replicate ((rdr l es).size t) noE).set 1 e,j5)) ?_ ?_ ?_ ?_
    ·exact hI2
    ·show(rdr l es).size t-1<6000000;omega
    ·exact⟨rfl,rfl,rfl,rfl,rfl,trivial⟩
    ·exact rfl
  | false=>
    have h1:=zbx l n es (j0+1) [116,114,117,101] hl
    rw[hb]at h1 hr
    rw[if_neg (by decide)]at hr
    unfold Rd.mA Rd.branch at hr
    obtain⟨m1,h2⟩:=zgD l n es j0 [[40]] hl hj2 (by decide)
    cases hq1:(rdr l es).must [[40]] j0 with
    | er ke c=>
      rw[hq1]at m1 h2 hr
      have hc0:=h2.2
      replace m1:=m1.er
      simp only[PR.bind]at hr
      refine wk ?_
      repeat' (first|refine wkt ?_|(apply TO.want;exact rfl)|(apply TO.zaV;(iterate 3 exact rfl);omega;omega)|refine zqh ?_|refine we m1 ?_ ?_|exact wkc|intro hc|refine wk2 ?_ ?_|fail)
      repeat' (first|refine zab.panic ?_|refine wk ?_|fail)
      first
       | exact rdP hr.symm hc0 rfl (zbC _ rfl)
       | exact rdP hr.symm hc0
    | ok u1 j1=>
    rw[hq1]at m1 h2 hr
    obtain⟨h2a,h2b⟩:=h2
    replace m1:=m1.ok
    simp only[PR.bind]at hr
    have e1:=zgS hq1
    subst e1
    obtain⟨w1,hw⟩:=zjW l n es (j0+1) 0 0 false hk hes h2b
    cases hq2:(rdr l es).wanted 0 0 false (j0+1) with
    | er ke c=>
      rw[hq2]at w1 hw hr
      have hc0:=hw.2
      replace w1:=w1.er
      simp only[PR.bind]at hr
      refine wk ?_
      repeat' (first|refine wkt ?_|(apply TO.want;exact rfl)|(apply TO.zaV;(iterate 3 exact rfl);omega;omega)|refine zqh ?_|refine we m1 ?_ ?_|refine wd h1 ?_|refine we w1 ?_ ?_|exact wkc|intro hc|refine wk2 ?_ ?_|fail)
      repeat' (first|refine zab.panic ?_|refine wk ?_|fail)
      first
       | exact rdP hr.symm hc0 rfl (zbC _ rfl)
       | exact rdP hr.symm hc0
    | ok u2 jw=>
    rw[hq2]at w1 hw hr
    obtain⟨hwa,hwb⟩:=hw
    replace w1:=w1.ok
    simp only[PR.bind]at hr
    have e2:=zfO hq2
    subst e2
    obtain⟨a1,h3⟩:=zri l n es (j0+1) hl h2b hes
    cases hq3:(rdr l es).aTag (j0+1) with
    | er ke c=>
      rw[hq3]at a1 h3 hr
      have hc0:=h3.2
      replace a1:=a1.er
      simp only[PR.vl]at a1
      simp only[PR.bind]at hr
      refine wk ?_
      repeat' (first|refine wkt ?_|(apply TO.want;exact rfl)|(apply TO.zaV;(iterate 3 exact rfl);omega;omega)|refine zqh ?_|refine we m1 ?_ ?_|refine wd h1 ?_|refine we w1 ?_ ?_|refine we a1 ?_ ?_|exact wkc|intro hc|refine wk2 ?_ ?_|fail)
      repeat' (first|refine zab.panic ?_|refine wk ?_|fail)
      first
       | exact rdP hr.symm hc0 rfl (zbC _ rfl)
       | exact rdP hr.symm hc0
    | ok tv j2=>
    rw[hq3]at a1 h3 hr
    obtain⟨h3a,h3b⟩:=h3
    replace a1:=a1.ok
    simp only[PR.vl]at a1
    simp only[PR.bind]at hr
    obtain⟨hty,hwS⟩:=zkt (w:=0) hes (fun h=>by first|exact hb|exact absurd h (by decide)) (by decide) hq3
    have hSle:=size_le (l:=l) hes hty
    obtain⟨⟨hv1,hv2⟩,_⟩:=zev hes hq3
    obtain⟨t,v⟩:=tv
    simp only at hr a1 hty hwS hSle hv1 hv2
    rw[if_neg (fun h=>Bool.noConfusion h.1)]at hr
    have hsz:Pure Tryz.prog 64 [.t (.sl 2 (es.map enT)),.i (t:Int)] (.i (((rdr l es).size t:Nat):Int)):=by rw[<-zqq hty];exact zdF es ⟨(t:Int),by omega⟩
    have hrl:(List.replicate ((rdr l es).size t) noE).length=(rdr l es).size t:=qbG
    obtain⟨m2,h4⟩:=zgD l n es j2 [[45,62]] hl h3b (by decide)
    cases hq4:(rdr l es).must [[45,62]] j2 with
    | er ke c=>
      rw[hq4]at m2 h4 hr
      have hc0:=h4.2
      replace m2:=m2.er
      simp only[PR.bind]at hr
      refine wk ?_
      repeat' (first|refine wkt ?_|(apply TO.want;exact rfl)|(apply TO.zaV;(iterate 3 exact rfl);omega;omega)|refine zqh ?_|refine we m1 ?_ ?_|refine wd h1 ?_|refine we w1 ?_ ?_|refine we a1 ?_ ?_|refine wv hsz ?_|refine we m2 ?_ ?_|exact wkc|intro hc|refine wk2 ?_ ?_|fail)
      (apply TO.makeSlice zaf;(iterate 7 exact rfl);omega;exact rfl)
      refine TO.zkK 3 (cs':=zaC (List.replicate ((rdr l es).size t) noE)) (H':=[rdB l n es j2,exZ,mB t s (.t (.v (.slice none 0 0))),.cells (zaC (List.replicate ((rdr l es).size t) noE))]) rfl (by rw[zaS,zan,zan];rfl) (by rw[zan];show 0<_*6;omega) (by rw[zaS];exact zbW (z:=zE) (z':=exC noE) rfl zdh _) rfl ?_
      repeat' (first|refine wkt ?_|(apply TO.want;exact rfl)|(apply TO.zaV;(iterate 3 exact rfl);omega;omega)|refine zqh ?_|refine we m1 ?_ ?_|refine wd h1 ?_|refine we w1 ?_ ?_|refine we a1 ?_ ?_|refine wv hsz ?_|refine we m2 ?_ ?_|exact wkc|intro hc|refine wk2 ?_ ?_|fail)
      repeat' (first|refine zab.panic ?_|refine wk ?_|fail)
      first
       | exact rdP hr.symm hc0 rfl (zbC _ rfl)
       | exact rdP hr.symm hc0
    | ok u4 j3=>
    rw[hq4]at m2 h4 hr
    obtain⟨h4a,h4b⟩:=h4
    replace m2:=m2.ok
    simp only[PR.bind]at hr
    obtain⟨hx,h5⟩:=hF j3 (by omega) h4b
    cases hq5:f j3 with
    | er ke c=>
      rw[hq5]at hx h5 hr
      have hc0:=h5.2
      replace hx:=hx.er
      simp only[PR.vl]at hx
      simp only[PR.bind]at hr
      refine wk ?_
      repeat' (first|refine wkt ?_|(apply TO.want;exact rfl)|(apply TO.zaV;(iterate 3 exact rfl);omega;omega)|refine zqh ?_|refine we m1 ?_ ?_|refine wd h1 ?_|refine we w1 ?_ ?_|refine we a1 ?_ ?_|refine wv hsz ?_|refine we m2 ?_ ?_|exact wkc|intro hc|refine wk2 ?_ ?_|fail)
      (apply TO.makeSlice zaf;(iterate 7 exact rfl);omega;exact rfl)
      refine TO.zkK 3 (cs':=zaC (List.replicate ((rdr l es).size t) noE)) (H':=[rdB l n es j2,exZ,mB t s (.t (.v (.slice none 0 0))),.cells (zaC (List.replicate ((rdr l es).size t) noE))]) rfl (by rw[zaS,zan,zan];rfl) (by rw[zan];show 0<_*6;omega) (by rw[zaS];exact zbW (z:=zE) (z':=exC noE) rfl zdh _) rfl ?_
      repeat' (first|refine wkt ?_|(apply TO.want;exact rfl)|(apply TO.zaV;(iterate 3 exact rfl);omega;omega)|refine zqh ?_|refine we m1 ?_ ?_|refine wd h1 ?_|refine we w1 ?_ ?_|refine we a1 ?_ ?_|refine wv hsz ?_|refine we m2 ?_ ?_|exact wkc|intro hc|refine wk2 ?_ ?_|fail)
      refine rgX 4 (g:=False) [(.ref 2 5,0,1),((.ms 6 3 0 ((rdr l es).size t)),0,1),(.i (0:Nat),0,1),(.ref 0 0,0,1),(.t (.ag [T.n noE.kind,T.n noE.op,T.n noE.t,T.n noE.v,T.s noE.name,T.sl 6 (noE.args.map exT)]),1,0),(.ref 3 (0+0*6),0,1),(.any,1,0)] [[rdB l n es j3,exZ,mB t s (.ms 6 3 0 ((rdr l es).size t)),.cells (zaC (List.replicate ((rdr l es).size t) noE))],[rdB l n es j3,exZ,mB t s (.ms 6 3 0 ((rdr l es).size t)),.cells (zaC (List.replicate ((rdr l es).size t) noE))],[rdB l n es j3,exZ,mB t s (.ms 6 3 0 ((rdr l es).size t)),.cells (zaC ((List.replicate ((rdr l es).size t) noE).set 0 noE))]] ?_ (fun h=>h.elim)
      repeat' (first|refine wkt ?_|exact trivial|exact⟨⟨rfl,rfl⟩,trivial⟩|refine qai (fun env=>?_) ?_|refine qai ?_ ?_|refine we hx ?_ ?_|refine zqg ?_|(apply TO.store zaf;(iterate 6 exact rfl);exact leB;exact rfl;(show _+6≤(zaC _).length;rw[zbl];omega);exact st4 (zbm noE (List.replicate ((rdr l es).size t) noE) 0 (by omega)))|refine wk ?_|exact wkc|intro hc|refine wk2 ?_ ?_|fail)
      repeat' (first|refine zab.panic ?_|refine wk ?_|fail)
      first
       | exact rdP hr.symm hc0 rfl (zbC _ rfl)
       | exact rdP hr.symm hc0
    | ok e j4=>
    rw[hq5]at hx h5 hr
    obtain⟨h5a,h5b⟩:=h5
    replace hx:=hx.ok
    simp only[PR.vl]at hx
    simp only[PR.bind]at hr
    rw[zae e]at hx
    unfold exC at hx
    obtain⟨m3,h6⟩:=zgD l n es j4 [[41]] hl h5b (by decide)
    cases hq6:(rdr l es).must [[41]] j4 with
    | er ke c=>
      rw[hq6]at m3 h6 hr
      have hc0:=h6.2
      replace m3:=m3.er
      simp only[PR.bind]at hr
      refine wk ?_
      repeat' (first|refine wkt ?_|(apply TO.want;exact rfl)|(apply TO.zaV;(iterate 3 exact rfl);omega;omega)|refine zqh ?_|refine we m1 ?_ ?_|refine wd h1 ?_|refine we w1 ?_ ?_|refine we a1 ?_ ?_|refine wv hsz ?_|refine we m2 ?_ ?_|exact wkc|intro hc|refine wk2 ?_ ?_|fail)
      (apply TO.makeSlice zaf;(iterate 7 exact rfl);omega;exact rfl)
      refine TO.zkK 3 (cs':=zaC (List.replicate ((rdr l es).size t) noE)) (H':=[rdB l n es j2,exZ,mB t s (.t (.v (.slice none 0 0))),.cells (zaC (List.replicate ((rdr l es).size t) noE))]) rfl (by rw[zaS,zan,zan];rfl) (by rw[zan];show 0<_*6;omega) (by rw[zaS];exact zbW (z:=zE) (z':=exC noE) rfl zdh _) rfl ?_
      repeat' (first|refine wkt ?_|(apply TO.want;exact rfl)|(apply TO.zaV;(iterate 3 exact rfl);omega;omega)|refine zqh ?_|refine we m1 ?_ ?_|refine wd h1 ?_|refine we w1 ?_ ?_|refine we a1 ?_ ?_|refine wv hsz ?_|refine we m2 ?_ ?_|exact wkc|intro hc|refine wk2 ?_ ?_|fail)
      refine rgX 4 (g:=True) [(.ref 2 5,0,1),((.ms 6 3 0 ((rdr l es).size t)),0,1),(.i (0:Nat),0,1),(.ref 0 0,0,1),(.t (.ag [T.n e.kind,T.n e.op,T.n e.t,T.n e.v,T.s e.name,T.sl 6 (e.args.map exT)]),1,0),(.ref 3 (0+0*6),0,1),(.any,1,0)] [[rdB l n es j3,exZ,mB t s (.ms 6 3 0 ((rdr l es).size t)),.cells (zaC (List.replicate ((rdr l es).size t) noE))],[rdB l n es j4,exZ,mB t s (.ms 6 3 0 ((rdr l es).size t)),.cells (zaC (List.replicate ((rdr l es).size t) noE))],[rdB l n es j4,exZ,mB t s (.ms 6 3 0 ((rdr l es).size t)),.cells (zaC ((List.replicate ((rdr l es).size t) noE).set 0 e))]] ?_ (fun _=>?_)
      ·repeat' (first|refine wkt ?_|exact trivial|exact⟨⟨rfl,rfl⟩,trivial⟩|refine qai (fun env=>?_) ?_|refine qai ?_ ?_|refine we hx ?_ ?_|refine zqg ?_|(apply TO.store zaf;(iterate 6 exact rfl);exact leB;exact rfl;(show _+6≤(zaC _).length;rw[zbl];omega);exact st4 (zbm e (List.replicate ((rdr l es).size t) noE) 0 (by omega)))|refine wk ?_|exact wkc|intro hc|refine wk2 ?_ ?_|fail)
       done
      repeat' (first|refine wkt ?_|(apply TO.want;exact rfl)|(apply TO.zaV;(iterate 3 exact rfl);omega;omega)|refine zqh ?_|refine we m3 ?_ ?_|exact wkc|intro hc|refine wk2 ?_ ?_|fail)
      repeat' (first|refine zab.panic ?_|refine wk ?_|fail)
      first
       | exact rdP hr.symm hc0 rfl (zbC _ rfl)
       | exact rdP hr.symm hc0
    | ok u6 j5=>
    rw[hq6]at m3 h6 hr
    obtain⟨h6a,h6b⟩:=h6
    replace m3:=m3.ok
    simp only[PR.bind]at hr
    refine wk ?_
    repeat' (first|refine wkt ?_|(apply TO.want;exact rfl)|(apply TO.zaV;(iterate 3 exact rfl);omega;omega)|refine zqh ?_|refine we m1 ?_ ?_|refine wd h1 ?_|refine we w1 ?_ ?_|refine we a1 ?_ ?_|refine wv hsz ?_|refine we m2 ?_ ?_|exact wkc|intro hc|refine wk2 ?_ ?_|fail)
    (apply TO.makeSlice zaf;(iterate 7 exact rfl);omega;exact rfl)
    refine TO.zkK 3 (cs':=zaC (List.replicate ((rdr l es).size t) noE)) (H':=[rdB l n es j2,exZ,mB t s (.t (.v (.slice none 0 0))),.cells (zaC (List.replicate ((rdr l es).size t) noE))]) rfl (by rw[zaS,zan,zan];rfl) (by rw[zan];show 0<_*6;omega) (by rw[zaS];exact zbW (z:=zE) (z':=exC noE) rfl zdh _) rfl ?_
    repeat' (first|refine wkt ?_|(apply TO.want;exact rfl)|(apply TO.zaV;(iterate 3 exact rfl);omega;omega)|refine zqh ?_|refine we m1 ?_ ?_|refine wd h1 ?_|refine we w1 ?_ ?_|refine we a1 ?_ ?_|refine wv hsz ?_|refine we m2 ?_ ?_|exact wkc|intro hc|refine wk2 ?_ ?_|fail)
    refine rgX 4 (g:=True) [(.ref 2 5,0,1),((.ms 6 3 0 ((rdr l es).size t)),0,1),(.i (0:Nat),0,1),(.ref 0 0,0,1),(.t (.ag [T.n e.kind,T.n e.op,T.n e.t,T.n e.v,T.s e.name,T.sl 6 (e.args.map exT)]),1,0),(.ref 3 (0+0*6),0,1),(.any,1,0)] [[rdB l n es j3,exZ,mB t s (.ms 6 3 0 ((rdr l es).size t)),.cells (zaC (List.replicate ((rdr l es).size t) noE))],[rdB l n es j4,exZ,mB t s (.ms 6 3 0 ((rdr l es).size t)),.cells (zaC (List.replicate ((rdr l es).size t) noE))],[rdB l n es j4,exZ,mB t s (.ms 6 3 0 ((rdr l es).size t)),.cells (zaC ((List.replicate ((rdr l es).size t) noE).set 0 e))]] ?_ (fun _=>?_)
    ·repeat' (first|refine wkt ?_|exact trivial|exact⟨⟨rfl,rfl⟩,trivial⟩|refine qai (fun env=>?_) ?_|refine qai ?_ ?_|refine we hx ?_ ?_|refine zqg ?_|(apply TO.store zaf;(iterate 6 exact rfl);exact leB;exact rfl;(show _+6≤(zaC _).length;rw[zbl];omega);exact st4 (zbm e (List.replicate ((rdr l es).size t) noE) 0 (by omega)))|refine wk ?_|exact wkc|intro hc|refine wk2 ?_ ?_|fail)
     done
    repeat' (first|refine wkt ?_|(apply TO.want;exact rfl)|(apply TO.zaV;(iterate 3 exact rfl);omega;omega)|refine zqh ?_|refine we m3 ?_ ?_|exact wkc|intro hc|refine wk2 ?_ ?_|fail)
    have hI2:j0≤j5/\j5≤l.length/\(rdr l es).size t-1≤(rdr l es).size t/\1≤1/\((List.replicate ((rdr l es).size t) noE).set 0 e).length=(rdr l es).size t/\(t=1\/3≤t)/\t≤6000000/\(rdr l es).size t≤3000000/\(rdr l es).mrest f s t ((rdr l es).size t) 1 ((List.replicate ((rdr l es).size t) noE).set 0 e) j5=r:=⟨by omega,h6b,by omega,qae _,by rw[qbV,hrl],hty,by omega,hSle,hr⟩
    refine zab.next (some (t,(rdr l es).size t,1,(List.replicate ((rdr l es).size t) noE).set 0 e,j5)) ?_ ?_ ?_ ?_
    ·exact hI2
    ·show(rdr l es).size t-1<6000000;omega
    ·exact⟨rfl,rfl,rfl,rfl,rfl,trivial⟩
    ·exact rfl
 ·obtain⟨q1,q2,q3,q4,q5,q6,q7,q8,hr⟩:=hI
  show TR _ _ _ [(0,.ref 0 0),(2,.ref 1 0),(3,.ref 2 0),(4,.i ((rdr l es).size t:Nat)),(5,.i (k:Nat))] [rdB l n es j,exZ,mB t s (.ms 6 3 0 ((rdr l es).size t)),.cells (zaC xs)] _
  by_cases hks:(rdr l es).size t≤k
  ·rw[zpV hks]at hr
   have hml:(xs.map exT).length=(rdr l es).size t:=by rw[qab,q5]
   iterate 3 (first|(apply TR.go zaf 0 false;exact rfl;(first|apply GG.to|apply GG.stop|apply GG.tr0|apply GG.tr|apply GG.ex))|(apply TR.go0 zaf 0 false;exact rfl;(first|apply GG.to|apply GG.stop|apply GG.tr0|apply GG.tr|apply GG.ex)))
   refine TO.zt1 2 5 6 3 ((rdr l es).size t) (es:=xs.map exT) (H':=[rdB l n es j,exZ,mB t s (.t (.sl 6 (xs.map exT))),.dead]) rfl rfl rfl rfl (by rw[zbl,hml];omega) (fun j c hj=>hj) hml.symm (fun e he=>by obtain⟨a,_,rfl⟩:=qaP.1 he;rw[zae];rfl) rfl rfl ?_
   repeat' (first|refine wkt ?_|refine zab.exit ?_|exact wkc|intro hc|refine wk2 ?_ ?_|refine wk ?_|fail)
   subst hr
   apply rdV rfl
   ·exact rfl
   ·rw[vlE,zbI _ _ _ _ _ _ rfl rfl (zd0 (by omega)) rfl]
    exact zqa
   all_goals exact rfl
  ·cases m with
   | zero=>exfalso;omega
   | succ m=>
   rw[zom (by omega)]at hr
   by_cases ht1:t=1
   ·subst ht1
    have hS:(rdr l es).size 1=2:=rfl
    obtain rfl:k=1:=by omega
    rw[if_pos rfl]at hr
    replace hr:((rdr l es).branch f 1 0 true j).bind (fun te j=>(rdr l es).mrest f s 1 m (1+1) (xs.set 0 te.2) j)=r:=hr
    unfold Rd.branch at hr
    obtain⟨m1,h2⟩:=zgD l n es j [[40]] hl q2 (by decide)
    cases hq1:(rdr l es).must [[40]] j with
    | er ke c=>
      rw[hq1]at m1 h2 hr
      have hc0:=h2.2
      replace m1:=m1.er
      simp only[PR.bind]at hr
      refine wk ?_
      repeat' (first|refine wkt ?_|(apply TO.want;exact rfl)|(apply TO.zaV;(iterate 3 exact rfl);omega;omega)|refine zqh ?_|refine we m1 ?_ ?_|exact wkc|intro hc|refine wk2 ?_ ?_|fail)
      repeat' (first|refine zab.panic ?_|refine wk ?_|fail)
      first
       | exact rdP hr.symm hc0 rfl (zbC _ rfl)
       | exact rdP hr.symm hc0
    | ok u1 j1=>
    rw[hq1]at m1 h2 hr
    obtain⟨h2a,h2b⟩:=h2
    replace m1:=m1.ok
    simp only[PR.bind]at hr
    have e1:=zgS hq1
    subst e1
    obtain⟨w1,hw⟩:=zjW l n es (j+1) 1 0 true hk hes h2b
    cases hq2:(rdr l es).wanted 1 0 true (j+1) with
    | er ke c=>
      rw[hq2]at w1 hw hr
      have hc0:=hw.2
      replace w1:=w1.er
      simp only[PR.bind]at hr
      refine wk ?_
      repeat' (first|refine wkt ?_|(apply TO.want;exact rfl)|(apply TO.zaV;(iterate 3 exact rfl);omega;omega)|refine zqh ?_|refine we m1 ?_ ?_|refine we w1 ?_ ?_|exact wkc|intro hc|refine wk2 ?_ ?_|fail)
      repeat' (first|refine zab.panic ?_|refine wk ?_|fail)
      first
       | exact rdP hr.symm hc0 rfl (zbC _ rfl)
       | exact rdP hr.symm hc0
    | ok u2 jw=>
    rw[hq2]at w1 hw hr
    obtain⟨hwa,hwb⟩:=hw
    replace w1:=w1.ok
    simp only[PR.bind]at hr
    have e2:=zfO hq2
    subst e2
    obtain⟨a1,h3⟩:=zri l n es (j+1) hl h2b hes
    cases hq3:(rdr l es).aTag (j+1) with
    | er ke c=>
      rw[hq3]at a1 h3 hr
      have hc0:=h3.2
      replace a1:=a1.er
      simp only[PR.vl]at a1
      simp only[PR.bind]at hr
      refine wk ?_
      repeat' (first|refine wkt ?_|(apply TO.want;exact rfl)|(apply TO.zaV;(iterate 3 exact rfl);omega;omega)|refine zqh ?_|refine we m1 ?_ ?_|refine we w1 ?_ ?_|refine we a1 ?_ ?_|exact wkc|intro hc|refine wk2 ?_ ?_|fail)
      repeat' (first|refine zab.panic ?_|refine wk ?_|fail)
      first
       | exact rdP hr.symm hc0 rfl (zbC _ rfl)
       | exact rdP hr.symm hc0
    | ok tv j2=>
    rw[hq3]at a1 h3 hr
    obtain⟨h3a,h3b⟩:=h3
    replace a1:=a1.ok
    simp only[PR.vl]at a1
    simp only[PR.bind]at hr
    obtain⟨⟨hv1,hv2⟩,_⟩:=zev hes hq3
    obtain⟨t2,v⟩:=tv
    simp only at hr a1 hv1 hv2
    by_cases ht2:t2=1
    rotate_left
    ·exact zwj
    subst ht2
    rw[if_neg (by simp)]at hr
    obtain⟨m2,h4⟩:=zgD l n es j2 [[45,62]] hl h3b (by decide)
    cases hq4:(rdr l es).must [[45,62]] j2 with
    | er ke c=>
      rw[hq4]at m2 h4 hr
      have hc0:=h4.2
      replace m2:=m2.er
      simp only[PR.bind]at hr
      refine wk ?_
      repeat' (first|refine wkt ?_|(apply TO.want;exact rfl)|(apply TO.zaV;(iterate 3 exact rfl);omega;omega)|refine zqh ?_|refine we m1 ?_ ?_|refine we w1 ?_ ?_|refine we a1 ?_ ?_|refine we m2 ?_ ?_|exact wkc|intro hc|refine wk2 ?_ ?_|fail)
      repeat' (first|refine zab.panic ?_|refine wk ?_|fail)
      first
       | exact rdP hr.symm hc0 rfl (zbC _ rfl)
       | exact rdP hr.symm hc0
    | ok u4 j3=>
    rw[hq4]at m2 h4 hr
    obtain⟨h4a,h4b⟩:=h4
    replace m2:=m2.ok
    simp only[PR.bind]at hr
    obtain⟨hx,h5⟩:=hF j3 (by omega) h4b
    cases hq5:f j3 with
    | er ke c=>
      rw[hq5]at hx h5 hr
      have hc0:=h5.2
      replace hx:=hx.er
      simp only[PR.vl]at hx
      simp only[PR.bind]at hr
      refine wk ?_
      repeat' (first|refine wkt ?_|(apply TO.want;exact rfl)|(apply TO.zaV;(iterate 3 exact rfl);omega;omega)|refine zqh ?_|refine we m1 ?_ ?_|refine we w1 ?_ ?_|refine we a1 ?_ ?_|refine we m2 ?_ ?_|exact wkc|intro hc|refine wk2 ?_ ?_|fail)
      refine rgX 4 (g:=False) [(.ref 2 5,0,1),((.ms 6 3 0 ((rdr l es).size 1)),0,1),(.i (0:Nat),0,1),(.ref 0 0,0,1),(.t (.ag [T.n noE.kind,T.n noE.op,T.n noE.t,T.n noE.v,T.s noE.name,T.sl 6 (noE.args.map exT)]),1,0),(.ref 3 (0+0*6),0,1),(.any,1,0)] [[rdB l n es j3,exZ,mB (1:Nat) s (.ms 6 3 0 ((rdr l es).size 1)),.cells (zaC xs)],[rdB l n es j3,exZ,mB (1:Nat) s (.ms 6 3 0 ((rdr l es).size 1)),.cells (zaC xs)],[rdB l n es j3,exZ,mB (1:Nat) s (.ms 6 3 0 ((rdr l es).size 1)),.cells (zaC (xs.set 0 noE))]] ?_ (fun h=>h.elim)
      repeat' (first|refine wkt ?_|exact trivial|exact⟨⟨rfl,rfl⟩,trivial⟩|refine qai (fun env=>?_) ?_|refine qai ?_ ?_|refine we hx ?_ ?_|refine zqg ?_|(apply TO.store zaf;(iterate 6 exact rfl);exact leB;exact rfl;(show _+6≤(zaC _).length;rw[zbl];omega);exact st4 (zbm noE xs 0 (by omega)))|refine wk ?_|exact wkc|intro hc|refine wk2 ?_ ?_|fail)
      repeat' (first|refine zab.panic ?_|refine wk ?_|fail)
      first
       | exact rdP hr.symm hc0 rfl (zbC _ rfl)
       | exact rdP hr.symm hc0
    | ok e j4=>
    rw[hq5]at hx h5 hr
    obtain⟨h5a,h5b⟩:=h5
    replace hx:=hx.ok
    simp only[PR.vl]at hx
    simp only[PR.bind]at hr
    rw[zae e]at hx
    unfold exC at hx
    obtain⟨m3,h6⟩:=zgD l n es j4 [[41]] hl h5b (by decide)
    cases hq6:(rdr l es).must [[41]] j4 with
    | er ke c=>
      rw[hq6]at m3 h6 hr
      have hc0:=h6.2
      replace m3:=m3.er
      simp only[PR.bind]at hr
      refine wk ?_
      repeat' (first|refine wkt ?_|(apply TO.want;exact rfl)|(apply TO.zaV;(iterate 3 exact rfl);omega;omega)|refine zqh ?_|refine we m1 ?_ ?_|refine we w1 ?_ ?_|refine we a1 ?_ ?_|refine we m2 ?_ ?_|exact wkc|intro hc|refine wk2 ?_ ?_|fail)
      refine rgX 4 (g:=True) [(.ref 2 5,0,1),((.ms 6 3 0 ((rdr l es).size 1)),0,1),(.i (0:Nat),0,1),(.ref 0 0,0,1),(.t (.ag [T.n e.kind,T.n e.op,T.n e.t,T.n e.v,T.s e.name,T.sl 6 (e.args.map exT)]),1,0),(.ref 3 (0+0*6),0,1),(.any,1,0)] [[rdB l n es j3,exZ,mB (1:Nat) s (.ms 6 3 0 ((rdr l es).size 1)),.cells (zaC xs)],[rdB l n es j4,exZ,mB (1:Nat) s (.ms 6 3 0 ((rdr l es).size 1)),.cells (zaC xs)],[rdB l n es j4,exZ,mB (1:Nat) s (.ms 6 3 0 ((rdr l es).size 1)),.cells (zaC (xs.set 0 e))]] ?_ (fun _=>?_)
      ·repeat' (first|refine wkt ?_|exact trivial|exact⟨⟨rfl,rfl⟩,trivial⟩|refine qai (fun env=>?_) ?_|refine qai ?_ ?_|refine we hx ?_ ?_|refine zqg ?_|(apply TO.store zaf;(iterate 6 exact rfl);exact leB;exact rfl;(show _+6≤(zaC _).length;rw[zbl];omega);exact st4 (zbm e xs 0 (by omega)))|refine wk ?_|exact wkc|intro hc|refine wk2 ?_ ?_|fail)
       done
      repeat' (first|refine wkt ?_|(apply TO.want;exact rfl)|(apply TO.zaV;(iterate 3 exact rfl);omega;omega)|refine zqh ?_|refine we m3 ?_ ?_|exact wkc|intro hc|refine wk2 ?_ ?_|fail)
      repeat' (first|refine zab.panic ?_|refine wk ?_|fail)
      first
       | exact rdP hr.symm hc0 rfl (zbC _ rfl)
       | exact rdP hr.symm hc0
    | ok u6 j5=>
    rw[hq6]at m3 h6 hr
    obtain⟨h6a,h6b⟩:=h6
    replace m3:=m3.ok
    simp only[PR.bind]at hr
    refine wk ?_
    repeat' (first|refine wkt ?_|(apply TO.want;exact rfl)|(apply TO.zaV;(iterate 3 exact rfl);omega;omega)|refine zqh ?_|refine we m1 ?_ ?_|refine we w1 ?_ ?_|refine we a1 ?_ ?_|refine we m2 ?_ ?_|exact wkc|intro hc|refine wk2 ?_ ?_|fail)
    refine rgX 4 (g:=True) [(.ref 2 5,0,1),((.ms 6 3 0 ((rdr l es).size 1)),0,1),(.i (0:Nat),0,1),(.ref 0 0,0,1),(.t (.ag [T.n e.kind,T.n e.op,T.n e.t,T.n e.v,T.s e.name,T.sl 6 (e.args.map exT)]),1,0),(.ref 3 (0+0*6),0,1),(.any,1,0)] [[rdB l n es j3,exZ,mB (1:Nat) s (.ms 6 3 0 ((rdr l es).size 1)),.cells (zaC xs)],[rdB l n es j4,exZ,mB (1:Nat) s (.ms 6 3 0 ((rdr l es).size 1)),.cells (zaC xs)],[rdB l n es j4,exZ,mB (1:Nat) s (.ms 6 3 0 ((rdr l es).size 1)),.cells (zaC (xs.set 0 e))]] ?_ (fun _=>?_)
    ·repeat' (first|refine wkt ?_|exact trivial|exact⟨⟨rfl,rfl⟩,trivial⟩|refine qai (fun env=>?_) ?_|refine qai ?_ ?_|refine we hx ?_ ?_|refine zqg ?_|(apply TO.store zaf;(iterate 6 exact rfl);exact leB;exact rfl;(show _+6≤(zaC _).length;rw[zbl];omega);exact st4 (zbm e xs 0 (by omega)))|refine wk ?_|exact wkc|intro hc|refine wk2 ?_ ?_|fail)
     done
    repeat' (first|refine wkt ?_|(apply TO.want;exact rfl)|(apply TO.zaV;(iterate 3 exact rfl);omega;omega)|refine zqh ?_|refine we m3 ?_ ?_|exact wkc|intro hc|refine wk2 ?_ ?_|fail)
    have hI2:j0≤j5/\j5≤l.length/\(rdr l es).size 1-(1+1)≤m/\1≤1+1/\(xs.set 0 e).length=(rdr l es).size 1/\(1=1\/3≤1)/\1≤6000000/\(rdr l es).size 1≤3000000/\(rdr l es).mrest f s 1 m (1+1) (xs.set 0 e) j5=r:=⟨by omega,h6b,by omega,by omega,by rw[qbV];exact q5,q6,by omega,q8,hr⟩
    refine zab.next (some (1,m,1+1,xs.set 0 e,j5)) ?_ ?_ ?_ ?_
    ·exact hI2
    ·show(rdr l es).size 1-(1+1)<(rdr l es).size 1-1;omega
    ·exact⟨rfl,rfl,rfl,rfl,rfl,trivial⟩
    ·exact rfl
   ·rw[if_neg ht1]at hr
    unfold Rd.branch at hr
    obtain⟨m1,h2⟩:=zgD l n es j [[40]] hl q2 (by decide)
    cases hq1:(rdr l es).must [[40]] j with
    | er ke c=>
      rw[hq1]at m1 h2 hr
      have hc0:=h2.2
      replace m1:=m1.er
      simp only[PR.bind]at hr
      refine wk ?_
      repeat' (first|refine wkt ?_|(apply TO.want;exact rfl)|(apply TO.zaV;(iterate 3 exact rfl);omega;omega)|refine zqh ?_|refine we m1 ?_ ?_|exact wkc|intro hc|refine wk2 ?_ ?_|fail)
      repeat' (first|refine zab.panic ?_|refine wk ?_|fail)
      first
       | exact rdP hr.symm hc0 rfl (zbC _ rfl)
       | exact rdP hr.symm hc0
    | ok u1 j1=>
    rw[hq1]at m1 h2 hr
    obtain⟨h2a,h2b⟩:=h2
    replace m1:=m1.ok
    simp only[PR.bind]at hr
    have e1:=zgS hq1
    subst e1
    obtain⟨w1,hw⟩:=zjW l n es (j+1) t k true hk hes h2b
    cases hq2:(rdr l es).wanted t k true (j+1) with
    | er ke c=>
      rw[hq2]at w1 hw hr
      have hc0:=hw.2
      replace w1:=w1.er
      simp only[PR.bind]at hr
      refine wk ?_
      repeat' (first|refine wkt ?_|(apply TO.want;exact rfl)|(apply TO.zaV;(iterate 3 exact rfl);omega;omega)|refine zqh ?_|refine we m1 ?_ ?_|refine we w1 ?_ ?_|exact wkc|intro hc|refine wk2 ?_ ?_|fail)
      repeat' (first|refine zab.panic ?_|refine wk ?_|fail)
      first
       | exact rdP hr.symm hc0 rfl (zbC _ rfl)
       | exact rdP hr.symm hc0
    | ok u2 jw=>
    rw[hq2]at w1 hw hr
    obtain⟨hwa,hwb⟩:=hw
    replace w1:=w1.ok
    simp only[PR.bind]at hr
    have e2:=zfO hq2
    subst e2
    obtain⟨a1,h3⟩:=zri l n es (j+1) hl h2b hes
    cases hq3:(rdr l es).aTag (j+1) with
    | er ke c=>
      rw[hq3]at a1 h3 hr
      have hc0:=h3.2
      replace a1:=a1.er
      simp only[PR.vl]at a1
      simp only[PR.bind]at hr
      refine wk ?_
      repeat' (first|refine wkt ?_|(apply TO.want;exact rfl)|(apply TO.zaV;(iterate 3 exact rfl);omega;omega)|refine zqh ?_|refine we m1 ?_ ?_|refine we w1 ?_ ?_|refine we a1 ?_ ?_|exact wkc|intro hc|refine wk2 ?_ ?_|fail)
      repeat' (first|refine zab.panic ?_|refine wk ?_|fail)
      first
       | exact rdP hr.symm hc0 rfl (zbC _ rfl)
       | exact rdP hr.symm hc0
    | ok tv j2=>
    rw[hq3]at a1 h3 hr
    obtain⟨h3a,h3b⟩:=h3
    replace a1:=a1.ok
    simp only[PR.vl]at a1
    simp only[PR.bind]at hr
    obtain⟨⟨hv1,hv2⟩,_⟩:=zev hes hq3
    obtain⟨t2,v⟩:=tv
    simp only at hr a1 hv1 hv2
    by_cases ht2:t2=t
    rotate_left
    ·exact zwj
    subst ht2
    rw[if_neg (by simp)]at hr
    obtain⟨m2,h4⟩:=zgD l n es j2 [[45,62]] hl h3b (by decide)
    cases hq4:(rdr l es).must [[45,62]] j2 with
    | er ke c=>
      rw[hq4]at m2 h4 hr
      have hc0:=h4.2
      replace m2:=m2.er
      simp only[PR.bind]at hr
      refine wk ?_
      repeat' (first|refine wkt ?_|(apply TO.want;exact rfl)|(apply TO.zaV;(iterate 3 exact rfl);omega;omega)|refine zqh ?_|refine we m1 ?_ ?_|refine we w1 ?_ ?_|refine we a1 ?_ ?_|refine we m2 ?_ ?_|exact wkc|intro hc|refine wk2 ?_ ?_|fail)
      repeat' (first|refine zab.panic ?_|refine wk ?_|fail)
      first
       | exact rdP hr.symm hc0 rfl (zbC _ rfl)
       | exact rdP hr.symm hc0
    | ok u4 j3=>
    rw[hq4]at m2 h4 hr
    obtain⟨h4a,h4b⟩:=h4
    replace m2:=m2.ok
    simp only[PR.bind]at hr
    obtain⟨hx,h5⟩:=hF j3 (by omega) h4b
    cases hq5:f j3 with
    | er ke c=>
      rw[hq5]at hx h5 hr
      have hc0:=h5.2
      replace hx:=hx.er
      simp only[PR.vl]at hx
      simp only[PR.bind]at hr
      refine wk ?_
      repeat' (first|refine wkt ?_|(apply TO.want;exact rfl)|(apply TO.zaV;(iterate 3 exact rfl);omega;omega)|refine zqh ?_|refine we m1 ?_ ?_|refine we w1 ?_ ?_|refine we a1 ?_ ?_|refine we m2 ?_ ?_|exact wkc|intro hc|refine wk2 ?_ ?_|fail)
      refine rgX 4 (g:=False) [(.ref 2 5,0,1),((.ms 6 3 0 ((rdr l es).size t2)),0,1),(.i (k:Nat),0,1),(.ref 0 0,0,1),(.t (.ag [T.n noE.kind,T.n noE.op,T.n noE.t,T.n noE.v,T.s noE.name,T.sl 6 (noE.args.map exT)]),1,0),(.ref 3 (0+k*6),0,1),(.any,1,0)] [[rdB l n es j3,exZ,mB t2 s (.ms 6 3 0 ((rdr l es).size t2)),.cells (zaC xs)],[rdB l n es j3,exZ,mB t2 s (.ms 6 3 0 ((rdr l es).size t2)),.cells (zaC xs)],[rdB l n es j3,exZ,mB t2 s (.ms 6 3 0 ((rdr l es).size t2)),.cells (zaC (xs.set k noE))]] ?_ (fun h=>h.elim)
      repeat' (first|refine wkt ?_|exact trivial|exact⟨⟨rfl,rfl⟩,trivial⟩|refine qai (fun env=>?_) ?_|refine qai ?_ ?_|refine we hx ?_ ?_|refine zqg ?_|(apply TO.store zaf;(iterate 6 exact rfl);exact leB;exact rfl;(show _+6≤(zaC _).length;rw[zbl];omega);exact st4 (zbm noE xs k (by omega)))|refine wk ?_|exact wkc|intro hc|refine wk2 ?_ ?_|fail)
      repeat' (first|refine zab.panic ?_|refine wk ?_|fail)
      first
       | exact rdP hr.symm hc0 rfl (zbC _ rfl)
       | exact rdP hr.symm hc0
    | ok e j4=>
    rw[hq5]at hx h5 hr
    obtain⟨h5a,h5b⟩:=h5
    replace hx:=hx.ok
    simp only[PR.vl]at hx
    simp only[PR.bind]at hr
    rw[zae e]at hx
    unfold exC at hx
    obtain⟨m3,h6⟩:=zgD l n es j4 [[41]] hl h5b (by decide)
    cases hq6:(rdr l es).must [[41]] j4 with
    | er ke c=>
      rw[hq6]at m3 h6 hr
      have hc0:=h6.2
      replace m3:=m3.er
      simp only[PR.bind]at hr
      refine wk ?_
      repeat' (first|refine wkt ?_|(apply TO.want;exact rfl)|(apply TO.zaV;(iterate 3 exact rfl);omega;omega)|refine zqh ?_|refine we m1 ?_ ?_|refine we w1 ?_ ?_|refine we a1 ?_ ?_|refine we m2 ?_ ?_|exact wkc|intro hc|refine wk2 ?_ ?_|fail)
      refine rgX 4 (g:=True) [(.ref 2 5,0,1),((.ms 6 3 0 ((rdr l es).size t2)),0,1),(.i (k:Nat),0,1),(.ref 0 0,0,1),(.t (.ag [T.n e.kind,T.n e.op,T.n e.t,T.n e.v,T.s e.name,T.sl 6 (e.args.map exT)]),1,0),(.ref 3 (0+k*6),0,1),(.any,1,0)] [[rdB l n es j3,exZ,mB t2 s (.ms 6 3 0 ((rdr l es).size t2)),.cells (zaC xs)],[rdB l n es j4,exZ,mB t2 s (.ms 6 3 0 ((rdr l es).size t2)),.cells (zaC xs)],[rdB l n es j4,exZ,mB t2 s (.ms 6 3 0 ((rdr l es).size t2)),.cells (zaC (xs.set k e))]] ?_ (fun _=>?_)
      ·repeat' (first|refine wkt ?_|exact trivial|exact⟨⟨rfl,rfl⟩,trivial⟩|refine qai (fun env=>?_) ?_|refine qai ?_ ?_|refine we hx ?_ ?_|refine zqg ?_|(apply TO.store zaf;(iterate 6 exact rfl);exact leB;exact rfl;(show _+6≤(zaC _).length;rw[zbl];omega);exact st4 (zbm e xs k (by omega)))|refine wk ?_|exact wkc|intro hc|refine wk2 ?_ ?_|fail)
       done
      repeat' (first|refine wkt ?_|(apply TO.want;exact rfl)|(apply TO.zaV;(iterate 3 exact rfl);omega;omega)|refine zqh ?_|refine we m3 ?_ ?_|exact wkc|intro hc|refine wk2 ?_ ?_|fail)
      repeat' (first|refine zab.panic ?_|refine wk ?_|fail)
      first
       | exact rdP hr.symm hc0 rfl (zbC _ rfl)
       | exact rdP hr.symm hc0
    | ok u6 j5=>
    rw[hq6]at m3 h6 hr
    obtain⟨h6a,h6b⟩:=h6
    replace m3:=m3.ok
    simp only[PR.bind]at hr
    refine wk ?_
    repeat' (first|refine wkt ?_|(apply TO.want;exact rfl)|(apply TO.zaV;(iterate 3 exact rfl);omega;omega)|refine zqh ?_|refine we m1 ?_ ?_|refine we w1 ?_ ?_|refine we a1 ?_ ?_|refine we m2 ?_ ?_|exact wkc|intro hc|refine wk2 ?_ ?_|fail)
    refine rgX 4 (g:=True) [(.ref 2 5,0,1),((.ms 6 3 0 ((rdr l es).size t2)),0,1),(.i (k:Nat),0,1),(.ref 0 0,0,1),(.t (.ag [T.n e.kind,T.n e.op,T.n e.t,T.n e.v,T.s e.name,T.sl 6 (e.args.map exT)]),1,0),(.ref 3 (0+k*6),0,1),(.any,1,0)] [[rdB l n es j3,exZ,mB t2 s (.ms 6 3 0 ((rdr l es).size t2)),.cells (zaC xs)],[rdB l n es j4,exZ,mB t2 s (.ms 6 3 0 ((rdr l es).size t2)),.cells (zaC xs)],[rdB l n es j4,exZ,mB t2 s (.ms 6 3 0 ((rdr l es).size t2)),.cells (zaC (xs.set k e))]] ?_ (fun _=>?_)
    ·repeat' (first|refine wkt ?_|exact trivial|exact⟨⟨rfl,rfl⟩,trivial⟩|refine qai (fun env=>?_) ?_|refine qai ?_ ?_|refine we hx ?_ ?_|refine zqg ?_|(apply TO.store zaf;(iterate 6 exact rfl);exact leB;exact rfl;(show _+6≤(zaC _).length;rw[zbl];omega);exact st4 (zbm e xs k (by omega)))|refine wk ?_|exact wkc|intro hc|refine wk2 ?_ ?_|fail)
     done
    repeat' (first|refine wkt ?_|(apply TO.want;exact rfl)|(apply TO.zaV;(iterate 3 exact rfl);omega;omega)|refine zqh ?_|refine we m3 ?_ ?_|exact wkc|intro hc|refine wk2 ?_ ?_|fail)
    have hI2:j0≤j5/\j5≤l.length/\(rdr l es).size t2-(k+1)≤m/\1≤k+1/\(xs.set k e).length=(rdr l es).size t2/\(t2=1\/3≤t2)/\t2≤6000000/\(rdr l es).size t2≤3000000/\(rdr l es).mrest f s t2 m (k+1) (xs.set k e) j5=r:=⟨by omega,h6b,by omega,by omega,by rw[qbV];exact q5,q6,by omega,q8,hr⟩
    refine zab.next (some (t2,m,k+1,xs.set k e,j5)) ?_ ?_ ?_ ?_
    ·exact hI2
    ·show(rdr l es).size t2-(k+1)<(rdr l es).size t2-k;omega
    ·exact⟨rfl,rfl,rfl,rfl,rfl,trivial⟩
    ·exact rfl
end Go.Proofs.YthmbhfgflijapaaGreatDoor
