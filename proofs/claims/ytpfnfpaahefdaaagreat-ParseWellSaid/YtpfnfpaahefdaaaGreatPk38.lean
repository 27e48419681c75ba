import Derived.Test.YtpfnfpaahefdaaaGreatPk37
set_option linter.all false
namespace Go.Proofs.YtpfnfpaahefdaaaGreat
open Go Go.TL
attribute [local irreducible] TR TO Then zac RetK Sound zaf Kf GG zaY
set_option maxHeartbeats 8000000 in
theorem zd6:∀(w:Nat) (e:Ex),wEx e≤w->w≤1000000000->Pure Tryz.prog 13 [.t (exT e),.t (exT e)] (.b true)
 | 0,e,h,_=>by have:=zeI e;omega
 | w+1,e,h,hw=>by
   have ih:=zd6 w
   have ha:=zj9 e
   have hml:(e.args.map exT).length=e.args.length:=qad _
   have hi:∀x∈e.args,Pure Tryz.prog 13 [.t (exT x),.t (exT x)] (.b true):=fun x hx=>ih x (by have:=zdE hx;omega) (by omega)
   clear ih
   rw[zal]
   unfold exC
   generalize e.kind=k1 at*
   generalize e.op=k2 at*
   generalize e.t=k3 at*
   generalize e.v=k4 at*
   generalize e.name=k5 at*
   generalize e.args=l at*
   refine so Tryz.func13 ?_
   repeat' (first|refine wkt ?_|exact wkc|(intro hc;exact absurd rfl hc)|intro hc|refine wk2 ?_ ?_|(apply TO.want;exact rfl)|fail)
   refine TR.zb0 l.length (fun _=>True) (fun k=>[(2,.cp [T.n k1,T.n k2,T.n k3,T.n k4,T.s k5,T.sl 6 (l.map exT)] 0),(3,.cp [T.n k1,T.n k2,T.n k3,T.n k4,T.s k5,T.sl 6 (l.map exT)] 0),(5,.i k)]) (fun _=>[]) trivial (fun k hlt _=>?_) (fun _=>?_)
   ·have hx:=zhB hlt
    have hd:=hi _ (qaG hlt)
    rw[zal]at hd
    generalize l[k]=x at*
    unfold exC at hx hd
    repeat' (first|refine wkt ?_|exact wkc|intro hc|refine wk2 ?_ ?_|fail)
    refine rgS [.cp [T.n k1,T.n k2,T.n k3,T.n k4,T.s k5,T.sl 6 (l.map exT)] 5,.t (.sl 6 (l.map exT)),.i k,.cp [T.n x.kind,T.n x.op,T.n x.t,T.n x.v,T.s x.name,T.sl 6 (x.args.map exT)] 0,.t (.ag [T.n x.kind,T.n x.op,T.n x.t,T.n x.v,T.s x.name,T.sl 6 (x.args.map exT)]),.cp [T.n k1,T.n k2,T.n k3,T.n k4,T.s k5,T.sl 6 (l.map exT)] 5,.t (.sl 6 (l.map exT)),.i k,.cp [T.n x.kind,T.n x.op,T.n x.t,T.n x.v,T.s x.name,T.sl 6 (x.args.map exT)] 0,.t (.ag [T.n x.kind,T.n x.op,T.n x.t,T.n x.v,T.s x.name,T.sl 6 (x.args.map exT)]),.b true,.b false] ?_ ?_
    ·repeat' (first|refine wkt ?_|refine wv hd ?_|exact trivial|exact⟨⟨rfl,rfl⟩,trivial⟩|refine qak (fun env=>?_) ?_|refine wk ?_|exact wkc|intro hc|refine wk2 ?_ ?_|fail)
     done
    ·repeat' (first|refine wu ?_|exact wkc|intro hc|refine wk2 ?_ ?_|fail)
     exact zaf.zcq hlt trivial
   ·repeat' (first|refine wu ?_|exact wkc|intro hc|refine wk2 ?_ ?_|fail)
    exact wkr
theorem zih(s:Str):Pure Tryz.prog 5 [.s s] (.b (decide (s.length≤4000))):=by
 by_cases h:s.length≤4000
 ·rw[decide_eq_true h]
  exact zwdh
 ·rw[decide_eq_false h]
  exact zwdh
abbrev tx1:Str:=[110,111,100,101,32,102,40,97,58,32,105,110,116,41,32,114,101,116,117,114,110,115,32,40,120,58,32,105,110,116,41,32,108,101,116,32,120,32,61,32,97,32,45,32,45,49,59,32,116,101,108]
abbrev tk1:List Tok:=[(3,[110,111,100,101],0),(1,[102],5),(4,[40],6),(1,[97],7),(4,[58],8),(3,[105,110,116],10),(4,[41],13),(3,[114,101,116,117,114,110,115],15),(4,[40],23),(1,[120],24),(4,[58],25),(3,[105,110,116],27),(4,[41],30),(3,[108,101,116],32),(1,[120],36),(4,[61],38),(1,[97],40),(4,[45],42),(4,[45],44),(2,[49],45),(4,[59],46),(3,[116,101,108],48)]
theorem sc1:scan tx1=(tk1,0,0):=by
 rw[scan,if_neg (by decide),zes]
 decide +kernel
abbrev tx2:Str:=[110,111,100,101,32,102,40]
abbrev tk2:List Tok:=[(3,[110,111,100,101],0),(1,[102],5),(4,[40],6)]
theorem sc2:scan tx2=(tk2,0,0):=by
 rw[scan,if_neg (by decide),zes]
 decide +kernel
abbrev tx3:Str:=[110,111,116,32,97,32,61,32,98]
abbrev tk3:List Tok:=[(3,[110,111,116],0),(1,[97],4),(4,[61],6),(1,[98],8)]
theorem sc3:scan tx3=(tk3,0,0):=by
 rw[scan,if_neg (by decide),zes]
 decide +kernel
abbrev tx4:Str:=[97,32,61,32,98,32,61,32,99]
abbrev tk4:List Tok:=[(1,[97],0),(4,[61],2),(1,[98],4),(4,[61],6),(1,[99],8)]
theorem sc4:scan tx4=(tk4,0,0):=by
 rw[scan,if_neg (by decide),zes]
 decide +kernel
abbrev tx5:Str:=[45,49,32,119,104,101,110,32,116,114,117,101,40,99,41]
abbrev tk5:List Tok:=[(4,[45],0),(2,[49],1),(3,[119,104,101,110],3),(3,[116,114,117,101],8),(4,[40],12),(1,[99],13),(4,[41],14)]
theorem sc5:scan tx5=(tk5,0,0):=by
 rw[scan,if_neg (by decide),zes]
 decide +kernel
abbrev lf (k o t v:Int)(s:Str):Ex:=.mk (toI k) (toI o) (toI t) (toI v) s []
abbrev xV:Ex:=.mk (toI 3) (toI 7) (toI 0) (toI 0) [] [lf 2 0 0 0 [97],lf 1 0 2 (-1) []]
abbrev xN:Ex:=.mk (toI 3) (toI 1) (toI 0) (toI 0) [] [.mk (toI 3) (toI 11) (toI 0) (toI 0) [] [lf 2 0 0 0 [97],lf 2 0 0 0 [98]]]
abbrev xW:Ex:=.mk (toI 8) (toI 0) (toI 1) (toI 1) [99] [lf 1 0 2 (-1) []]
abbrev pP:Prog:=⟨[],[⟨[102],[⟨[97],toI 2,[]⟩],[⟨[120],toI 2,[]⟩],[],[⟨[[120]],xV⟩],[],[],[]⟩]⟩
theorem rd1:(rdr tk1 []).program 0= .ok pP 22:=by kernel_rfl
theorem rd2:(rdr tk2 []).program 0= .er 3 5:=by kernel_rfl
theorem rd3:(rdr tk3 []).expr 0= .ok xN 4:=by kernel_rfl
theorem rd4:(rdr tk4 []).expr 0= .ok (.mk (toI 3) (toI 11) (toI 0) (toI 0) [] [lf 2 0 0 0 [97],lf 2 0 0 0 [98]]) 3:=by kernel_rfl
theorem rd5:(rdr tk5 []).expr 0= .ok xW 7:=by kernel_rfl
theorem zm3(k o t v:I64)(n:Str):flat (.mk k o t v n [])=[.mk k o t v n []]:=by rw[zd0];rfl
theorem zkr(k o t v:I64)(n:Str)(x:Ex):flat (.mk k o t v n [x])= .mk k o t v n [x]::flat x:=by rw[zd0];simp[flats,Ex.args]
theorem zks(k o t v:I64)(n:Str)(x y:Ex):flat (.mk k o t v n [x,y])= .mk k o t v n [x,y]::(flat x++flat y):=by rw[zd0];simp[flats,Ex.args]
theorem wx0(k o t v:I64)(n:Str):wEx (.mk k o t v n [])=1:=by rw[zdF];rfl
theorem wx1(k o t v:I64)(n:Str)(x:Ex):wEx (.mk k o t v n [x])=1+wEx x:=by rw[zdF];simp[Ex.args]
theorem wx2(k o t v:I64)(n:Str)(x y:Ex):wEx (.mk k o t v n [x,y])=1+(wEx x+wEx y):=by rw[zdF];simp[Ex.args]
theorem dx0(k o t v:I64)(n:Str):zaW (.mk k o t v n [])=1:=by rw[zc3];rfl
theorem dx1(k o t v:I64)(n:Str)(x:Ex):zaW (.mk k o t v n [x])=(([zaW x].foldl max 0)+1):=by rw[zc3];rfl
theorem dx2(k o t v:I64)(n:Str)(x y:Ex):zaW (.mk k o t v n [x,y])=(([zaW x,zaW y].foldl max 0)+1):=by rw[zc3];rfl
theorem ex3:zca [] xN=0:=by
 exact zwdl
theorem ex5:zca [] xW=0:=by
 exact zwdl
theorem exV:zca [] xV=0:=by
 exact zwdl
theorem eqV:equE [] ⟨[[120]],xV⟩=0:=by unfold equE;rw[show zca [] (Equ.mk [[120]] xV).right=0 from exV];decide +kernel
theorem ndV:zcG [] (pP.nodes.headD noN)=(-1,0):=by
 have h:zan (equE []) (pP.nodes.headD noN).eqs=0:=by show zan (equE []) [⟨[[120]],xV⟩]=0;unfold zan;rw[eqV];rfl
 unfold zcG
 rw[h];decide +kernel
theorem shV:zci pP=((0,0),0):=by
 have h:zan (fun n=>(zcG pP.enums n).2) pP.nodes=0:=by
  show zan _ [pP.nodes.headD noN]=0
  unfold zan
  rw[show zcG pP.enums (pP.nodes.headD noN)=(-1,0) from ndV];rfl
 unfold zci
 rw[h];decide +kernel
theorem pr1:zce tx1=(pP,0,0):=by
 unfold zce
 rw[sc1,if_neg (by decide),rd1]
 simp only
 rw[if_neg (by decide),shV,if_pos rfl]
theorem pr2:zce tx2=(noP,7,5):=by
 unfold zce
 rw[sc2,if_neg (by decide),rd2]
 rfl
theorem pe3:zdP [] tx3=(xN,0,0):=by
 unfold zdP
 rw[sc3,if_neg (by decide),rd3]
 simp only
 rw[if_neg (by decide),if_pos ex3]
theorem pe4:zdP [] tx4=(noE,6,5):=by
 have he:=rd4
 unfold zdP
 rw[sc4,if_neg (by decide),he]
 rfl
theorem pe5:zdP [] tx5=(xW,0,0):=by
 unfold zdP
 rw[sc5,if_neg (by decide),rd5]
 simp only
 rw[if_neg (by decide),if_pos ex5]
theorem zlw(es:List En)(hes:EsOk es)(s:Str)(hs:s.length≤65536):Pure Tryz.prog 12 [.t (ensT es),.s s] (.tup [.t (exT (zdP es s).1),.i (zdP es s).2.1,.i (zdP es s).2.2]):=by
 refine ziN es s (by omega) (zfW s) hes fun e j h=>?_
 unfold Rd.expr at h
 have h1:=pF_w _ _ h
 have h2:=zdi (R:=rdr (scan s).1 es) (10*(rdr (scan s).1 es).K.length+10) .expr (i:=0) (qaT _)
 rw[h,zae]at h2
 have h3:=h2.2
 have h4:=(zfW s).len
 omega
end Go.Proofs.YtpfnfpaahefdaaaGreat
namespace Go.TL
open Go
inductive TLs:T->T->Prop
 | refl (t:T):TLs t t
 | nil (sz:Nat):TLs (.v (.slice none 0 0)) (.sl sz [])
 | ag (cs ds:List T) (h:cs.length=ds.length) (hl:∀(i:Nat) c d,cs[i]?=some c->ds[i]?=some d->TLs c d):TLs (.ag cs) (.ag ds)
 | sl (sz:Nat) (cs ds:List T) (h:cs.length=ds.length) (hl:∀(i:Nat) c d,cs[i]?=some c->ds[i]?=some d->TLs c d):TLs (.sl sz cs) (.sl sz ds)
theorem TLs.both{A:Foot}{w:World}{a b:T}(h:TLs a b):(∀x,TRel A w a x->TRel A w b x)/\a.cells.length=b.cells.length/\∀(j:Nat) c d,a.cells[j]?=some c->b.cells[j]?=some d->∀x,TRel A w c x->TRel A w d x:=by
 have one:∀(a b:T),(∀x,TRel A w a x->TRel A w b x)->∀(j:Nat) c d,[a][j]?=some c->[b][j]?=some d->∀x,TRel A w c x->TRel A w d x:=by
  intro a b h j c d hc hd
  cases j with
  | zero=>simp at hc hd;subst hc;subst hd;exact h
  | succ j=>simp at hc
 induction h with
 | refl t=>exact⟨fun _ h=>h,rfl,fun j c d hc hd=>by rw[hc]at hd;cases hd;exact fun _ h=>h⟩
 | nil sz=>
   have h1:∀x,TRel A w (.v (.slice none 0 0)) x->TRel A w (.sl sz []) x:=by intro x h;cases h;exact .nil sz
   exact⟨h1,rfl,one _ _ h1⟩
 | ag cs ds hl _ ih=>
   refine⟨?_,hl,fun j c d hc hd=>(ih j c d hc hd).1⟩
   intro x h
   cases h with
   | ag _ arr hs h1 hr=>
     refine .ag _ _ (by omega) h1 fun i d y hd hy=>?_
     have hi:=(qaa.1 hd).1
     have hc:cs[i]?=some (cs[i]'(by omega)):=qab _
     exact(ih i _ d hc hd).1 y (hr i _ y hc hy)
 | sl sz cs ds hl _ ih=>
   have h1:∀x,TRel A w (.sl sz cs) x->TRel A w (.sl sz ds) x:=by
    intro x h
    generalize hq:T.sl sz cs=q at h
    cases h with
    | v x=>cases hq
    | ag=>cases hq
    | nil sz'=>cases hq;have:ds=[]:=qaD (by simpa using hl.symm);subst this;exact .nil _
    | empty sz' a=>cases hq;have:ds=[]:=qaD (by simpa using hl.symm);subst this;exact .empty _ a
    | sl sz' es b off cap f hcap hsz hA hw h1 hr=>
      cases hq
      rw[hl]
      refine .sl sz ds b off cap f (by omega) (fun i d hd=>?_) (by rw[<-hl];exact hA) (by rw[<-hl];exact hw) (by rw[<-hl];exact h1) (fun i d j c' hd hc'=>?_)
      ·have hi:=(qaa.1 hd).1
       have hc:cs[i]?=some (cs[i]'(by omega)):=qab _
       rw[<-(ih i _ d hc hd).2.1];exact hsz i _ hc
      ·have hi:=(qaa.1 hd).1
       have hc:cs[i]?=some (cs[i]'(by omega)):=qab _
       have hj:=(qaa.1 hc').1
       have hl2:=(ih i _ d hc hd).2.1
       have hcc:(cs[i]'(by omega)).cells[j]?=some ((cs[i]'(by omega)).cells[j]'(by omega)):=qab _
       exact(ih i _ d hc hd).2.2 j _ c' hcc hc' _ (hr i _ j _ hc hcc)
   exact⟨h1,rfl,one _ _ h1⟩
theorem Le.zpA{s:SV}{t u:T}(h:s.toT=some t)(k:TLs t u):Le s (.t u):=fun _ _ hx=>.t _ _ (k.both.1 _ (hx.toT h))
def TLss:List T->List T->Prop
 | [],[]=>True
 | a::aas,b::bs=>TLs a b/\TLss aas bs
 | _,_=>False
theorem TLss.get:∀ {cs ds:List T},TLss cs ds->cs.length=ds.length/\∀(i:Nat) c d,cs[i]?=some c->ds[i]?=some d->TLs c d
 | [],[],_=>⟨rfl,by simp⟩
 | a::aas,b::bs,h=>by
   have ih:=TLss.get h.2
   exact⟨by simp[ih.1],fun i c d hc hd=>by cases i with|zero=>simp at hc hd;subst hc;subst hd;exact h.1|succ i=>exact ih.2 i c d (by simpa using hc) (by simpa using hd)⟩
theorem TLs.agL{cs ds:List T}(h:TLss cs ds):TLs (.ag cs) (.ag ds):=.ag _ _ h.get.1 h.get.2
theorem TLs.slL{sz:Nat}{cs ds:List T}(h:TLss cs ds):TLs (.sl sz cs) (.sl sz ds):=.sl _ _ _ h.get.1 h.get.2
end Go.TL
namespace Go.Proofs.YtpfnfpaahefdaaaGreat
open Go Go.TL
attribute [local irreducible] TR TO Then zac RetK Sound zaf Kf GG zaY
theorem zhd(s:Str)(hs:s.length≤4000):(scan s).1.length≤4000/\∀t∈(scan s).1,t.2.1.length≤4000/\0≤t.2.2/\t.2.2≤s.length:=by
 obtain⟨h3,h4,h5,h6⟩:=zlL (s.length+1) s
 rw[zfV (by omega)]
 generalize lexF (s.length+1) s=q at*
 refine⟨by simp only[placed,qad];omega,fun t ht=>?_⟩
 simp only[placed,qa5]at ht
 obtain⟨a,ha,rfl⟩:=ht
 have h7:(zaK (a.1,a.2.1,0)).length≤(q.1.map fun a=>(zaK (a.1,a.2.1,0)).length).sum:=by
  exact zws
 have h8:=zgP a.1 a.2.1 0
 simp only
 omega
theorem zpB{s:Str}(hs:s.length≤4000)(es:List En)(k:Nat):((rdr (scan s).1 es).txt k).length≤4000:=by
 unfold Rd.txt
 cases hq:(rdr (scan s).1 es).K[k]? with
 | none=>simp
 | some t=>
   have hm:=qay hq
   obtain⟨u,hu,rfl⟩:=qa5.1 hm
   exact((zhd s hs).2 u hu).1
theorem zgA{s:Str}(hs:s.length≤4000)(k:Nat):0≤placeOf (scan s).1 s.length k/\placeOf (scan s).1 s.length k≤s.length:=by
 unfold placeOf
 cases hq:(scan s).1[k]? with
 | none=>simp only;omega
 | some t=>exact((zhd s hs).2 t (qay hq)).2
theorem zjR{s:Str}(hs:s.length≤4000){p:Prog}{j:Nat}(h:(rdr (scan s).1 []).program 0= .ok p j):zhx p 1000000000:=by
 have hk:=zfW s
 have hl:=(zhd s hs).1
 unfold Rd.program at h
 obtain⟨es,j1,h1,h⟩:=zad h
 obtain⟨l,j2,h2,h⟩:=zad h
 cases h
 have e1:=zf9 _ h1 (by simp) (fun u hu=>by cases hu)
 have e2:=zhs (R:=rdr (scan s).1 []) (rdr (scan s).1 []).K.length [] (i:=0) (qaT _)
 rw[h1]at e2
 have hes:EsOk es:=⟨by omega,fun u hu=>by have:=e1.2 u hu;omega⟩
 have e3:=zlW (R:=rdr (scan s).1 es) (zpB hs es) _ h2 (by simp) e2.2 (fun i hi=>by rw[zae]at hi⊢;exact(zlU (scan s).1 0 es i hk hes hi).2) (fun n hn=>by cases hn)
 rw[zae]at e3
 exact⟨by show es.length≤_;omega,fun u hu=>by have:=e1.2 u hu;omega,by show l.length≤_;omega,fun n hn=>by have:=e3.2 n hn;omega⟩
theorem pgA(s:Str)(hs:s.length≤4000):Pure Tryz.prog 7 [.s s] (.tup [.t (zha (zce s).1),.i (zce s).2.1,.i (zce s).2.2]):=
 zi0 s (by omega) fun p j h=>zjR hs h
theorem zjX:(zci noP).2=0:=by decide +kernel
theorem well(s:Str)(hs:s.length≤4000):(0≤(zce s).2.1/\(zce s).2.1≤s.length)/\zhx (zce s).1 1000000000/\(zci (zce s).1).2=0/\(((zce s).2.2=0/\(zce s).2.1=0)\/((zce s).2.2≠0/\(zce s).1=noP)):=by
 have h0:zhx noP 1000000000:=⟨by decide,(fun u hu=>by cases hu),by decide,(fun n hn=>by cases hn)⟩
 unfold zce
 by_cases h1:(scan s).2.2≠0
 ·rw[if_pos h1]
  have hp:0≤(scan s).2.1/\(scan s).2.1≤s.length:=by
   rw[zfV (by omega)]
   generalize lexF (s.length+1) s=q
   simp only[placed]
   split <;> omega
  exact⟨hp,h0,zjX,.inr ⟨h1,rfl⟩⟩
 ·rw[if_neg h1]
  cases hq:(rdr (scan s).1 []).program 0 with
  | er k c=>
    have:=(zjT (scan s).1 s.length 0 (zfW s) (qaT _)).2
    rw[hq]at this
    exact⟨zgA hs k,h0,zjX,.inr ⟨this.2,rfl⟩⟩
  | ok p j=>
    simp only
    split
    ·exact⟨zgA hs j,h0,zjX,.inr ⟨(by decide:(5:Int)≠0),rfl⟩⟩
    ·split
     ·rename_i hx
      exact⟨⟨Int.le_refl _,by show(0:Int)≤_;omega⟩,zjR hs hq,hx,.inl ⟨rfl,rfl⟩⟩
     ·rename_i hx
      exact⟨⟨Int.le_refl _,by show(0:Int)≤_;omega⟩,h0,zjX,.inr ⟨hx,rfl⟩⟩
theorem es00:EsOk []:=⟨by decide,fun u hu=>by cases hu⟩
set_option maxHeartbeats 8000000 in
theorem zo4:Pure Tryz.prog 6 [] (.b true):=by
 have g1:=pgA tx1 (by decide)
 rw[pr1]at g1
 simp only at g1
 have g2:=pgA tx2 (by decide)
 rw[pr2]at g2
 simp only at g2
 have g3:=zlw [] es00 tx3 (by decide)
 have g4:=zlw [] es00 tx4 (by decide)
 have g5:=zlw [] es00 tx5 (by decide)
 rw[pe3]at g3
 rw[pe4]at g4
 rw[pe5]at g5
 have s1:=zd6 (wEx xV) xV (qae _) (by rw[wx2,wx0,wx0];decide)
 have s2:=zd6 (wEx xW) xW (qae _) (by rw[wx1,wx0];decide)
 unfold zha nodT equT zag at g1
 unfold zha at g2
 simp only[qag,qas,exC,Ex.args,Ex.kind,Ex.op,Ex.t,Ex.v,Ex.name,znS]at g1 g2 g3 g4 g5 s1 s2
 rw[noET]at g4
 refine so Tryz.func6 ?_
 repeat' (first|refine wkt ?_|refine wv g1 ?_|refine wv g2 ?_|refine wv g3 ?_|refine wv g4 ?_|refine wv g5 ?_|(apply TO.zaC (j:=0) zaa;(iterate 10 exact rfl))|exact wkc|intro hc|refine wk2 ?_ ?_|(apply TO.want;exact rfl)|fail)
 refine rgS [.cp [T.sl 2 [],T.sl 8 [.ag [T.s [102],T.sl 3 [T.ag [T.s [97],T.i 2,T.sl 3 []]],T.sl 3 [T.ag [T.s [120],T.i 2,T.sl 3 []]],T.sl 3 [],T.sl 7 [.ag [T.sl 1 [T.s [120]],T.i 3,T.i 7,T.i 0,T.i 0,T.s [],T.sl 6 [.ag [T.i 2,T.i 0,T.i 0,T.i 0,T.s [97],T.sl 6 []],.ag [T.i 1,T.i 0,T.i 2,T.i (-1),T.s [],T.sl 6 []]]]],T.sl 1 [],T.sl 6 [],T.sl 6 []]]] 1,.t (T.sl 8 [.ag [T.s [102],T.sl 3 [T.ag [T.s [97],T.i 2,T.sl 3 []]],T.sl 3 [T.ag [T.s [120],T.i 2,T.sl 3 []]],T.sl 3 [],T.sl 7 [.ag [T.sl 1 [T.s [120]],T.i 3,T.i 7,T.i 0,T.i 0,T.s [],T.sl 6 [.ag [T.i 2,T.i 0,T.i 0,T.i 0,T.s [97],T.sl 6 []],.ag [T.i 1,T.i 0,T.i 2,T.i (-1),T.s [],T.sl 6 []]]]],T.sl 1 [],T.sl 6 [],T.sl 6 []]]),.cp [T.s [102],T.sl 3 [T.ag [T.s [97],T.i 2,T.sl 3 []]],T.sl 3 [T.ag [T.s [120],T.i 2,T.sl 3 []]],T.sl 3 [],T.sl 7 [.ag [T.sl 1 [T.s [120]],T.i 3,T.i 7,T.i 0,T.i 0,T.s [],T.sl 6 [.ag [T.i 2,T.i 0,T.i 0,T.i 0,T.s [97],T.sl 6 []],.ag [T.i 1,T.i 0,T.i 2,T.i (-1),T.s [],T.sl 6 []]]]],T.sl 1 [],T.sl 6 [],T.sl 6 []] 0,.cp [T.s [102],T.sl 3 [T.ag [T.s [97],T.i 2,T.sl 3 []]],T.sl 3 [T.ag [T.s [120],T.i 2,T.sl 3 []]],T.sl 3 [],T.sl 7 [.ag [T.sl 1 [T.s [120]],T.i 3,T.i 7,T.i 0,T.i 0,T.s [],T.sl 6 [.ag [T.i 2,T.i 0,T.i 0,T.i 0,T.s [97],T.sl 6 []],.ag [T.i 1,T.i 0,T.i 2,T.i (-1),T.s [],T.sl 6 []]]]],T.sl 1 [],T.sl 6 [],T.sl 6 []] 4,.t (T.sl 7 [.ag [T.sl 1 [T.s [120]],T.i 3,T.i 7,T.i 0,T.i 0,T.s [],T.sl 6 [.ag [T.i 2,T.i 0,T.i 0,T.i 0,T.s [97],T.sl 6 []],.ag [T.i 1,T.i 0,T.i 2,T.i (-1),T.s [],T.sl 6 []]]]]),.cp [T.sl 1 [T.s [120]],T.i 3,T.i 7,T.i 0,T.i 0,T.s [],T.sl 6 [.ag [T.i 2,T.i 0,T.i 0,T.i 0,T.s [97],T.sl 6 []],.ag [T.i 1,T.i 0,T.i 2,T.i (-1),T.s [],T.sl 6 []]]] 0,.cp [T.sl 1 [T.s [120]],T.i 3,T.i 7,T.i 0,T.i 0,T.s [],T.sl 6 [.ag [T.i 2,T.i 0,T.i 0,T.i 0,T.s [97],T.sl 6 []],.ag [T.i 1,T.i 0,T.i 2,T.i (-1),T.s [],T.sl 6 []]]] 1,.t (.ag [T.i 3,T.i 7,T.i 0,T.i 0,T.s [],T.sl 6 [.ag [T.i 2,T.i 0,T.i 0,T.i 0,T.s [97],T.sl 6 []],.ag [T.i 1,T.i 0,T.i 2,T.i (-1),T.s [],T.sl 6 []]]]),.t (.ag [T.i 3,T.i 7,T.i 0,T.i 0,T.s [],T.sl 6 [.ag [T.i 2,T.i 0,T.i 0,T.i 0,T.s [97],T.v (.slice none 0 0)],.ag [T.i 1,T.i 0,T.i 2,T.i (-1),T.s [],T.v (.slice none 0 0)]]]),.b true,.b true,.cp [T.i 3,T.i 1,T.i 0,T.i 0,T.s [],T.sl 6 [.ag [T.i 3,T.i 11,T.i 0,T.i 0,T.s [],T.sl 6 [.ag [T.i 2,T.i 0,T.i 0,T.i 0,T.s [97],T.sl 6 []],.ag [T.i 2,T.i 0,T.i 0,T.i 0,T.s [98],T.sl 6 []]]]]] 0,.i 3,.b true,.b true,.b true,.cp [T.i 3,T.i 1,T.i 0,T.i 0,T.s [],T.sl 6 [.ag [T.i 3,T.i 11,T.i 0,T.i 0,T.s [],T.sl 6 [.ag [T.i 2,T.i 0,T.i 0,T.i 0,T.s [97],T.sl 6 []],.ag [T.i 2,T.i 0,T.i 0,T.i 0,T.s [98],T.sl 6 []]]]]] 1,.i 1,.b true,.b true,.b true,.t (.ag [T.i 8,T.i 0,T.i 1,T.i 1,T.s [99],T.sl 6 [.ag [T.i 1,T.i 0,T.i 2,T.i (-1),T.s [],T.sl 6 []]]]),.t (.ag [T.i 8,T.i 0,T.i 1,T.i 1,T.s [99],T.sl 6 [.ag [T.i 1,T.i 0,T.i 2,T.i (-1),T.s [],T.v (.slice none 0 0)]]]),.b true,.b true,.b true] ?_ ?_
 ·repeat' (first|refine wkt ?_|(apply TO.zlm s1;(iterate 3 exact rfl);(refine⟨Le.refl _,Le.zpA rfl ?_,trivial⟩;(repeat' (first|exact trivial|exact TLs.nil _|refine TLs.agL ?_|refine TLs.slL ?_|refine qak ?_ ?_|exact TLs.refl _|fail)));exact rfl;exact rfl)|(apply TO.zlm s2;(iterate 3 exact rfl);(refine⟨Le.refl _,Le.zpA rfl ?_,trivial⟩;(repeat' (first|exact trivial|exact TLs.nil _|refine TLs.agL ?_|refine TLs.slL ?_|refine qak ?_ ?_|exact TLs.refl _|fail)));exact rfl;exact rfl)|(apply TO.zaC (j:=0) zaa;(iterate 10 exact rfl))|exact trivial|exact⟨⟨rfl,rfl⟩,trivial⟩|refine qak (fun env=>?_) ?_|refine wk ?_|exact wkc|intro hc|refine wk2 ?_ ?_|fail)
  done
 ·repeat' (first|refine wu ?_|exact wkc|intro hc|refine wk2 ?_ ?_|fail)
  exact wkr
set_option maxHeartbeats 8000000 in
theorem zk0 (s:Str) (hs:s.length≤9223372036854775807):Pure Tryz.prog 3 [.s s] (.b true):=by
 have ha:=zo4
 have h1:=zih s
 by_cases hl:s.length≤4000
 ·rw[decide_eq_true hl]at h1
  have h2:=pgA s hl
  obtain⟨⟨w1,w2⟩,w3,w4,w5⟩:=well s hl
  have h3:=zeV (zce s).1 w3
  rw[w4]at h3
  generalize zce s=z at*
  obtain⟨p,i,e⟩:=z
  simp only at h2 w1 w2 w3 w4 w5 h3
  rw[zjS]at h2
  generalize (zci p).1.1=x1 at h3
  generalize (zci p).1.2=x2 at h3
  rcases w5 with ⟨rfl,rfl⟩|⟨he,rfl⟩
  ·refine so Tryz.func3 ?_
   repeat' (first|refine wkt ?_|refine wv h1 ?_|refine wv h2 ?_|refine wv h3 ?_|refine wv ha ?_|refine wk ?_|exact wkc|intro hc|refine wk2 ?_ ?_|fail)
   exact wkr
  ·refine so Tryz.func3 ?_
   repeat' (first|refine wkt ?_|refine wv h1 ?_|refine wv h2 ?_|refine wv h3 ?_|refine wv ha ?_|(apply TO.add;(iterate 3 exact rfl);decide;decide)|refine wk ?_|exact wkc|intro hc|refine wk2 ?_ ?_|fail)
   exact wkr
 ·rw[decide_eq_false hl]at h1
  refine so Tryz.func3 ?_
  repeat' (first|refine wkt ?_|refine wv h1 ?_|refine wv ha ?_|refine wk ?_|exact wkc|intro hc|refine wk2 ?_ ?_|fail)
  exact wkr
end Go.Proofs.YtpfnfpaahefdaaaGreat
