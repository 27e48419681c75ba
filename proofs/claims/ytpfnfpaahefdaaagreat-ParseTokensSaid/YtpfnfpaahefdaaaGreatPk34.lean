import Derived.DeepKeys
import Derived.Test.YtpfnfpaahefdaaaGreatPk33
set_option linter.all false
namespace Go.Proofs.YtpfnfpaahefdaaaGreat
open Go Go.TL
attribute [local irreducible] TR TO Then zab RetK Sound zac Kf GG za2
set_option maxHeartbeats 8000000 in
theorem zcf:∀(w:Nat) (e:Ex),wEx e≤w->w≤1000000000->Pure Tryz.prog 13 [.t (exT e),.t (exT e)] (.b true)
 | 0,e,h,_=>by have:=ze9 e;omega
 | w+1,e,h,hw=>by
   have ih:=zcf w
   have ha:=zk1 e
   have hml:(e.args.map exT).length=e.args.length:=qad _
   have hi:∀x∈e.args,Pure Tryz.prog 13 [.t (exT x),.t (exT x)] (.b true):=fun x hx=>ih x (by have:=zdX hx;omega) (by omega)
   clear ih
   rw[zao]
   unfold exC
   generalize e.kind=k1 at*
   generalize e.op=k2 at*
   generalize e.t=k3 at*
   generalize e.v=k4 at*
   generalize e.name=k5 at*
   generalize e.args=l at*
   refine so Tryz.func13 ?_
   repeat' (first|refine wkt ?_|exact wkc|(intro hc;exact absurd rfl hc)|intro hc|refine wk2 ?_ ?_|(apply TO.want;exact rfl)|fail)
   refine TR.zbv l.length (fun _=>True) (fun k=>[(2,.cp [T.n k1,T.n k2,T.n k3,T.n k4,T.s k5,T.sl 6 (l.map exT)] 0),(3,.cp [T.n k1,T.n k2,T.n k3,T.n k4,T.s k5,T.sl 6 (l.map exT)] 0),(5,.i k)]) (fun _=>[]) trivial (fun k hlt _=>?_) (fun _=>?_)
   ·have hx:=zg0 hlt
    have hd:=hi _ (qaz hlt)
    rw[zao]at hd
    generalize l[k]=x at*
    unfold exC at hx hd
    repeat' (first|refine wkt ?_|exact wkc|intro hc|refine wk2 ?_ ?_|fail)
    refine rgS [.cp [T.n k1,T.n k2,T.n k3,T.n k4,T.s k5,T.sl 6 (l.map exT)] 5,.t (.sl 6 (l.map exT)),.i k,.cp [T.n x.kind,T.n x.op,T.n x.t,T.n x.v,T.s x.name,T.sl 6 (x.args.map exT)] 0,.t (.ag [T.n x.kind,T.n x.op,T.n x.t,T.n x.v,T.s x.name,T.sl 6 (x.args.map exT)]),.cp [T.n k1,T.n k2,T.n k3,T.n k4,T.s k5,T.sl 6 (l.map exT)] 5,.t (.sl 6 (l.map exT)),.i k,.cp [T.n x.kind,T.n x.op,T.n x.t,T.n x.v,T.s x.name,T.sl 6 (x.args.map exT)] 0,.t (.ag [T.n x.kind,T.n x.op,T.n x.t,T.n x.v,T.s x.name,T.sl 6 (x.args.map exT)]),.b true,.b false] ?_ ?_
    ·repeat' (first|refine wkt ?_|refine wv hd ?_|exact trivial|exact⟨⟨rfl,rfl⟩,trivial⟩|refine qai (fun env=>?_) ?_|refine wk ?_|exact wkc|intro hc|refine wk2 ?_ ?_|fail)
     done
    ·repeat' (first|refine wu ?_|exact wkc|intro hc|refine wk2 ?_ ?_|fail)
     exact zac.zb0 hlt trivial
   ·repeat' (first|refine wu ?_|exact wkc|intro hc|refine wk2 ?_ ?_|fail)
    exact wkr
theorem ziY(s:Str):Pure Tryz.prog 5 [.s s] (.b (decide (s.length≤4000))):=by
 by_cases h:s.length≤4000
 ·rw[decide_eq_true h]
  exact zwdm
 ·rw[decide_eq_false h]
  exact zwdm
abbrev tx1:Str:=[110,111,100,101,32,102,40,97,58,32,105,110,116,41,32,114,101,116,117,114,110,115,32,40,120,58,32,105,110,116,41,32,108,101,116,32,120,32,61,32,97,32,45,32,45,49,59,32,116,101,108]
abbrev tk1:List Tok:=[(3,[110,111,100,101],0),(1,[102],5),(4,[40],6),(1,[97],7),(4,[58],8),(3,[105,110,116],10),(4,[41],13),(3,[114,101,116,117,114,110,115],15),(4,[40],23),(1,[120],24),(4,[58],25),(3,[105,110,116],27),(4,[41],30),(3,[108,101,116],32),(1,[120],36),(4,[61],38),(1,[97],40),(4,[45],42),(4,[45],44),(2,[49],45),(4,[59],46),(3,[116,101,108],48)]
theorem sc1:scan tx1=(tk1,0,0):=by
 rw[scan,if_neg (by decide),zeP]
 decide +kernel
abbrev tx2:Str:=[110,111,100,101,32,102,40]
abbrev tk2:List Tok:=[(3,[110,111,100,101],0),(1,[102],5),(4,[40],6)]
theorem sc2:scan tx2=(tk2,0,0):=by
 rw[scan,if_neg (by decide),zeP]
 decide +kernel
abbrev tx3:Str:=[110,111,116,32,97,32,61,32,98]
abbrev tk3:List Tok:=[(3,[110,111,116],0),(1,[97],4),(4,[61],6),(1,[98],8)]
theorem sc3:scan tx3=(tk3,0,0):=by
 rw[scan,if_neg (by decide),zeP]
 decide +kernel
abbrev tx4:Str:=[97,32,61,32,98,32,61,32,99]
abbrev tk4:List Tok:=[(1,[97],0),(4,[61],2),(1,[98],4),(4,[61],6),(1,[99],8)]
theorem sc4:scan tx4=(tk4,0,0):=by
 rw[scan,if_neg (by decide),zeP]
 decide +kernel
abbrev tx5:Str:=[45,49,32,119,104,101,110,32,116,114,117,101,40,99,41]
abbrev tk5:List Tok:=[(4,[45],0),(2,[49],1),(3,[119,104,101,110],3),(3,[116,114,117,101],8),(4,[40],12),(1,[99],13),(4,[41],14)]
theorem sc5:scan tx5=(tk5,0,0):=by
 rw[scan,if_neg (by decide),zeP]
 decide +kernel
abbrev lf (k o t v:Int)(s:Str):Ex:=.mk (toI k) (toI o) (toI t) (toI v) s []
abbrev xV:Ex:=.mk (toI 3) (toI 7) (toI 0) (toI 0) [] [lf 2 0 0 0 [97],lf 1 0 2 (-1) []]
abbrev xN:Ex:=.mk (toI 3) (toI 1) (toI 0) (toI 0) [] [.mk (toI 3) (toI 11) (toI 0) (toI 0) [] [lf 2 0 0 0 [97],lf 2 0 0 0 [98]]]
abbrev xW:Ex:=.mk (toI 8) (toI 0) (toI 1) (toI 1) [99] [lf 1 0 2 (-1) []]
abbrev pP:Prog:=⟨[],[⟨[102],[⟨[97],toI 2,[]⟩],[⟨[120],toI 2,[]⟩],[],[⟨[[120]],xV⟩],[],[],[]⟩]⟩
theorem rd1:(rdr tk1 []).program 0= .ok pP 22:=by kernel_rfl
theorem rd2:(rdr tk2 []).program 0= .er 3 5:=by kernel_rfl
theorem rd3:(rdr tk3 []).expr 0= .ok xN 4:=by kernel_rfl
theorem rd4:(rdr tk4 []).expr 0= .ok (.mk (toI 3) (toI 11) (toI 0) (toI 0) [] [lf 2 0 0 0 [97],lf 2 0 0 0 [98]]) 3:=by kernel_rfl
theorem rd5:(rdr tk5 []).expr 0= .ok xW 7:=by kernel_rfl
theorem zn4(k o t v:I64)(n:Str):flat (.mk k o t v n [])=[.mk k o t v n []]:=by rw[zel];rfl
theorem zlq(k o t v:I64)(n:Str)(x:Ex):flat (.mk k o t v n [x])= .mk k o t v n [x]::flat x:=by rw[zel];simp[flats,Ex.args]
theorem zlr(k o t v:I64)(n:Str)(x y:Ex):flat (.mk k o t v n [x,y])= .mk k o t v n [x,y]::(flat x++flat y):=by rw[zel];simp[flats,Ex.args]
theorem wx0(k o t v:I64)(n:Str):wEx (.mk k o t v n [])=1:=by rw[zdY];rfl
theorem wx1(k o t v:I64)(n:Str)(x:Ex):wEx (.mk k o t v n [x])=1+wEx x:=by rw[zdY];simp[Ex.args]
theorem wx2(k o t v:I64)(n:Str)(x y:Ex):wEx (.mk k o t v n [x,y])=1+(wEx x+wEx y):=by rw[zdY];simp[Ex.args]
theorem dx0(k o t v:I64)(n:Str):za4 (.mk k o t v n [])=1:=by rw[zdi];rfl
theorem dx1(k o t v:I64)(n:Str)(x:Ex):za4 (.mk k o t v n [x])=(([za4 x].foldl max 0)+1):=by rw[zdi];rfl
theorem dx2(k o t v:I64)(n:Str)(x y:Ex):za4 (.mk k o t v n [x,y])=(([za4 x,za4 y].foldl max 0)+1):=by rw[zdi];rfl
theorem ex3:zcp [] xN=0:=by
 exact zwdq
theorem ex5:zcp [] xW=0:=by
 exact zwdq
theorem exV:zcp [] xV=0:=by
 exact zwdq
theorem eqV:equE [] ⟨[[120]],xV⟩=0:=by unfold equE;rw[show zcp [] (Equ.mk [[120]] xV).right=0 from exV];decide +kernel
theorem ndV:zcU [] (pP.nodes.headD noN)=(-1,0):=by
 have h:zap (equE []) (pP.nodes.headD noN).eqs=0:=by show zap (equE []) [⟨[[120]],xV⟩]=0;unfold zap;rw[eqV];rfl
 unfold zcU
 rw[h];decide +kernel
theorem shV:zdK pP=((0,0),0):=by
 have h:zap (fun n=>(zcU pP.enums n).2) pP.nodes=0:=by
  show zap _ [pP.nodes.headD noN]=0
  unfold zap
  rw[show zcU pP.enums (pP.nodes.headD noN)=(-1,0) from ndV];rfl
 unfold zdK
 rw[h];decide +kernel
theorem pr1:zct tx1=(pP,0,0):=by
 unfold zct
 rw[sc1,if_neg (by decide),rd1]
 simp only
 rw[if_neg (by decide),shV,if_pos rfl]
theorem pr2:zct tx2=(noP,7,5):=by
 unfold zct
 rw[sc2,if_neg (by decide),rd2]
 rfl
theorem pe3:zd8 [] tx3=(xN,0,0):=by
 unfold zd8
 rw[sc3,if_neg (by decide),rd3]
 simp only
 rw[if_neg (by decide),if_pos ex3]
theorem pe4:zd8 [] tx4=(noE,6,5):=by
 have he:=rd4
 unfold zd8
 rw[sc4,if_neg (by decide),he]
 rfl
theorem pe5:zd8 [] tx5=(xW,0,0):=by
 unfold zd8
 rw[sc5,if_neg (by decide),rd5]
 simp only
 rw[if_neg (by decide),if_pos ex5]
theorem zmz(es:List En)(hes:EsOk es)(s:Str)(hs:s.length≤65536):Pure Tryz.prog 12 [.t (ensT es),.s s] (.tup [.t (exT (zd8 es s).1),.i (zd8 es s).2.1,.i (zd8 es s).2.2]):=by
 refine zjw es s (by omega) (zgw s) hes fun e j h=>?_
 unfold Rd.expr at h
 have h1:=pF_w _ _ h
 have h2:=zdy (R:=rdr (scan s).1 es) (10*(rdr (scan s).1 es).K.length+10) .expr (i:=0) (qaV _)
 rw[h,zaf]at h2
 have h3:=h2.2
 have h4:=(zgw s).len
 omega
end Go.Proofs.YtpfnfpaahefdaaaGreat
namespace Go.TL
open Go
inductive TLs:T->T->Prop
 | refl (t:T):TLs t t
 | nil (sz:Nat):TLs (.v (.slice none 0 0)) (.sl sz [])
 | ag (cs ds:List T) (h:cs.length=ds.length) (hl:∀(i:Nat) c d,cs[i]?=some c->ds[i]?=some d->TLs c d):TLs (.ag cs) (.ag ds)
 | sl (sz:Nat) (cs ds:List T) (h:cs.length=ds.length) (hl:∀(i:Nat) c d,cs[i]?=some c->ds[i]?=some d->TLs c d):TLs (.sl sz cs) (.sl sz ds)
theorem TLs.both{A:Foot}{w:World}{a b:T}(h:TLs a b):(∀x,TRel A w a x->TRel A w b x)/\a.cells.length=b.cells.length/\∀(j:Nat) c d,a.cells[j]?=some c->b.cells[j]?=some d->∀x,TRel A w c x->TRel A w d x:=by
 have one:∀(a b:T),(∀x,TRel A w a x->TRel A w b x)->∀(j:Nat) c d,[a][j]?=some c->[b][j]?=some d->∀x,TRel A w c x->TRel A w d x:=by
  intro a b h j c d hc hd
  cases j with
  | zero=>simp at hc hd;subst hc;subst hd;exact h
  | succ j=>simp at hc
 induction h with
 | refl t=>exact⟨fun _ h=>h,rfl,fun j c d hc hd=>by rw[hc]at hd;cases hd;exact fun _ h=>h⟩
 | nil sz=>
   have h1:∀x,TRel A w (.v (.slice none 0 0)) x->TRel A w (.sl sz []) x:=by intro x h;cases h;exact .nil sz
   exact⟨h1,rfl,one _ _ h1⟩
 | ag cs ds hl _ ih=>
   refine⟨?_,hl,fun j c d hc hd=>(ih j c d hc hd).1⟩
   intro x h
   cases h with
   | ag _ arr hs h1 hr=>
     refine .ag _ _ (by omega) h1 fun i d y hd hy=>?_
     have hi:=(qaa.1 hd).1
     have hc:cs[i]?=some (cs[i]'(by omega)):=qab _
     exact(ih i _ d hc hd).1 y (hr i _ y hc hy)
 | sl sz cs ds hl _ ih=>
   have h1:∀x,TRel A w (.sl sz cs) x->TRel A w (.sl sz ds) x:=by
    intro x h
    generalize hq:T.sl sz cs=q at h
    cases h with
    | v x=>cases hq
    | ag=>cases hq
    | nil sz'=>cases hq;have:ds=[]:=qay (by simpa using hl.symm);subst this;exact .nil _
    | empty sz' a=>cases hq;have:ds=[]:=qay (by simpa using hl.symm);subst this;exact .empty _ a
    | sl sz' es b off cap f hcap hsz hA hw h1 hr=>
      cases hq
      rw[hl]
      refine .sl sz ds b off cap f (by omega) (fun i d hd=>?_) (by rw[<-hl];exact hA) (by rw[<-hl];exact hw) (by rw[<-hl];exact h1) (fun i d j c' hd hc'=>?_)
      ·have hi:=(qaa.1 hd).1
       have hc:cs[i]?=some (cs[i]'(by omega)):=qab _
       rw[<-(ih i _ d hc hd).2.1];exact hsz i _ hc
      ·have hi:=(qaa.1 hd).1
       have hc:cs[i]?=some (cs[i]'(by omega)):=qab _
       have hj:=(qaa.1 hc').1
       have hl2:=(ih i _ d hc hd).2.1
       have hcc:(cs[i]'(by omega)).cells[j]?=some ((cs[i]'(by omega)).cells[j]'(by omega)):=qab _
       exact(ih i _ d hc hd).2.2 j _ c' hcc hc' _ (hr i _ j _ hc hcc)
   exact⟨h1,rfl,one _ _ h1⟩
theorem Le.zq6{s:SV}{t u:T}(h:s.toT=some t)(k:TLs t u):Le s (.t u):=fun _ _ hx=>.t _ _ (k.both.1 _ (hx.toT h))
def TLss:List T->List T->Prop
 | [],[]=>True
 | a::aas,b::bs=>TLs a b/\TLss aas bs
 | _,_=>False
theorem TLss.get:∀ {cs ds:List T},TLss cs ds->cs.length=ds.length/\∀(i:Nat) c d,cs[i]?=some c->ds[i]?=some d->TLs c d
 | [],[],_=>⟨rfl,by simp⟩
 | a::aas,b::bs,h=>by
   have ih:=TLss.get h.2
   exact⟨by simp[ih.1],fun i c d hc hd=>by cases i with|zero=>simp at hc hd;subst hc;subst hd;exact h.1|succ i=>exact ih.2 i c d (by simpa using hc) (by simpa using hd)⟩
theorem TLs.agL{cs ds:List T}(h:TLss cs ds):TLs (.ag cs) (.ag ds):=.ag _ _ h.get.1 h.get.2
theorem TLs.slL{sz:Nat}{cs ds:List T}(h:TLss cs ds):TLs (.sl sz cs) (.sl sz ds):=.sl _ _ _ h.get.1 h.get.2
end Go.TL
namespace Go.Proofs.YtpfnfpaahefdaaaGreat
open Go Go.TL
attribute [local irreducible] TR TO Then zab RetK Sound zac Kf GG za2
theorem zkM(s:Str)(hs:s.length≤4000):(scan s).1.length≤4000/\∀t∈(scan s).1,t.2.1.length≤4000/\0≤t.2.2/\t.2.2≤s.length:=by
 obtain⟨h3,h4,h5,h6⟩:=zjG (s.length+1) s
 rw[zdV (by omega)]
 generalize lexF (s.length+1) s=q at*
 refine⟨by simp only[placed,qad];omega,fun t ht=>?_⟩
 simp only[placed,qa2]at ht
 obtain⟨a,ha,rfl⟩:=ht
 have h7:(zaJ (a.1,a.2.1,0)).length≤(q.1.map fun a=>(zaJ (a.1,a.2.1,0)).length).sum:=by
  exact zwt
 have h8:=zhq a.1 a.2.1 0
 simp only
 omega
theorem zq7{s:Str}(hs:s.length≤4000)(es:List En)(k:Nat):((rdr (scan s).1 es).txt k).length≤4000:=by
 unfold Rd.txt
 cases hq:(rdr (scan s).1 es).K[k]? with
 | none=>simp
 | some t=>
   have hm:=qaB hq
   obtain⟨u,hu,rfl⟩:=qa2.1 hm
   exact((zkM s hs).2 u hu).1
theorem ziQ{s:Str}(hs:s.length≤4000){p:Prog}{j:Nat}(h:(rdr (scan s).1 []).program 0= .ok p j):zfc p 90000000:=by
 have hk:=zgw s
 have hl:=(zkM s hs).1
 unfold Rd.program at h
 obtain⟨es,j1,h1,h⟩:=zae h
 obtain⟨l,j2,h2,h⟩:=zae h
 cases h
 have e1:=zgK _ h1 (by simp) (fun u hu=>by cases hu)
 have e2:=zh5 (R:=rdr (scan s).1 []) (rdr (scan s).1 []).K.length [] (i:=0) (qaV _)
 rw[h1]at e2
 have hes:EsOk es:=⟨by omega,fun u hu=>by have:=e1.2 u hu;omega⟩
 have e3:=zmZ (R:=rdr (scan s).1 es) (zq7 hs es) _ h2 (by simp) e2.2 (fun i hi=>by rw[zaf]at hi⊢;exact(zmX (scan s).1 0 es i hk hes hi).2) (fun n hn=>by cases hn)
 rw[zaf]at e3
 exact⟨by show es.length≤_;omega,fun u hu=>by have:=e1.2 u hu;omega,by show l.length≤_;omega,fun n hn=>by have:=e3.2 n hn;omega⟩
theorem zkJ{s:Str}(hs:s.length≤4000){p:Prog}{j:Nat}(h:(rdr (scan s).1 []).program 0= .ok p j):zfc p 1000000000:=by
 have h:=ziQ hs h
 exact⟨qa9 h.es (by decide),fun u hu=>qa9 (h.tg u hu) (by decide),qa9 h.ns (by decide),fun n hn=>qa9 (h.nd n hn) (by decide)⟩
theorem pgA(s:Str)(hs:s.length≤4000):Pure Tryz.prog 7 [.s s] (.tup [.t (zeN (zct s).1),.i (zct s).2.1,.i (zct s).2.2]):=
 zgq s (by omega) fun p j h=>zkJ hs h
theorem es00:EsOk []:=⟨by decide,fun u hu=>by cases hu⟩
set_option maxHeartbeats 8000000 in
theorem zqu:Pure Tryz.prog 6 [] (.b true):=by
 have g1:=pgA tx1 (by decide)
 rw[pr1]at g1
 simp only at g1
 have g2:=pgA tx2 (by decide)
 rw[pr2]at g2
 simp only at g2
 have g3:=zmz [] es00 tx3 (by decide)
 have g4:=zmz [] es00 tx4 (by decide)
 have g5:=zmz [] es00 tx5 (by decide)
 rw[pe3]at g3
 rw[pe4]at g4
 rw[pe5]at g5
 have s1:=zcf (wEx xV) xV (qae _) (by rw[wx2,wx0,wx0];decide)
 have s2:=zcf (wEx xW) xW (qae _) (by rw[wx1,wx0];decide)
 unfold zeN nodT equT zag at g1
 unfold zeN at g2
 simp only[qah,qas,exC,Ex.args,Ex.kind,Ex.op,Ex.t,Ex.v,Ex.name,zoX]at g1 g2 g3 g4 g5 s1 s2
 rw[noET]at g4
 refine so Tryz.func6 ?_
 repeat' (first|refine wkt ?_|refine wv g1 ?_|refine wv g2 ?_|refine wv g3 ?_|refine wv g4 ?_|refine wv g5 ?_|(apply TO.zay (j:=0) zaa;(iterate 10 exact rfl))|exact wkc|intro hc|refine wk2 ?_ ?_|(apply TO.want;exact rfl)|fail)
 refine rgS [.cp [T.sl 2 [],T.sl 8 [.ag [T.s [102],T.sl 3 [T.ag [T.s [97],T.i 2,T.sl 3 []]],T.sl 3 [T.ag [T.s [120],T.i 2,T.sl 3 []]],T.sl 3 [],T.sl 7 [.ag [T.sl 1 [T.s [120]],T.i 3,T.i 7,T.i 0,T.i 0,T.s [],T.sl 6 [.ag [T.i 2,T.i 0,T.i 0,T.i 0,T.s [97],T.sl 6 []],.ag [T.i 1,T.i 0,T.i 2,T.i (-1),T.s [],T.sl 6 []]]]],T.sl 1 [],T.sl 6 [],T.sl 6 []]]] 1,.t (T.sl 8 [.ag [T.s [102],T.sl 3 [T.ag [T.s [97],T.i 2,T.sl 3 []]],T.sl 3 [T.ag [T.s [120],T.i 2,T.sl 3 []]],T.sl 3 [],T.sl 7 [.ag [T.sl 1 [T.s [120]],T.i 3,T.i 7,T.i 0,T.i 0,T.s [],T.sl 6 [.ag [T.i 2,T.i 0,T.i 0,T.i 0,T.s [97],T.sl 6 []],.ag [T.i 1,T.i 0,T.i 2,T.i (-1),T.s [],T.sl 6 []]]]],T.sl 1 [],T.sl 6 [],T.sl 6 []]]),.cp [T.s [102],T.sl 3 [T.ag [T.s [97],T.i 2,T.sl 3 []]],T.sl 3 [T.ag [T.s [120],T.i 2,T.sl 3 []]],T.sl 3 [],T.sl 7 [.ag [T.sl 1 [T.s [120]],T.i 3,T.i 7,T.i 0,T.i 0,T.s [],T.sl 6 [.ag [T.i 2,T.i 0,T.i 0,T.i 0,T.s [97],T.sl 6 []],.ag [T.i 1,T.i 0,T.i 2,T.i (-1),T.s [],T.sl 6 []]]]],T.sl 1 [],T.sl 6 [],T.sl 6 []] 0,.cp [T.s [102],T.sl 3 [T.ag [T.s [97],T.i 2,T.sl 3 []]],T.sl 3 [T.ag [T.s [120],T.i 2,T.sl 3 []]],T.sl 3 [],T.sl 7 [.ag [T.sl 1 [T.s [120]],T.i 3,T.i 7,T.i 0,T.i 0,T.s [],T.sl 6 [.ag [T.i 2,T.i 0,T.i 0,T.i 0,T.s [97],T.sl 6 []],.ag [T.i 1,T.i 0,T.i 2,T.i (-1),T.s [],T.sl 6 []]]]],T.sl 1 [],T.sl 6 [],T.sl 6 []] 4,.t (T.sl 7 [.ag [T.sl 1 [T.s [120]],T.i 3,T.i 7,T.i 0,T.i 0,T.s [],T.sl 6 [.ag [T.i 2,T.i 0,T.i 0,T.i 0,T.s [97],T.sl 6 []],.ag [T.i 1,T.i 0,T.i 2,T.i (-1),T.s [],T.sl 6 []]]]]),.cp [T.sl 1 [T.s [120]],T.i 3,T.i 7,T.i 0,T.i 0,T.s [],T.sl 6 [.ag [T.i 2,T.i 0,T.i 0,T.i 0,T.s [97],T.sl 6 []],.ag [T.i 1,T.i 0,T.i 2,T.i (-1),T.s [],T.sl 6 []]]] 0,.cp [T.sl 1 [T.s [120]],T.i 3,T.i 7,T.i 0,T.i 0,T.s [],T.sl 6 [.ag [T.i 2,T.i 0,T.i 0,T.i 0,T.s [97],T.sl 6 []],.ag [T.i 1,T.i 0,T.i 2,T.i (-1),T.s [],T.sl 6 []]]] 1,.t (.ag [T.i 3,T.i 7,T.i 0,T.i 0,T.s [],T.sl 6 [.ag [T.i 2,T.i 0,T.i 0,T.i 0,T.s [97],T.sl 6 []],.ag [T.i 1,T.i 0,T.i 2,T.i (-1),T.s [],T.sl 6 []]]]),.t (.ag [T.i 3,T.i 7,T.i 0,T.i 0,T.s [],T.sl 6 [.ag [T.i 2,T.i 0,T.i 0,T.i 0,T.s [97],T.v (.slice none 0 0)],.ag [T.i 1,T.i 0,T.i 2,T.i (-1),T.s [],T.v (.slice none 0 0)]]]),.b true,.b true,.cp [T.i 3,T.i 1,T.i 0,T.i 0,T.s [],T.sl 6 [.ag [T.i 3,T.i 11,T.i 0,T.i 0,T.s [],T.sl 6 [.ag [T.i 2,T.i 0,T.i 0,T.i 0,T.s [97],T.sl 6 []],.ag [T.i 2,T.i 0,T.i 0,T.i 0,T.s [98],T.sl 6 []]]]]] 0,.i 3,.b true,.b true,.b true,.cp [T.i 3,T.i 1,T.i 0,T.i 0,T.s [],T.sl 6 [.ag [T.i 3,T.i 11,T.i 0,T.i 0,T.s [],T.sl 6 [.ag [T.i 2,T.i 0,T.i 0,T.i 0,T.s [97],T.sl 6 []],.ag [T.i 2,T.i 0,T.i 0,T.i 0,T.s [98],T.sl 6 []]]]]] 1,.i 1,.b true,.b true,.b true,.t (.ag [T.i 8,T.i 0,T.i 1,T.i 1,T.s [99],T.sl 6 [.ag [T.i 1,T.i 0,T.i 2,T.i (-1),T.s [],T.sl 6 []]]]),.t (.ag [T.i 8,T.i 0,T.i 1,T.i 1,T.s [99],T.sl 6 [.ag [T.i 1,T.i 0,T.i 2,T.i (-1),T.s [],T.v (.slice none 0 0)]]]),.b true,.b true,.b true] ?_ ?_
 ·repeat' (first|refine wkt ?_|(apply TO.zlf s1;(iterate 3 exact rfl);(refine⟨Le.refl _,Le.zq6 rfl ?_,trivial⟩;(repeat' (first|exact trivial|exact TLs.nil _|refine TLs.agL ?_|refine TLs.slL ?_|refine qai ?_ ?_|exact TLs.refl _|fail)));exact rfl;exact rfl)|(apply TO.zlf s2;(iterate 3 exact rfl);(refine⟨Le.refl _,Le.zq6 rfl ?_,trivial⟩;(repeat' (first|exact trivial|exact TLs.nil _|refine TLs.agL ?_|refine TLs.slL ?_|refine qai ?_ ?_|exact TLs.refl _|fail)));exact rfl;exact rfl)|(apply TO.zay (j:=0) zaa;(iterate 10 exact rfl))|exact trivial|exact⟨⟨rfl,rfl⟩,trivial⟩|refine qai (fun env=>?_) ?_|refine wk ?_|exact wkc|intro hc|refine wk2 ?_ ?_|fail)
  done
 ·repeat' (first|refine wu ?_|exact wkc|intro hc|refine wk2 ?_ ?_|fail)
  exact wkr
section rules
variable {n:Nat}{env env':Env}{H H':Heap}{K:TK}{all:Array Oper}{rest l:List Oper}{d:Nat}{ty:TypeId}{pos:String}{aft:Array Edge}{q:Bool}{st:St}{fr fr':List Fr1}
theorem goB(h:run1 tab n true 300 ⟨.ops q all l,env,H,[]⟩=some ⟨st,env',H',fr'⟩)(hk:GG Tryz.prog n K ⟨st,env',H',fr'⟩):TO q Tryz.prog n all l env H K:=TO.go0 zaa 300 true h hk
theorem zqz{cargs:List SV}{v:SV}{f:Operand}{fid:FuncId}{caps:List SV}{args:Array Operand}{ts:Array TypeId}{vs:List SV}(hs:Pure Tryz.prog fid cargs v)(hd:Nat.ble (d+1) n=true)
  (hf:env.val f=some (.fn fid caps))(ha:env.vals args.toList=some vs)(hl:Les (vs++caps) cargs)(hu:unders 0 cargs=true)(hv:v.under 0=true)
  (k:TO false Tryz.prog n all rest ((d,v)::env) H K):
  TO false Tryz.prog n all (⟨some d,.call { callee:=.value f,args:=args,argTypes:=ts },ty,pos,aft,none⟩::rest) env H K:=TO.zlf hs hd hf ha hl hu hv k
end rules
theorem wma{G Q:Prop}(k:Q)(h:Hold Q->G:=by
  first
  | (intro k;apply goA;exact rfl;(first|apply GG.to|apply GG.stop|apply GG.ex);exact k.p)
  | (intro k;apply goC;exact rfl;(first|apply GG.to|apply GG.stop|apply GG.ex);exact k.p)
  | (intro k;apply goB;exact rfl;(first|apply GG.to|apply GG.stop|apply GG.ex);exact k.p)):G:=h ⟨k⟩
theorem wmk{G Q:Prop}(k:Q)(h:Hold Q->G:=by
  first
  | (intro k;apply TO.want;exact rfl;exact k.p)
  | (intro k;apply TO.add;(iterate 3 exact rfl);exact zqf;exact zqf;exact k.p)
  | (intro k;apply TO.cat;(iterate 3 exact rfl);exact zqf;exact k.p)):G:=h ⟨k⟩
theorem wmv{G Q:Prop}{f:FuncId}{cargs:List SV}{v:SV}(hs:Pure Tryz.prog f cargs v)(k:Q)(h:Pure Tryz.prog f cargs v->Hold Q->G:=by
  intro hs k
  apply zqz;exact hs;(iterate 3 exact rfl);exact zqa;exact rfl;exact rfl;exact k.p):G:=h hs ⟨k⟩
theorem zqC:Tryz.prog.cellsOf 3=1:=by kernel_rfl
theorem zqD:Tryz.prog.cellsOf 9=1:=by kernel_rfl
theorem zra:∃N,Tryz.prog.types.size=N+1:=⟨Tryz.prog.types.size-1,by kernel_rfl⟩
abbrev onV (o:OnC):Value:=.agg #[str o.name,.int .i64 o.t.1,.int .i64 o.tag.1]
theorem zmq:Tryz.prog.cellsOf 140=3:=by kernel_rfl
theorem zpC:Tryz.prog.keyType 140=true:=by kernel_rfl
theorem wf64(t:I64):(Lit.int .i64 t.1).wf=true:=by
 simp only[Lit.wf,qat,decide_eq_true_eq]
 exact⟨t.2.1,t.2.2⟩
theorem zmO(N:Nat){o:OnC}(hs:(⟨o.name.toArray⟩:ByteArray).size≤maxLen):
  (Tryz.prog.keyLits (N+1+1) 140 [str o.name,.int .i64 o.t.1,.int .i64 o.tag.1])=some [.string o.name,.int .i64 o.t.1,.int .i64 o.tag.1]:=by
 have e1:∀c,Tryz.prog.keyLits (N+1) 3 [c]=(match c with| .int q' n=>if q'= .i64/\(Lit.int .i64 n).wf=true then some [.int .i64 n] else none|_=>none):=fun c=>by
  unfold Program.keyLits
  simp only[Tryz.underlying3]
  cases c <;> rfl
 have e2:Tryz.prog.keyLits (N+1) 9 [str o.name]=some [.string o.name]:=by
  unfold Program.keyLits
  simp only[Tryz.underlying9]
  rw[if_pos hs]
 unfold Program.keyLits
 simp only[Tryz.underlying140,zmq]
 simp only[qac,qaf,qbD,List.mapM_nil,zqC,zqD,qb7,List.take,List.drop,e1,e2,wf64]
 simp
theorem zqO{o:OnC}(h:o.name.length≤1000000000):keyOf Tryz.prog 140 (onV o)=some (.string (keyBytes [.string o.name,.int .i64 o.t.1,.int .i64 o.tag.1])):=by
 have hs:(⟨o.name.toArray⟩:ByteArray).size≤maxLen:=by
  show o.name.toArray.size≤maxLen
  simp[maxLen];omega
 have h5:(onV o).formed Tryz.prog 140=true:=by
  simp only[onV,Value.formed,Tryz.underlying140,zmq];rfl
 obtain⟨N,hN⟩:=zra
 rw[keyOf,Tryz.underlying140]
 simp only[zpC,h5,hN,Value.cells,Bool.and_self,if_true,zmO N hs,qaX]
section
variable {n:Nat}{env:Env}{K:TK}{all:Array Oper}{rest:List Oper}{d:Nat}{ty:TypeId}{pos:String}{aft:Array Edge}{H:Heap}{q:Bool}
theorem zo4{o:OnC}{m:M}{v:Value}(h:SRel m (.t (onT o)) v):v=onV o:=by
 cases h with
 | t _ _ h=>
   cases h with
   | ag _ arr hs h1 h=>
     obtain⟨l⟩:=arr
     match l,hs with
     | [a,b,c],_=>
       have ha:=h 0 _ a rfl rfl
       have hb:=h 1 _ b rfl rfl
       have hc:=h 2 _ c rfl rfl
       cases ha;cases hb;cases hc
       rfl
theorem zow(w:World){a:OnC}(ha:a.name.length≤1000000000):(Op.equal 140 (onV a) (onV a)).run Tryz.prog w= .ok true w:=by
 obtain⟨r,hr,hrr⟩:=run_equal_deep (P:=Tryz.prog) w (m:=3) (leB) (by kernel_rfl) (by rw[Tryz.underlying140]) (zqO ha) (zqO ha)
 have hrt:r=true:=hrr.2 rfl
 rw[hr,hrt]
theorem TO.zrr{t':TypeId}{x y:Operand}{a:OnC}(hd:Nat.ble (d+1) n=true)(hx:env.val x=some (.t (onT a)))(hy:env.val y=some (.t (onT a)))(ha:a.name.length≤1000000000)
  (k:TO q Tryz.prog n all rest ((d,.b false)::env) H K):TO q Tryz.prog n all (⟨some d,.binOp .neq 140 x y t',ty,pos,aft,none⟩::rest) env H K:=
 TO.op hd (fun m ac h1 h2 h3=>⟨.bool false,fun w' hw'=>by
  have e1:=zo4 (h3.val hx)
  have e2:=zo4 (h3.val hy)
  have hg:Tryz.prog.eqGuardType Tryz.prog.depth 140=false:=by kernel_rfl
  simp[execOp,e1,e2,eqGuard,hg,Go.binOp,zow w' ha],.t _ _ (.v _)⟩) k
end
set_option maxHeartbeats 8000000 in
theorem zgu (l:List Str) (hb:l.length≤1000000000):Pure Tryz.prog 28 [.t (.sl 1 (l.map T.s)),.t (.sl 1 (l.map T.s))] (.b true):=by
 have hml:(l.map T.s).length=l.length:=qad _
 refine so Tryz.func28 ?_
 repeat' (first|refine wkt ?_|exact wkc|(intro hc;exact absurd rfl hc)|intro hc|refine wk2 ?_ ?_|(apply TO.want;exact rfl)|fail)
 refine TR.zbv l.length (fun _=>True) (fun k=>[(0,.t (.sl 1 (l.map T.s))),(1,.t (.sl 1 (l.map T.s))),(5,.i k)]) (fun _=>[]) trivial (fun k hlt _=>?_) (fun _=>?_)
 ·have hx:=zbW T.s hlt
  generalize l[k]=u at*
  repeat' (first|refine wkt ?_|exact wkc|(intro hc;exact absurd rfl hc)|intro hc|refine wk2 ?_ ?_|(apply TO.want;exact rfl)|fail)
  apply TR.zdz 0 (g:=True) [(_,0,0),(_,0,0),(_,0,0),(_,0,0),(_,0,0),(_,0,0),(_,0,0),(_,0,0),(_,0,0)] [[]] hmix
  case hB=>exact zqm
  case h0=>exact rfl
  case hp=>
   repeat' (first|exact trivial|exact⟨⟨rfl,rfl⟩,trivial⟩|exact qai rfl rfl|refine qai (fun env=>?_) ?_|refine qai ?_ ?_|refine wma ?_|(apply TO.indexAddr zaa;(iterate 8 exact rfl);omega;exact hx)|(apply TO.sne';(iterate 3 exact rfl);(intro hc;exact absurd rfl hc);intro _)|(apply TO.cne;(iterate 3 exact rfl);(intro hc;exact absurd rfl hc);intro _)|refine wmk ?_|fail)
   done
  case hc=>exact rfl
  case hF=>exact rfl
  case hE=>exact rfl
  intro _
  repeat' (first|refine wkt ?_|refine zac.exit ?_|exact wkc|(intro hc;exact absurd rfl hc)|intro hc|refine wk2 ?_ ?_|refine wk ?_|fail)
  exact zac.zb0 hlt trivial
 ·repeat' (first|refine wkt ?_|refine zac.exit ?_|exact wkc|(intro hc;exact absurd rfl hc)|intro hc|refine wk2 ?_ ?_|refine wk ?_|fail)
  exact wkr
set_option maxHeartbeats 8000000 in
theorem zjP (l:List OnC) (hb:l.length≤1000000000) (hn:∀o∈l,o.name.length≤1000000000):Pure Tryz.prog 60 [.t (.sl 3 (l.map onT)),.t (.sl 3 (l.map onT))] (.b true):=by
 have hml:(l.map onT).length=l.length:=qad _
 refine so Tryz.func60 ?_
 repeat' (first|refine wkt ?_|exact wkc|(intro hc;exact absurd rfl hc)|intro hc|refine wk2 ?_ ?_|(apply TO.want;exact rfl)|fail)
 refine TR.zbv l.length (fun _=>True) (fun k=>[(0,.t (.sl 3 (l.map onT))),(1,.t (.sl 3 (l.map onT))),(5,.i k)]) (fun _=>[]) trivial (fun k hlt _=>?_) (fun _=>?_)
 ·have hx:=zbW onT hlt
  have hu:=hn _ (qaz hlt)
  generalize l[k]=u at*
  repeat' (first|refine wkt ?_|exact wkc|(intro hc;exact absurd rfl hc)|intro hc|refine wk2 ?_ ?_|(apply TO.want;exact rfl)|fail)
  apply TR.zdz 0 (g:=True) [(_,0,0),(_,0,0),(_,0,0),(_,0,0),(_,0,0),(_,0,0),(_,0,0),(_,0,0),(_,0,0)] [[]] hmix
  case hB=>exact zqm
  case h0=>exact rfl
  case hp=>
   repeat' (first|exact trivial|exact⟨⟨rfl,rfl⟩,trivial⟩|exact qai rfl rfl|refine qai (fun env=>?_) ?_|refine qai ?_ ?_|refine wma ?_|(apply TO.indexAddr zaa;(iterate 8 exact rfl);omega;exact hx)|(apply TO.zrr (a:=u);(iterate 3 exact rfl);exact hu)|(apply TO.sne';(iterate 3 exact rfl);(intro hc;exact absurd rfl hc);intro _)|(apply TO.cne;(iterate 3 exact rfl);(intro hc;exact absurd rfl hc);intro _)|refine wmk ?_|fail)
   done
  case hc=>exact rfl
  case hF=>exact rfl
  case hE=>exact rfl
  intro _
  repeat' (first|refine wkt ?_|refine zac.exit ?_|exact wkc|(intro hc;exact absurd rfl hc)|intro hc|refine wk2 ?_ ?_|refine wk ?_|fail)
  exact zac.zb0 hlt trivial
 ·repeat' (first|refine wkt ?_|refine zac.exit ?_|exact wkc|(intro hc;exact absurd rfl hc)|intro hc|refine wk2 ?_ ?_|refine wk ?_|fail)
  exact wkr
set_option maxHeartbeats 8000000 in
theorem zdA (l:List Decl) (hb:l.length≤1000000000) (hn:∀d∈l,d.clock.length≤1000000000/\∀o∈d.clock,o.name.length≤1000000000):Pure Tryz.prog 29 [.t (.sl 3 (l.map zag)),.t (.sl 3 (l.map zag))] (.b true):=by
 have hml:(l.map zag).length=l.length:=qad _
 refine so Tryz.func29 ?_
 repeat' (first|refine wkt ?_|exact wkc|(intro hc;exact absurd rfl hc)|intro hc|refine wk2 ?_ ?_|(apply TO.want;exact rfl)|fail)
 refine TR.zbv l.length (fun _=>True) (fun k=>[(0,.t (.sl 3 (l.map zag))),(1,.t (.sl 3 (l.map zag))),(5,.i k)]) (fun _=>[]) trivial (fun k hlt _=>?_) (fun _=>?_)
 ·have hx:=zbW zag hlt
  have hc1:=zjP l[k].clock (hn _ (qaz hlt)).1 (hn _ (qaz hlt)).2
  unfold zag at hx
  clear hn
  generalize l[k]=u at*
  repeat' (first|refine wkt ?_|exact wkc|(intro hc;exact absurd rfl hc)|intro hc|refine wk2 ?_ ?_|(apply TO.want;exact rfl)|fail)
  apply TR.zdz 0 (g:=True) [(_,0,0),(_,0,0),(_,0,0),(_,0,0),(_,0,0),(_,0,0),(_,0,0),(_,0,0),(_,0,0),(_,0,0),(_,0,0),(_,0,0),(_,0,0),(_,0,0),(_,0,0),(_,0,0),(_,0,0),(_,0,0),(_,0,0),(_,0,0),(_,0,0),(_,0,0),(_,0,0),(_,0,0),(_,0,0),(_,0,0),(_,0,0),(_,0,0),(_,0,0),(_,0,0),(_,0,0),(_,0,0),(_,0,0),(_,0,0),(_,0,0),(_,0,0),(_,0,0),(_,0,0)] [[]] hmix
  case hB=>exact zqm
  case h0=>exact rfl
  case hp=>
   repeat' (first|exact trivial|exact⟨⟨rfl,rfl⟩,trivial⟩|exact qai rfl rfl|refine qai (fun env=>?_) ?_|refine qai ?_ ?_|refine wma ?_|(apply TO.indexAddr zaa;(iterate 8 exact rfl);omega;exact hx)|refine wmv hc1 ?_|(apply TO.sne';(iterate 3 exact rfl);(intro hc;exact absurd rfl hc);intro _)|(apply TO.cne;(iterate 3 exact rfl);(intro hc;exact absurd rfl hc);intro _)|refine wmk ?_|fail)
   done
  case hc=>exact rfl
  case hF=>exact rfl
  case hE=>exact rfl
  intro _
  repeat' (first|refine wkt ?_|refine zac.exit ?_|exact wkc|(intro hc;exact absurd rfl hc)|intro hc|refine wk2 ?_ ?_|refine wk ?_|fail)
  exact zac.zb0 hlt trivial
 ·repeat' (first|refine wkt ?_|refine zac.exit ?_|exact wkc|(intro hc;exact absurd rfl hc)|intro hc|refine wk2 ?_ ?_|refine wk ?_|fail)
  exact wkr
set_option maxHeartbeats 8000000 in
theorem zgt (l:List Equ) (hb:l.length≤1000000000) (hn:∀q∈l,q.left.length≤1000000000/\wEx q.right≤1000000000):Pure Tryz.prog 30 [.t (.sl 7 (l.map equT)),.t (.sl 7 (l.map equT))] (.b true):=by
 have hml:(l.map equT).length=l.length:=qad _
 refine so Tryz.func30 ?_
 repeat' (first|refine wkt ?_|exact wkc|(intro hc;exact absurd rfl hc)|intro hc|refine wk2 ?_ ?_|(apply TO.want;exact rfl)|fail)
 refine TR.zbv l.length (fun _=>True) (fun k=>[(0,.t (.sl 7 (l.map equT))),(1,.t (.sl 7 (l.map equT))),(5,.i k)]) (fun _=>[]) trivial (fun k hlt _=>?_) (fun _=>?_)
 ·have hx:=zbW equT hlt
  have hc1:=zcf _ l[k].right (qae _) (hn _ (qaz hlt)).2
  have hc2:=zgu l[k].left (hn _ (qaz hlt)).1
  rw[zao]at hc1
  unfold equT at hx
  unfold exC at hx hc1
  clear hn
  generalize l[k]=u at*
  repeat' (first|refine wkt ?_|exact wkc|(intro hc;exact absurd rfl hc)|intro hc|refine wk2 ?_ ?_|(apply TO.want;exact rfl)|fail)
  apply TR.zdz 0 (g:=True) [(_,0,0),(_,0,0),(_,0,0),(_,0,0),(_,0,0),(_,0,0),(_,0,0),(_,0,0),(_,0,0),(_,0,0),(_,0,0),(_,0,0),(_,0,0),(_,0,0),(_,0,0),(_,0,0),(_,0,0),(_,0,0),(_,0,0),(_,0,0),(_,0,0),(_,0,0),(_,0,0),(_,0,0),(_,0,0),(_,0,0)] [[]] hmix
  case hB=>exact zqm
  case h0=>exact rfl
  case hp=>
   repeat' (first|exact trivial|exact⟨⟨rfl,rfl⟩,trivial⟩|exact qai rfl rfl|refine qai (fun env=>?_) ?_|refine qai ?_ ?_|refine wma ?_|(apply TO.indexAddr zaa;(iterate 8 exact rfl);omega;exact hx)|refine wmv hc1 ?_|refine wmv hc2 ?_|(apply TO.sne';(iterate 3 exact rfl);(intro hc;exact absurd rfl hc);intro _)|(apply TO.cne;(iterate 3 exact rfl);(intro hc;exact absurd rfl hc);intro _)|refine wmk ?_|fail)
   done
  case hc=>exact rfl
  case hF=>exact rfl
  case hE=>exact rfl
  intro _
  repeat' (first|refine wkt ?_|refine zac.exit ?_|exact wkc|(intro hc;exact absurd rfl hc)|intro hc|refine wk2 ?_ ?_|refine wk ?_|fail)
  exact zac.zb0 hlt trivial
 ·repeat' (first|refine wkt ?_|refine zac.exit ?_|exact wkc|(intro hc;exact absurd rfl hc)|intro hc|refine wk2 ?_ ?_|refine wk ?_|fail)
  exact wkr
set_option maxHeartbeats 8000000 in
theorem zgv (l:List Ex) (hb:l.length≤1000000000) (hn:∀e∈l,wEx e≤1000000000):Pure Tryz.prog 32 [.t (.sl 6 (l.map exT)),.t (.sl 6 (l.map exT))] (.b true):=by
 have hml:(l.map exT).length=l.length:=qad _
 refine so Tryz.func32 ?_
 repeat' (first|refine wkt ?_|exact wkc|(intro hc;exact absurd rfl hc)|intro hc|refine wk2 ?_ ?_|(apply TO.want;exact rfl)|fail)
 refine TR.zbv l.length (fun _=>True) (fun k=>[(0,.t (.sl 6 (l.map exT))),(1,.t (.sl 6 (l.map exT))),(5,.i k)]) (fun _=>[]) trivial (fun k hlt _=>?_) (fun _=>?_)
 ·have hx:=zg0 hlt
  have hc1:=zcf _ l[k] (qae _) (hn _ (qaz hlt))
  rw[zao]at hc1
  unfold exC at hx hc1
  clear hn
  generalize l[k]=u at*
  repeat' (first|refine wkt ?_|exact wkc|(intro hc;exact absurd rfl hc)|intro hc|refine wk2 ?_ ?_|(apply TO.want;exact rfl)|fail)
  apply TR.zdz 0 (g:=True) [(_,0,0),(_,0,0),(_,0,0),(_,0,0),(_,0,0),(_,0,0),(_,0,0),(_,0,0),(_,0,0),(_,0,0)] [[]] hmix
  case hB=>exact zqm
  case h0=>exact rfl
  case hp=>
   repeat' (first|exact trivial|exact⟨⟨rfl,rfl⟩,trivial⟩|exact qai rfl rfl|refine qai (fun env=>?_) ?_|refine qai ?_ ?_|refine wma ?_|(apply TO.indexAddr zaa;(iterate 8 exact rfl);omega;exact hx)|refine wmv hc1 ?_|(apply TO.sne';(iterate 3 exact rfl);(intro hc;exact absurd rfl hc);intro _)|(apply TO.cne;(iterate 3 exact rfl);(intro hc;exact absurd rfl hc);intro _)|refine wmk ?_|fail)
   done
  case hc=>exact rfl
  case hF=>exact rfl
  case hE=>exact rfl
  intro _
  repeat' (first|refine wkt ?_|refine zac.exit ?_|exact wkc|(intro hc;exact absurd rfl hc)|intro hc|refine wk2 ?_ ?_|refine wk ?_|fail)
  exact zac.zb0 hlt trivial
 ·repeat' (first|refine wkt ?_|refine zac.exit ?_|exact wkc|(intro hc;exact absurd rfl hc)|intro hc|refine wk2 ?_ ?_|refine wk ?_|fail)
  exact wkr
end Go.Proofs.YtpfnfpaahefdaaaGreat
