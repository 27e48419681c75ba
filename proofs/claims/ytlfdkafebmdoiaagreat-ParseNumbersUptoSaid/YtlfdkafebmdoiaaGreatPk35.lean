import Derived.Test.YtlfdkafebmdoiaaGreatPk28
import Derived.Test.YtlfdkafebmdoiaaGreatPk32
import Derived.Test.YtlfdkafebmdoiaaGreatPk33
import Derived.Test.YtlfdkafebmdoiaaGreatPk34
set_option linter.unusedSimpArgs false
set_option linter.unusedVariables false
namespace Go.Proofs.YtlfdkafebmdoiaaGreat
open Go Go.TL
attribute [local irreducible] TR TO Then InBlock RetK Sound LoopK Kf GG ThenL
set_option maxHeartbeats 8000000 in
theorem sameE_sound:∀(w:Nat) (e:Ex),wEx e≤w->w≤1000000000->Pure Tryz.prog 12 [.t (exT e),.t (exT e)] (.b true)
 | 0,e,h,_=>by have:=wEx_pos e;omega
 | w+1,e,h,hw=>by
   have ih:=sameE_sound w
   have ha:=wEx_args e
   have hml:(e.args.map exT).length=e.args.length:=List.length_map _
   have hi:∀x∈e.args,Pure Tryz.prog 12 [.t (exT x),.t (exT x)] (.b true):=fun x hx=>ih x (by have:=wEx_arg hx;omega) (by omega)
   clear ih
   rw[exT_eq]
   unfold exC
   generalize e.kind=k1 at*
   generalize e.op=k2 at*
   generalize e.t=k3 at*
   generalize e.v=k4 at*
   generalize e.name=k5 at*
   generalize e.args=l at*
   refine so Tryz.func12 ?_
   repeat' (first|refine wkt ?_|exact wkc|(intro hc;exact absurd rfl hc)|intro hc|refine wk2 ?_ ?_|(apply Go.TL.TO.want;exact rfl)|fail)
   refine TR.loopN l.length (fun _=>True) (fun k=>[(2,.cp [T.n k1,T.n k2,T.n k3,T.n k4,T.s k5,T.sl 6 (l.map exT)] 0),(3,.cp [T.n k1,T.n k2,T.n k3,T.n k4,T.s k5,T.sl 6 (l.map exT)] 0),(5,.i k)]) (fun _=>[]) trivial (fun k hlt _=>?_) (fun _=>?_)
   ·have hx:=at_exT hlt
    have hd:=hi _ (List.getElem_mem hlt)
    rw[exT_eq]at hd
    generalize l[k]=x at*
    unfold exC at hx hd
    repeat' (first|refine wkt ?_|exact wkc|intro hc|refine wk2 ?_ ?_|fail)
    refine rgS [.cp [T.n k1,T.n k2,T.n k3,T.n k4,T.s k5,T.sl 6 (l.map exT)] 5,.t (.sl 6 (l.map exT)),.i k,.cp [T.n x.kind,T.n x.op,T.n x.t,T.n x.v,T.s x.name,T.sl 6 (x.args.map exT)] 0,.t (.ag [T.n x.kind,T.n x.op,T.n x.t,T.n x.v,T.s x.name,T.sl 6 (x.args.map exT)]),.cp [T.n k1,T.n k2,T.n k3,T.n k4,T.s k5,T.sl 6 (l.map exT)] 5,.t (.sl 6 (l.map exT)),.i k,.cp [T.n x.kind,T.n x.op,T.n x.t,T.n x.v,T.s x.name,T.sl 6 (x.args.map exT)] 0,.t (.ag [T.n x.kind,T.n x.op,T.n x.t,T.n x.v,T.s x.name,T.sl 6 (x.args.map exT)]),.b true,.b false] ?_ ?_
    ·repeat' (first|refine wkt ?_|refine wv hd ?_|exact trivial|exact⟨⟨rfl,rfl⟩,trivial⟩|refine And.intro (fun env=>?_) ?_|refine wk ?_|exact wkc|intro hc|refine wk2 ?_ ?_|fail)
     done
    ·repeat' (first|refine wu ?_|exact wkc|intro hc|refine wk2 ?_ ?_|fail)
     exact LoopK.nextN hlt trivial
   ·repeat' (first|refine wu ?_|exact wkc|intro hc|refine wk2 ?_ ?_|fail)
    exact wkr
theorem shortP_sound(s:Str):Pure Tryz.prog 7 [.s s] (.b (decide (s.length≤4000))):=by
 by_cases h:s.length≤4000
 ·rw[decide_eq_true h]
  refine so Tryz.func7 ?_
  repeat' (first|refine wu ?_|exact wkc|intro hc|refine wk2 ?_ ?_|fail)
  exact wkr
 ·rw[decide_eq_false h]
  refine so Tryz.func7 ?_
  repeat' (first|refine wu ?_|exact wkc|intro hc|refine wk2 ?_ ?_|fail)
  exact wkr
abbrev tx1:Str:=[110,111,100,101,32,102,40,97,58,32,105,110,116,41,32,114,101,116,117,114,110,115,32,40,120,58,32,105,110,116,41,32,108,101,116,32,120,32,61,32,97,32,45,32,45,49,59,32,116,101,108]
abbrev tk1:List Tok:=[(3,[110,111,100,101],0),(1,[102],5),(4,[40],6),(1,[97],7),(4,[58],8),(3,[105,110,116],10),(4,[41],13),(3,[114,101,116,117,114,110,115],15),(4,[40],23),(1,[120],24),(4,[58],25),(3,[105,110,116],27),(4,[41],30),(3,[108,101,116],32),(1,[120],36),(4,[61],38),(1,[97],40),(4,[45],42),(4,[45],44),(2,[49],45),(4,[59],46),(3,[116,101,108],48)]
theorem sc1:scan tx1=(tk1,0,0):=by
 rw[scan,if_neg (by decide),scanC_eq]
 decide +kernel
abbrev tx2:Str:=[110,111,100,101,32,102,40]
abbrev tk2:List Tok:=[(3,[110,111,100,101],0),(1,[102],5),(4,[40],6)]
theorem sc2:scan tx2=(tk2,0,0):=by
 rw[scan,if_neg (by decide),scanC_eq]
 decide +kernel
abbrev tx3:Str:=[110,111,116,32,97,32,61,32,98]
abbrev tk3:List Tok:=[(3,[110,111,116],0),(1,[97],4),(4,[61],6),(1,[98],8)]
theorem sc3:scan tx3=(tk3,0,0):=by
 rw[scan,if_neg (by decide),scanC_eq]
 decide +kernel
abbrev tx4:Str:=[97,32,61,32,98,32,61,32,99]
abbrev tk4:List Tok:=[(1,[97],0),(4,[61],2),(1,[98],4),(4,[61],6),(1,[99],8)]
theorem sc4:scan tx4=(tk4,0,0):=by
 rw[scan,if_neg (by decide),scanC_eq]
 decide +kernel
abbrev tx5:Str:=[45,49,32,119,104,101,110,32,116,114,117,101,40,99,41]
abbrev tk5:List Tok:=[(4,[45],0),(2,[49],1),(3,[119,104,101,110],3),(3,[116,114,117,101],8),(4,[40],12),(1,[99],13),(4,[41],14)]
theorem sc5:scan tx5=(tk5,0,0):=by
 rw[scan,if_neg (by decide),scanC_eq]
 decide +kernel
theorem noAt{l:List Tok}{s:Str}(h:(l.all fun t=>!decide (t.2.1=s))=true)(es:List En)(j:Nat):(rdr l es).isAt j s=false:=by
 unfold Rd.isAt
 cases hq:(rdr l es).K[j]? with
 | none=>rfl
 | some t=>
   have hm:=List.mem_of_getElem? hq
   obtain⟨u,hu,rfl⟩:=List.mem_map.1 hm
   have:=List.all_eq_true.1 h u hu
   simp only
   rw[show decide (u.2.1=s)=false by simpa using this,Bool.and_false]
theorem noW1:NoW tk1:=⟨noAt (by decide +kernel),noAt (by decide +kernel),noAt (by decide +kernel),noAt (by decide +kernel)⟩
theorem noW2:NoW tk2:=⟨noAt (by decide +kernel),noAt (by decide +kernel),noAt (by decide +kernel),noAt (by decide +kernel)⟩
abbrev lf (k o t v:Int)(s:Str):Ex:=.mk (toI k) (toI o) (toI t) (toI v) s []
abbrev xV:Ex:=.mk (toI 3) (toI 7) (toI 0) (toI 0) [] [lf 2 0 0 0 [97],lf 1 0 2 (-1) []]
abbrev xN:Ex:=.mk (toI 3) (toI 1) (toI 0) (toI 0) [] [.mk (toI 3) (toI 11) (toI 0) (toI 0) [] [lf 2 0 0 0 [97],lf 2 0 0 0 [98]]]
abbrev xW:Ex:=.mk (toI 8) (toI 0) (toI 1) (toI 1) [99] [lf 1 0 2 (-1) []]
abbrev pP:Prog:=⟨[],[⟨[102],[⟨[97],toI 2,[]⟩],[⟨[120],toI 2,[]⟩],[],[⟨[[120]],xV⟩],[],[],[]⟩]⟩
theorem rd1:(rdr tk1 []).program 0= .ok pP 22:=by kernel_rfl
theorem rd2:(rdr tk2 []).program 0= .er 3 5:=by kernel_rfl
theorem rd3:(rdr tk3 []).expr 0= .ok xN 4:=by kernel_rfl
theorem rd4:(rdr tk4 []).expr 0= .ok (.mk (toI 3) (toI 11) (toI 0) (toI 0) [] [lf 2 0 0 0 [97],lf 2 0 0 0 [98]]) 3:=by kernel_rfl
theorem rd5:(rdr tk5 []).expr 0= .ok xW 7:=by kernel_rfl
theorem flat_nil(k o t v:I64)(n:Str):flat (.mk k o t v n [])=[.mk k o t v n []]:=by rw[flat_eq];rfl
theorem flat_cons1(k o t v:I64)(n:Str)(x:Ex):flat (.mk k o t v n [x])= .mk k o t v n [x]::flat x:=by rw[flat_eq];simp[flats,Ex.args]
theorem flat_cons2(k o t v:I64)(n:Str)(x y:Ex):flat (.mk k o t v n [x,y])= .mk k o t v n [x,y]::(flat x++flat y):=by rw[flat_eq];simp[flats,Ex.args]
theorem wx0(k o t v:I64)(n:Str):wEx (.mk k o t v n [])=1:=by rw[wEx_eq];rfl
theorem wx1(k o t v:I64)(n:Str)(x:Ex):wEx (.mk k o t v n [x])=1+wEx x:=by rw[wEx_eq];simp[Ex.args]
theorem wx2(k o t v:I64)(n:Str)(x y:Ex):wEx (.mk k o t v n [x,y])=1+(wEx x+wEx y):=by rw[wEx_eq];simp[Ex.args]
theorem dx0(k o t v:I64)(n:Str):exDepth (.mk k o t v n [])=1:=by rw[exDepth_eq];rfl
theorem dx1(k o t v:I64)(n:Str)(x:Ex):exDepth (.mk k o t v n [x])=(([exDepth x].foldl max 0)+1):=by rw[exDepth_eq];rfl
theorem dx2(k o t v:I64)(n:Str)(x y:Ex):exDepth (.mk k o t v n [x,y])=(([exDepth x,exDepth y].foldl max 0)+1):=by rw[exDepth_eq];rfl
theorem ex3:exprX [] xN=0:=by
 unfold exprX checkX
 simp only[flat_cons1,flat_cons2,flat_nil,wx0,wx1,wx2,dx0,dx1,dx2]
 decide +kernel
theorem ex5:exprX [] xW=0:=by
 unfold exprX checkX
 simp only[flat_cons1,flat_cons2,flat_nil,wx0,wx1,wx2,dx0,dx1,dx2]
 decide +kernel
theorem exV:exprX [] xV=0:=by
 unfold exprX checkX
 simp only[flat_cons1,flat_cons2,flat_nil,wx0,wx1,wx2,dx0,dx1,dx2]
 decide +kernel
theorem eqV:equE [] ⟨[[120]],xV⟩=0:=by unfold equE;rw[show exprX [] (Equ.mk [[120]] xV).right=0 from exV];decide +kernel
theorem ndV:nodeX [] (pP.nodes.headD noN)=(-1,0):=by
 have h:firstE (equE []) (pP.nodes.headD noN).eqs=0:=by show firstE (equE []) [⟨[[120]],xV⟩]=0;unfold firstE;rw[eqV];rfl
 unfold nodeX
 rw[h];decide +kernel
theorem shV:shapeX pP=((0,0),0):=by
 have h:firstE (fun n=>(nodeX pP.enums n).2) pP.nodes=0:=by
  show firstE _ [pP.nodes.headD noN]=0
  unfold firstE
  rw[show nodeX pP.enums (pP.nodes.headD noN)=(-1,0) from ndV];rfl
 unfold shapeX
 rw[h];decide +kernel
theorem pr1:progR tx1=(pP,0,0):=by
 unfold progR
 rw[sc1,if_neg (by decide),rd1]
 simp only
 rw[if_neg (by decide),shV,if_pos rfl]
theorem pr2:progR tx2=(noP,7,5):=by
 unfold progR
 rw[sc2,if_neg (by decide),rd2]
 rfl
theorem pe3:exprP [] tx3=(xN,0,0):=by
 unfold exprP
 rw[sc3,if_neg (by decide),rd3]
 simp only
 rw[if_neg (by decide),if_pos ex3]
theorem pe4:exprP [] tx4=(noE,6,5):=by
 have he:=rd4
 unfold exprP
 rw[sc4,if_neg (by decide),he]
 rfl
theorem pe5:exprP [] tx5=(xW,0,0):=by
 unfold exprP
 rw[sc5,if_neg (by decide),rd5]
 simp only
 rw[if_neg (by decide),if_pos ex5]
theorem exprPk(es:List En)(hes:EsOk es)(s:Str)(hs:s.length≤65536):Pure Tryz.prog 11 [.t (ensT es),.s s] (.tup [.t (exT (exprP es s).1),.i (exprP es s).2.1,.i (exprP es s).2.2]):=by
 refine exprE_sound es s (by omega) (scan_tk s) hes fun e j h=>?_
 unfold Rd.expr at h
 have h1:=pF_w _ _ h
 have h2:=pF_in (R:=rdr (scan s).1 es) (10*(rdr (scan s).1 es).K.length+10) .expr (i:=0) (Nat.zero_le _)
 rw[h,rdr_len]at h2
 have h3:=h2.2
 have h4:=(scan_tk s).len
 omega
end Go.Proofs.YtlfdkafebmdoiaaGreat
namespace Go.TL
open Go
inductive TLs:T->T->Prop
 | refl (t:T):TLs t t
 | nil (sz:Nat):TLs (.v (.slice none 0 0)) (.sl sz [])
 | ag (cs ds:List T) (h:cs.length=ds.length) (hl:∀(i:Nat) c d,cs[i]?=some c->ds[i]?=some d->TLs c d):TLs (.ag cs) (.ag ds)
 | sl (sz:Nat) (cs ds:List T) (h:cs.length=ds.length) (hl:∀(i:Nat) c d,cs[i]?=some c->ds[i]?=some d->TLs c d):TLs (.sl sz cs) (.sl sz ds)
theorem TLs.both{A:Foot}{w:World}{a b:T}(h:TLs a b):(∀x,TRel A w a x->TRel A w b x)/\a.cells.length=b.cells.length/\∀(j:Nat) c d,a.cells[j]?=some c->b.cells[j]?=some d->∀x,TRel A w c x->TRel A w d x:=by
 have one:∀(a b:T),(∀x,TRel A w a x->TRel A w b x)->∀(j:Nat) c d,[a][j]?=some c->[b][j]?=some d->∀x,TRel A w c x->TRel A w d x:=by
  intro a b h j c d hc hd
  cases j with
  | zero=>simp at hc hd;subst hc;subst hd;exact h
  | succ j=>simp at hc
 induction h with
 | refl t=>exact⟨fun _ h=>h,rfl,fun j c d hc hd=>by rw[hc]at hd;cases hd;exact fun _ h=>h⟩
 | nil sz=>
   have h1:∀x,TRel A w (.v (.slice none 0 0)) x->TRel A w (.sl sz []) x:=by intro x h;cases h;exact .nil sz
   exact⟨h1,rfl,one _ _ h1⟩
 | ag cs ds hl _ ih=>
   refine⟨?_,hl,fun j c d hc hd=>(ih j c d hc hd).1⟩
   intro x h
   cases h with
   | ag _ arr hs h1 hr=>
     refine .ag _ _ (by omega) h1 fun i d y hd hy=>?_
     have hi:=(List.getElem?_eq_some_iff.1 hd).1
     have hc:cs[i]?=some (cs[i]'(by omega)):=List.getElem?_eq_getElem _
     exact(ih i _ d hc hd).1 y (hr i _ y hc hy)
 | sl sz cs ds hl _ ih=>
   have h1:∀x,TRel A w (.sl sz cs) x->TRel A w (.sl sz ds) x:=by
    intro x h
    generalize hq:T.sl sz cs=q at h
    cases h with
    | v x=>cases hq
    | ag=>cases hq
    | nil sz'=>cases hq;have:ds=[]:=List.eq_nil_of_length_eq_zero (by simpa using hl.symm);subst this;exact .nil _
    | empty sz' a=>cases hq;have:ds=[]:=List.eq_nil_of_length_eq_zero (by simpa using hl.symm);subst this;exact .empty _ a
    | sl sz' es b off cap f hcap hsz hA hw h1 hr=>
      cases hq
      rw[hl]
      refine .sl sz ds b off cap f (by omega) (fun i d hd=>?_) (by rw[<-hl];exact hA) (by rw[<-hl];exact hw) (by rw[<-hl];exact h1) (fun i d j c' hd hc'=>?_)
      ·have hi:=(List.getElem?_eq_some_iff.1 hd).1
       have hc:cs[i]?=some (cs[i]'(by omega)):=List.getElem?_eq_getElem _
       rw[<-(ih i _ d hc hd).2.1];exact hsz i _ hc
      ·have hi:=(List.getElem?_eq_some_iff.1 hd).1
       have hc:cs[i]?=some (cs[i]'(by omega)):=List.getElem?_eq_getElem _
       have hj:=(List.getElem?_eq_some_iff.1 hc').1
       have hl2:=(ih i _ d hc hd).2.1
       have hcc:(cs[i]'(by omega)).cells[j]?=some ((cs[i]'(by omega)).cells[j]'(by omega)):=List.getElem?_eq_getElem _
       exact(ih i _ d hc hd).2.2 j _ c' hcc hc' _ (hr i _ j _ hc hcc)
   exact⟨h1,rfl,one _ _ h1⟩
theorem Le.treeS{s:SV}{t u:T}(h:s.toT=some t)(k:TLs t u):Le s (.t u):=fun _ _ hx=>.t _ _ (k.both.1 _ (hx.toT h))
def TLss:List T->List T->Prop
 | [],[]=>True
 | a::aas,b::bs=>TLs a b/\TLss aas bs
 | _,_=>False
theorem TLss.get:∀ {cs ds:List T},TLss cs ds->cs.length=ds.length/\∀(i:Nat) c d,cs[i]?=some c->ds[i]?=some d->TLs c d
 | [],[],_=>⟨rfl,by simp⟩
 | a::aas,b::bs,h=>by
   have ih:=TLss.get h.2
   exact⟨by simp[ih.1],fun i c d hc hd=>by cases i with|zero=>simp at hc hd;subst hc;subst hd;exact h.1|succ i=>exact ih.2 i c d (by simpa using hc) (by simpa using hd)⟩
theorem TLs.agL{cs ds:List T}(h:TLss cs ds):TLs (.ag cs) (.ag ds):=.ag _ _ h.get.1 h.get.2
theorem TLs.slL{sz:Nat}{cs ds:List T}(h:TLss cs ds):TLs (.sl sz cs) (.sl sz ds):=.sl _ _ _ h.get.1 h.get.2
end Go.TL
namespace Go.Proofs.YtlfdkafebmdoiaaGreat
open Go Go.TL
attribute [local irreducible] TR TO Then InBlock RetK Sound LoopK Kf GG ThenL
theorem hw1:∀p j,(rdr (scan tx1).1 []).program 0= .ok p j->(T.ag (progC p)).w≤1000000000:=fun p j h=>by
 rw[sc1]at h
 have h2:=rd1.symm.trans h
 cases h2
 show(progT pP).w≤_
 unfold progT nodT equT declT
 simp only[List.map_cons,List.map_nil,exC,Ex.args,exT_mk]
 simp only[w_ag,w_sl,w_s,List.map_cons,List.map_nil,List.sum_cons,List.sum_nil]
 simp only[T.w,strW]
 decide
theorem hw2:∀p j,(rdr (scan tx2).1 []).program 0= .ok p j->(T.ag (progC p)).w≤1000000000:=fun p j h=>by
 rw[sc2]at h
 have h2:=rd2.symm.trans h
 cases h2
theorem pg1:Pure Tryz.prog 9 [.s tx1] (.tup [.t (progT pP),.i 0,.i 0]):=by
 have h:=progE_sound tx1 (by decide) (scan_tk tx1) (by
  have hk:=scan_tk tx1
  rw[sc1]at hk⊢
  refine⟨program_sound' tk1 _ 0 hk (by decide) noW1,?_⟩
  rw[rd1];exact⟨by decide,by decide⟩) hw1
 rw[pr1]at h
 exact h
theorem pg2:Pure Tryz.prog 9 [.s tx2] (.tup [.t (progT noP),.i 7,.i 5]):=by
 have h:=progE_sound tx2 (by decide) (scan_tk tx2) (by
  have hk:=scan_tk tx2
  rw[sc2]at hk⊢
  refine⟨program_sound' tk2 _ 0 hk (by decide) noW2,?_⟩
  rw[rd2];exact⟨by decide,by decide⟩) hw2
 rw[pr2]at h
 exact h
theorem es0:EsOk []:=⟨by decide,fun u hu=>by cases hu⟩
set_option maxHeartbeats 8000000 in
theorem awakeP:Pure Tryz.prog 8 [] (.b true):=by
 have g1:=pg1
 have g2:=pg2
 have g3:=exprPk [] es0 tx3 (by decide)
 have g4:=exprPk [] es0 tx4 (by decide)
 have g5:=exprPk [] es0 tx5 (by decide)
 rw[pe3]at g3
 rw[pe4]at g4
 rw[pe5]at g5
 have s1:=sameE_sound (wEx xV) xV (Nat.le_refl _) (by rw[wx2,wx0,wx0];decide)
 have s2:=sameE_sound (wEx xW) xW (Nat.le_refl _) (by rw[wx1,wx0];decide)
 unfold progT nodT equT declT at g1
 unfold progT at g2
 simp only[List.map_cons,List.map_nil,exC,Ex.args,Ex.kind,Ex.op,Ex.t,Ex.v,Ex.name,exT_mk]at g1 g2 g3 g4 g5 s1 s2
 rw[noET]at g4
 refine so Tryz.func8 ?_
 repeat' (first|refine wkt ?_|refine wv g1 ?_|refine wv g2 ?_|refine wv g3 ?_|refine wv g4 ?_|refine wv g5 ?_|(apply TO.elem_nat (j:=0) tabOk;exact rfl;exact rfl;exact rfl;exact rfl;exact rfl;exact rfl;exact rfl;exact rfl;exact rfl;exact rfl)|exact wkc|intro hc|refine wk2 ?_ ?_|(apply Go.TL.TO.want;exact rfl)|fail)
 refine rgS [.cp [T.sl 2 [],T.sl 8 [.ag [T.s [102],T.sl 3 [T.ag [T.s [97],T.i 2,T.sl 3 []]],T.sl 3 [T.ag [T.s [120],T.i 2,T.sl 3 []]],T.sl 3 [],T.sl 7 [.ag [T.sl 1 [T.s [120]],T.i 3,T.i 7,T.i 0,T.i 0,T.s [],T.sl 6 [.ag [T.i 2,T.i 0,T.i 0,T.i 0,T.s [97],T.sl 6 []],.ag [T.i 1,T.i 0,T.i 2,T.i (-1),T.s [],T.sl 6 []]]]],T.sl 1 [],T.sl 6 [],T.sl 6 []]]] 1,.t (T.sl 8 [.ag [T.s [102],T.sl 3 [T.ag [T.s [97],T.i 2,T.sl 3 []]],T.sl 3 [T.ag [T.s [120],T.i 2,T.sl 3 []]],T.sl 3 [],T.sl 7 [.ag [T.sl 1 [T.s [120]],T.i 3,T.i 7,T.i 0,T.i 0,T.s [],T.sl 6 [.ag [T.i 2,T.i 0,T.i 0,T.i 0,T.s [97],T.sl 6 []],.ag [T.i 1,T.i 0,T.i 2,T.i (-1),T.s [],T.sl 6 []]]]],T.sl 1 [],T.sl 6 [],T.sl 6 []]]),.cp [T.s [102],T.sl 3 [T.ag [T.s [97],T.i 2,T.sl 3 []]],T.sl 3 [T.ag [T.s [120],T.i 2,T.sl 3 []]],T.sl 3 [],T.sl 7 [.ag [T.sl 1 [T.s [120]],T.i 3,T.i 7,T.i 0,T.i 0,T.s [],T.sl 6 [.ag [T.i 2,T.i 0,T.i 0,T.i 0,T.s [97],T.sl 6 []],.ag [T.i 1,T.i 0,T.i 2,T.i (-1),T.s [],T.sl 6 []]]]],T.sl 1 [],T.sl 6 [],T.sl 6 []] 0,.cp [T.s [102],T.sl 3 [T.ag [T.s [97],T.i 2,T.sl 3 []]],T.sl 3 [T.ag [T.s [120],T.i 2,T.sl 3 []]],T.sl 3 [],T.sl 7 [.ag [T.sl 1 [T.s [120]],T.i 3,T.i 7,T.i 0,T.i 0,T.s [],T.sl 6 [.ag [T.i 2,T.i 0,T.i 0,T.i 0,T.s [97],T.sl 6 []],.ag [T.i 1,T.i 0,T.i 2,T.i (-1),T.s [],T.sl 6 []]]]],T.sl 1 [],T.sl 6 [],T.sl 6 []] 4,.t (T.sl 7 [.ag [T.sl 1 [T.s [120]],T.i 3,T.i 7,T.i 0,T.i 0,T.s [],T.sl 6 [.ag [T.i 2,T.i 0,T.i 0,T.i 0,T.s [97],T.sl 6 []],.ag [T.i 1,T.i 0,T.i 2,T.i (-1),T.s [],T.sl 6 []]]]]),.cp [T.sl 1 [T.s [120]],T.i 3,T.i 7,T.i 0,T.i 0,T.s [],T.sl 6 [.ag [T.i 2,T.i 0,T.i 0,T.i 0,T.s [97],T.sl 6 []],.ag [T.i 1,T.i 0,T.i 2,T.i (-1),T.s [],T.sl 6 []]]] 0,.cp [T.sl 1 [T.s [120]],T.i 3,T.i 7,T.i 0,T.i 0,T.s [],T.sl 6 [.ag [T.i 2,T.i 0,T.i 0,T.i 0,T.s [97],T.sl 6 []],.ag [T.i 1,T.i 0,T.i 2,T.i (-1),T.s [],T.sl 6 []]]] 1,.t (.ag [T.i 3,T.i 7,T.i 0,T.i 0,T.s [],T.sl 6 [.ag [T.i 2,T.i 0,T.i 0,T.i 0,T.s [97],T.sl 6 []],.ag [T.i 1,T.i 0,T.i 2,T.i (-1),T.s [],T.sl 6 []]]]),.t (.ag [T.i 3,T.i 7,T.i 0,T.i 0,T.s [],T.sl 6 [.ag [T.i 2,T.i 0,T.i 0,T.i 0,T.s [97],T.v (.slice none 0 0)],.ag [T.i 1,T.i 0,T.i 2,T.i (-1),T.s [],T.v (.slice none 0 0)]]]),.b true,.b true,.cp [T.i 3,T.i 1,T.i 0,T.i 0,T.s [],T.sl 6 [.ag [T.i 3,T.i 11,T.i 0,T.i 0,T.s [],T.sl 6 [.ag [T.i 2,T.i 0,T.i 0,T.i 0,T.s [97],T.sl 6 []],.ag [T.i 2,T.i 0,T.i 0,T.i 0,T.s [98],T.sl 6 []]]]]] 0,.i 3,.b true,.b true,.b true,.cp [T.i 3,T.i 1,T.i 0,T.i 0,T.s [],T.sl 6 [.ag [T.i 3,T.i 11,T.i 0,T.i 0,T.s [],T.sl 6 [.ag [T.i 2,T.i 0,T.i 0,T.i 0,T.s [97],T.sl 6 []],.ag [T.i 2,T.i 0,T.i 0,T.i 0,T.s [98],T.sl 6 []]]]]] 1,.i 1,.b true,.b true,.b true,.t (.ag [T.i 8,T.i 0,T.i 1,T.i 1,T.s [99],T.sl 6 [.ag [T.i 1,T.i 0,T.i 2,T.i (-1),T.s [],T.sl 6 []]]]),.t (.ag [T.i 8,T.i 0,T.i 1,T.i 1,T.s [99],T.sl 6 [.ag [T.i 1,T.i 0,T.i 2,T.i (-1),T.s [],T.v (.slice none 0 0)]]]),.b true,.b true,.b true] ?_ ?_
 ·repeat' (first|refine wkt ?_|(apply TO.callV s1;exact rfl;exact rfl;exact rfl;(refine⟨Le.refl _,Le.treeS rfl ?_,trivial⟩;(repeat' (first|exact trivial|exact TLs.nil _|refine TLs.agL ?_|refine TLs.slL ?_|refine And.intro ?_ ?_|exact TLs.refl _|fail)));exact rfl;exact rfl)|(apply TO.callV s2;exact rfl;exact rfl;exact rfl;(refine⟨Le.refl _,Le.treeS rfl ?_,trivial⟩;(repeat' (first|exact trivial|exact TLs.nil _|refine TLs.agL ?_|refine TLs.slL ?_|refine And.intro ?_ ?_|exact TLs.refl _|fail)));exact rfl;exact rfl)|(apply TO.elem_nat (j:=0) tabOk;exact rfl;exact rfl;exact rfl;exact rfl;exact rfl;exact rfl;exact rfl;exact rfl;exact rfl;exact rfl)|exact trivial|exact⟨⟨rfl,rfl⟩,trivial⟩|refine And.intro (fun env=>?_) ?_|refine wk ?_|exact wkc|intro hc|refine wk2 ?_ ?_|fail)
  done
 ·repeat' (first|refine wu ?_|exact wkc|intro hc|refine wk2 ?_ ?_|fail)
  exact wkr
def dg(n:Nat):UInt8:=UInt8.ofNat (48+n % 10)
def decF:Nat->Nat->Str
 | 0,n=>[dg n]
 | m+1,n=>if n<10 then[dg n] else decF m (n / 10)++[dg n]
theorem dg_nat(n:Nat):(dg n).toNat=48+n % 10:=by
 unfold dg;rw[UInt8.toNat_ofNat'];omega
theorem decF_dig:∀(m n:Nat),∀c∈decF m n,48≤c.toNat/\c.toNat≤57
 | 0,n,c,h=>by
   rw[decF,List.mem_singleton]at h;subst h
   have:=dg_nat n;omega
 | m+1,n,c,h=>by
   rw[decF]at h
   split at h
   ·rw[List.mem_singleton]at h;subst h
    have:=dg_nat n;omega
   ·rcases List.mem_append.1 h with h|h
    ·exact decF_dig m _ c h
    ·rw[List.mem_singleton]at h;subst h
     have:=dg_nat n;omega
theorem decF_num:∀(m n:Nat),n<10 ^ (m+1)->numV (decF m n)=n
 | 0,n,h=>by
   have:=dg_nat n
   show 10*0+(((dg n).toNat:Int)-48)=n
   omega
 | m+1,n,h=>by
   have hd:=dg_nat n
   rw[decF]
   split
   ·show 10*0+(((dg n).toNat:Int)-48)=n
    omega
   ·rw[numV_snoc,decF_num m (n / 10) (by rw[Nat.pow_succ]at h;omega)]
    omega
theorem decF_len:∀(m n:Nat),1≤(decF m n).length/\(decF m n).length≤m+1
 | 0,n=>by simp[decF]
 | m+1,n=>by
   rw[decF]
   split
   ·simp
   ·have:=decF_len m (n / 10)
    rw[List.length_append];simp only[List.length_cons,List.length_nil];omega
theorem decF_head:∀(m n:Nat),n<10 ^ (m+1)->1≤n->∃c r,decF m n=c::r/\c.toNat≠48
 | 0,n,h,h1=>⟨dg n,[],rfl,by have:=dg_nat n;omega⟩
 | m+1,n,h,h1=>by
   rw[decF]
   split
   ·exact⟨dg n,[],rfl,by have:=dg_nat n;omega⟩
   ·obtain⟨c,r,hc,h2⟩:=decF_head m (n / 10) (by rw[Nat.pow_succ]at h;omega) (by omega)
    exact⟨c,r++[dg n],by rw[hc];rfl,h2⟩
theorem decF_short:∀(m n:Nat),n<10->(decF m n).length=1
 | 0,n,_=>rfl
 | m+1,n,h=>by rw[decF,if_pos h];rfl
theorem stopVal_snoc(c:UInt8):∀(l:Str) (n:Int),stopVal n l≤32768->stopVal n (l++[c])=10*stopVal n l+c.toNat-48
 | [],n,h=>by
   have h:n≤32768:=h
   show stopVal n [c]=10*n+c.toNat-48
   simp only[stopVal]
   rw[if_pos h]
 | a::l,n,h=>by
   have e:stopVal n (a::l)=if n≤32768 then stopVal (10*n+a.toNat-48) l else n:=rfl
   have e2:stopVal n (a::l++[c])=if n≤32768 then stopVal (10*n+a.toNat-48) (l++[c]) else n:=rfl
   rw[e]at h⊢
   rw[e2]
   by_cases g:n≤32768
   ·rw[if_pos g]at h⊢
    rw[if_pos g]
    exact stopVal_snoc c l _ h
   ·rw[if_neg g]at h
    exact absurd h g
theorem decF_stop:∀(m n:Nat),n<10 ^ (m+1)->n≤65535->stopVal 0 (decF m n)=n
 | 0,n,h,_=>by
   have:=dg_nat n
   rw[decF];simp only[stopVal];omega
 | m+1,n,h,h2=>by
   have hd:=dg_nat n
   rw[decF]
   split
   ·simp only[stopVal];omega
   ·have ih:=decF_stop m (n / 10) (by rw[Nat.pow_succ]at h;omega) (by omega)
    rw[stopVal_snoc _ _ _ (by omega),ih]
    omega
section rules
variable {n:Nat}{env:Env}{H:Heap}{K:TK}{all:Array Oper}{rest:List Oper}{q:Bool}{d:Nat}{ty:TypeId}{pos:String}{aft:Array Edge}
theorem TO.remK{t t':TypeId}{x:Operand}{a:Nat}(hd:Nat.ble (d+1) n=true)(hx:env.val x=some (.i a))
  (k:TO q Tryz.prog n all rest ((d,.i (a % 10:Nat))::env) H K):TO q Tryz.prog n all (⟨some d,.binOp .rem t x (.const (.int .i64 10)) t',ty,pos,aft,none⟩::rest) env H K:=
 TO.brem (a:=(a:Int)) (b:=10) hd hx rfl (by omega) (by rw[show((a:Int).tmod 10)=((a % 10:Nat):Int) from(Int.ofNat_tmod a 10).symm];exact k)
theorem TO.quoK{t t':TypeId}{x:Operand}{a:Nat}(hd:Nat.ble (d+1) n=true)(hx:env.val x=some (.i a))(ha:a≤1000000000000)
  (k:TO q Tryz.prog n all rest ((d,.i (a / 10:Nat))::env) H K):TO q Tryz.prog n all (⟨some d,.binOp .quo t x (.const (.int .i64 10)) t',ty,pos,aft,none⟩::rest) env H K:=
 TO.bquo (a:=(a:Int)) (b:=10) hd hx rfl (by omega) (by
  rw[show((a:Int).tdiv 10)=((a / 10:Nat):Int) from(Int.ofNat_tdiv a 10).symm,wrap_in (by omega) (by omega)]
  exact k)
end rules
abbrev digs:Str:=[48,49,50,51,52,53,54,55,56,57]
theorem dig_at{k:Nat}(h:k<10):(digs.take (k+1)).drop k=[UInt8.ofNat (48+k)]:=by
 match k,h with
 | 0,_|1,_|2,_|3,_|4,_|5,_|6,_|7,_|8,_|9,_=>rfl
 | k+10,h=>omega
set_option maxHeartbeats 4000000 in
theorem text_sound:∀(m v:Nat),v<10 ^ (m+1)->m≤8->Pure Tryz.prog 13 [.i v] (.s (decF m v))
 | m,v,hv,hm=>by
   have hp:10 ^ (m+1)≤10 ^ 9:=Nat.pow_le_pow_right (by decide) (by omega)
   have hp2:(10:Nat) ^ 9=1000000000:=by decide
   have hr:v % 10<10:=Nat.mod_lt _ (by decide)
   have hda:=dig_at hr
   have hl:digs.length=10:=rfl
   have he:decF m v=if v<10 then[dg v] else decF (m-1) (v / 10)++[dg v]:=by
    cases m with
    | zero=>rw[if_pos (by simpa using hv)];rfl
    | succ m=>rw[decF];rfl
   by_cases h:v<10
   ·rw[he,if_pos h]
    refine so Tryz.func13 ?_
    repeat' (first|refine wkt ?_|(apply TO.remK;exact rfl;exact rfl)|(apply TO.add;exact rfl;exact rfl;exact rfl;omega;omega)|(apply TO.slice2 (a:=v % 10) (b:=v % 10+1) tabOk;exact rfl;exact rfl;exact rfl;exact rfl;exact rfl;exact rfl;omega;(show v % 10+1≤digs.length;omega))|exact wkc|intro hc|refine wk2 ?_ ?_|fail)
    rw[hda]
    repeat' (first|refine wu ?_|exact wkc|intro hc|refine wk2 ?_ ?_|fail)
    exact wkr
   ·rw[he,if_neg h]
    have ih:=text_sound (m-1) (v / 10) (by
     cases m with
     | zero=>simp at hv;omega
     | succ m=>rw[Nat.pow_succ]at hv;show v / 10<10 ^ (m+1);omega) (by omega)
    have hlen:=decF_len (m-1) (v / 10)
    refine so Tryz.func13 ?_
    repeat' (first|refine wkt ?_|(apply TO.remK;exact rfl;exact rfl)|(apply TO.add;exact rfl;exact rfl;exact rfl;omega;omega)|(apply TO.slice2 (a:=v % 10) (b:=v % 10+1) tabOk;exact rfl;exact rfl;exact rfl;exact rfl;exact rfl;exact rfl;omega;(show v % 10+1≤digs.length;omega))|exact wkc|intro hc|refine wk2 ?_ ?_|fail)
    rw[hda]
    repeat' (first|refine wkt ?_|(apply TO.quoK;exact rfl;exact rfl;omega)|refine wv ih ?_|(apply TO.cat;exact rfl;exact rfl;exact rfl;(simp only[List.length_cons,List.length_nil];omega))|exact wkc|intro hc|refine wk2 ?_ ?_|refine wk ?_|fail)
    exact wkr
termination_by m v=>v
theorem up{R:Rd}{m i:Nat}{r:PR Ex}(hp:pF R (m+1) .prim i=r)(h1:R.isAt i [110,111,116]=false)(h2:¬(R.neg i=false/\R.isAt i [45]=true))(h3:¬(R.neg i=false/\R.isAt i [112,114,101]=true))
  (he:∀e j,r= .ok e j->R.K.length≤j):pF R (m+10) .expr i=r:=by
 have p2:pF R (m+2) .unary i=r:=by
  unfold pF
  rw[if_neg h2,if_neg h3,hp]
  cases r with
  | er k c=>rfl
  | ok e j=>exact whens_none (past (he e j rfl) _)
 have p3:pF R (m+3) (.level 6) i=r:=by
  unfold pF
  rw[if_neg (by decide),if_pos rfl,p2]
 have lv:∀k n,k≠2->k≠6->pF R n (.level (k+1)) i=r->pF R (n+1) (.level k) i=r:=fun k n g2 g6 hp=>by
  unfold pF
  rw[if_neg g2,if_neg g6,hp]
  cases r with
  | er k c=>rfl
  | ok e j=>exact ops_none (pastO (he e j rfl) _)
 have p4:=lv 5 _ (by decide) (by decide) p3
 have p5:=lv 4 _ (by decide) (by decide) p4
 have p6:=lv 3 _ (by decide) (by decide) p5
 have p7:pF R (m+7) (.level 2) i=r:=by
  unfold pF
  rw[if_pos rfl,h1,if_neg (by decide),p6]
 have p8:=lv 1 _ (by decide) (by decide) p7
 have p9:=lv 0 _ (by decide) (by decide) p8
 show pF R (m+10) .expr i=_
 unfold pF
 rw[p9]
 cases r with
 | er k c=>rfl
 | ok e j=>
   simp only[PR.bind]
   rw[past (he e j rfl),past (he e j rfl),if_neg (by decide),if_neg (by decide)]
theorem num_stop2(w:Str)(hw:∀c∈w,isDigit c)(h:w.length=1\/∃c r,w=c::r/\c.toNat≠48):
  (decide (5<(w.length:Int)) || ((w.length:Int) == 5 && !(Op.bytesLess w [51,50,55,54,56] || w == [51,50,55,54,56])))=decide (32768<stopVal 0 w):=by
 refine num_stop w hw ?_
 match w,hw,h with
 | [],_,h=>simp
 | c::r,_,h=>
   rcases h with h|⟨c',r',e,hn⟩
   ·have:r=[]:=List.eq_nil_of_length_eq_zero (by simpa using h)
    subst this
    simp
   ·cases e
    simp
    intro _
    omega
theorem decF_lead{v:Nat}(hv:v≤65535):(decF 4 v).length=1\/∃c r,decF 4 v=c::r/\c.toNat≠48:=by
 by_cases h:v<10
 ·exact .inl (decF_short 4 v h)
 ·exact .inr (decF_head 4 v (by omega) (by omega))
theorem numTok_lead{w:Str}(h:w.length=1\/∃c r,w=c::r/\c.toNat≠48):numTok w=if(decide (5<(w.length:Int)) || ((w.length:Int) == 5 && !(Op.bytesLess w [51,50,55,54,56] || w == [51,50,55,54,56])))=true then(0,[],14) else(2,w,0):=by
 unfold numTok
 rw[if_neg]
 match w,h with
 | [],h=>simp
 | c::r,h=>
   rcases h with h|⟨c',r',e,hn⟩
   ·have:r=[]:=List.eq_nil_of_length_eq_zero (by simpa using h)
    subst this
    simp
   ·cases e
    simp
    intro _
    omega
theorem scan_num{v:Nat}(hv:v≤65535):(v≤32768->tokenAt (decF 4 v)=((2,decF 4 v,0),(decF 4 v).length))/\(32768<v->(tokenAt (decF 4 v)).1.2.2=14)/\skipped (decF 4 v)=decF 4 v:=by
 have hd:=decF_dig 4 v
 have hlen:=decF_len 4 v
 have hst:=decF_stop 4 v (by omega) hv
 have hds:∀c∈decF 4 v,isDigit c:=fun c hc=>by have:=hd c hc;unfold isDigit;omega
 have hns:=num_stop2 _ hds (decF_lead hv)
 rw[hst]at hns
 have hnt:numTok (decF 4 v)=if decide (32768<(v:Int))=true then(0,[],14) else(2,decF 4 v,0):=by
  rw[numTok_lead (decF_lead hv),hns]
 have hdg:∀c∈decF 4 v,digit c.toNat=true:=fun c hc=>by
  have:=hd c hc
  unfold digit
  simp only[Bool.and_eq_true,decide_eq_true_eq]
  omega
 have hsp:=spanOf_full hdg
 have htok:tokenAt (decF 4 v)=(numTok (decF 4 v),(decF 4 v).length)/\skipped (decF 4 v)=decF 4 v:=by
  cases hq:decF 4 v with
  | nil=>rw[hq]at hlen;simp at hlen
  | cons c r=>
    rw[hq]at hsp hdg
    obtain⟨f1,f2,f3,f4⟩:=digit_facts (hdg c List.mem_cons_self)
    have f5:=hdg c List.mem_cons_self
    refine⟨?_,skip_not f2 f3⟩
    unfold tokenAt
    simp only
    rw[f1,if_neg (by decide),f5,if_pos rfl,hsp]
 refine⟨fun h=>?_,fun h=>?_,htok.2⟩
 ·rw[htok.1,hnt,decide_eq_false (by omega),if_neg (by decide)]
 ·rw[htok.1,hnt,decide_eq_true (by omega),if_pos rfl]
end Go.Proofs.YtlfdkafebmdoiaaGreat
