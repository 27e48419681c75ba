import Derived.Test.YthmbhfgflijapaaGreatDoorPk38
set_option linter.all false
namespace Go.TL
open Go
inductive TLs:T->T->Prop
 | refl (t:T):TLs t t
 | nil (sz:Nat):TLs (.v (.slice none 0 0)) (.sl sz [])
 | ag (cs ds:List T) (h:cs.length=ds.length) (hl:∀(i:Nat) c d,cs[i]?=some c->ds[i]?=some d->TLs c d):TLs (.ag cs) (.ag ds)
 | sl (sz:Nat) (cs ds:List T) (h:cs.length=ds.length) (hl:∀(i:Nat) c d,cs[i]?=some c->ds[i]?=some d->TLs c d):TLs (.sl sz cs) (.sl sz ds)
theorem TLs.both{A:Foot}{w:World}{a b:T}(h:TLs a b):(∀x,TRel A w a x->TRel A w b x)/\a.cells.length=b.cells.length/\∀(j:Nat) c d,a.cells[j]?=some c->b.cells[j]?=some d->∀x,TRel A w c x->TRel A w d x:=by
 have one:∀(a b:T),(∀x,TRel A w a x->TRel A w b x)->∀(j:Nat) c d,[a][j]?=some c->[b][j]?=some d->∀x,TRel A w c x->TRel A w d x:=by
  intro a b h j c d hc hd
  cases j with
  | zero=>simp at hc hd;subst hc;subst hd;exact h
  | succ j=>simp at hc
 induction h with
 | refl t=>exact⟨fun _ h=>h,rfl,fun j c d hc hd=>by rw[hc]at hd;cases hd;exact fun _ h=>h⟩
 | nil sz=>
   have h1:∀x,TRel A w (.v (.slice none 0 0)) x->TRel A w (.sl sz []) x:=by intro x h;cases h;exact .nil sz
   exact⟨h1,rfl,one _ _ h1⟩
 | ag cs ds hl _ ih=>
   refine⟨?_,hl,fun j c d hc hd=>(ih j c d hc hd).1⟩
   intro x h
   cases h with
   | ag _ arr hs h1 hr=>
     refine .ag _ _ (by omega) h1 fun i d y hd hy=>?_
     have hi:=(qaa.1 hd).1
     have hc:cs[i]?=some (cs[i]'(by omega)):=qac _
     exact(ih i _ d hc hd).1 y (hr i _ y hc hy)
 | sl sz cs ds hl _ ih=>
   have h1:∀x,TRel A w (.sl sz cs) x->TRel A w (.sl sz ds) x:=by
    intro x h
    generalize hq:T.sl sz cs=q at h
    cases h with
    | v x=>cases hq
    | ag=>cases hq
    | nil sz'=>cases hq;have:ds=[]:=qaM (by simpa using hl.symm);subst this;exact .nil _
    | empty sz' a=>cases hq;have:ds=[]:=qaM (by simpa using hl.symm);subst this;exact .empty _ a
    | sl sz' es b off cap f hcap hsz hA hw h1 hr=>
      cases hq
      rw[hl]
      refine .sl sz ds b off cap f (by omega) (fun i d hd=>?_) (by rw[<-hl];exact hA) (by rw[<-hl];exact hw) (by rw[<-hl];exact h1) (fun i d j c' hd hc'=>?_)
      ·have hi:=(qaa.1 hd).1
       have hc:cs[i]?=some (cs[i]'(by omega)):=qac _
       rw[<-(ih i _ d hc hd).2.1];exact hsz i _ hc
      ·have hi:=(qaa.1 hd).1
       have hc:cs[i]?=some (cs[i]'(by omega)):=qac _
       have hj:=(qaa.1 hc').1
       have hl2:=(ih i _ d hc hd).2.1
       have hcc:(cs[i]'(by omega)).cells[j]?=some ((cs[i]'(by omega)).cells[j]'(by omega)):=qac _
       exact(ih i _ d hc hd).2.2 j _ c' hcc hc' _ (hr i _ j _ hc hcc)
   exact⟨h1,rfl,one _ _ h1⟩
theorem Le.zvY{s:SV}{t u:T}(h:s.toT=some t)(k:TLs t u):Le s (.t u):=fun _ _ hx=>.t _ _ (k.both.1 _ (hx.toT h))
def TLss:List T->List T->Prop
 | [],[]=>True
 | a::aas,b::bs=>TLs a b/\TLss aas bs
 | _,_=>False
theorem TLss.get:∀ {cs ds:List T},TLss cs ds->cs.length=ds.length/\∀(i:Nat) c d,cs[i]?=some c->ds[i]?=some d->TLs c d
 | [],[],_=>⟨rfl,by simp⟩
 | a::aas,b::bs,h=>by
   have ih:=TLss.get h.2
   exact⟨by simp[ih.1],fun i c d hc hd=>by cases i with|zero=>simp at hc hd;subst hc;subst hd;exact h.1|succ i=>exact ih.2 i c d (by simpa using hc) (by simpa using hd)⟩
theorem TLs.agL{cs ds:List T}(h:TLss cs ds):TLs (.ag cs) (.ag ds):=.ag _ _ h.get.1 h.get.2
theorem TLs.slL{sz:Nat}{cs ds:List T}(h:TLss cs ds):TLs (.sl sz cs) (.sl sz ds):=.sl _ _ _ h.get.1 h.get.2
end Go.TL
namespace Go.Proofs.YthmbhfgflijapaaGreatDoor
open Go Go.TL
attribute [local irreducible] TR TO Then zag RetK Sound zab Kf GG zaK
def i64(k:Int)(h:-9223372036854775808≤k/\k≤9223372036854775807:=by decide):I64:=⟨k,h⟩
def zpH(p:Prog):Bool:=decide (1500≤wgP 1500 p)
theorem zkA(p:Prog)(hw:(T.ag (za8 p)).w≤100000000):Pure Tryz.prog 4 [.t (.ag (za8 p))] (.b (zpH p)):=by
 have hs:=zra p hw 1500 (by omega) (qae _)
 unfold zpH
 generalize wgP 1500 p=z at*
 unfold za8 at*
 by_cases h:1500≤z
 ·rw[decide_eq_true h]
  exact zwcg
 ·rw[decide_eq_false h]
  exact zwcg
mutual
def zl3:Ex->List Ex
 | .mk k o t v n l=>.mk k o t v n l::zm8 l
def zm8:List Ex->List Ex
 | []=>[]
 | a::l=>zl3 a++zm8 l
end
mutual
def depQ:Ex->Int
 | .mk _ _ _ _ _ l=>zrD l 0+1
def zrD:List Ex->Int->Int
 | [],a=>a
 | x::l,a=>zrD l (max a (depQ x))
end
theorem zpb:∀(m:Nat) (e:Ex),wEx e≤m->flat e=zl3 e/\za1 e=depQ e
 | 0,e,h=>by have:=zb7 e;omega
 | m+1,.mk k o t v n l,h=>by
   have ih:∀a∈l,flat a=zl3 a/\za1 a=depQ a:=fun a ha=>zpb m a (by have:=zcg (e:=.mk k o t v n l) (x:=a) ha;omega)
   have h1:∀l:List Ex,(∀a∈l,flat a=zl3 a)->flats l=zm8 l:=by
    intro l
    induction l with
    | nil=>intro _;rfl
    | cons a l ih=>intro h;rw[zm8,<-ih fun b hb=>h b (by simp[hb]),<-h a (by simp)];simp[flats]
   have h2:∀(l:List Ex) (x:Int),(∀a∈l,za1 a=depQ a)->(l.map za1).foldl max x=zrD l x:=by
    intro l
    induction l with
    | nil=>intro x _;rfl
    | cons a l ih=>intro x h;rw[zrD,qah,qbU,ih _ fun b hb=>h b (by simp[hb]),h a (by simp)]
   refine⟨?_,?_⟩
   ·rw[zbJ,zl3];exact congrArg _ (h1 l fun a ha=>(ih a ha).1)
   ·rw[zfV,depQ];exact congrArg (·+1) (h2 l 0 fun a ha=>(ih a ha).2)
theorem zm7(e:Ex):flat e=zl3 e:=(zpb _ e (qae _)).1
theorem zvc(e:Ex):za1 e=depQ e:=(zpb _ e (qae _)).2
theorem zuK(e:Ex):wEx e=(zl3 e).length:=by rw[<-zm7,zjl]
def aA:Ex:=.mk (i64 2) (i64 0) (i64 0) (i64 0) [97] []
def aNot:Ex:=.mk (i64 3) (i64 1) (i64 0) (i64 0) [] [aA]
def aN:Nod:=⟨[102],[⟨[97],i64 1,[]⟩],[⟨[98],i64 1,[]⟩],[],[⟨[[98]],aNot⟩],[],[],[]⟩
def aP:Prog:=⟨[],[aN]⟩
def aOne(v:Int)(h:-9223372036854775808≤v/\v≤9223372036854775807:=by decide):Ex:=.mk (i64 1) (i64 0) (i64 2) (i64 v h) [] []
def aMul:Ex:=.mk (i64 3) (i64 8) (i64 0) (i64 0) [] [aA,aOne (-2)]
def aAdd:Ex:=.mk (i64 3) (i64 6) (i64 0) (i64 0) [] [aOne 1,aMul]
def aCk:List OnC:=[⟨[97],i64 1,i64 1⟩,⟨[98],i64 2,i64 0⟩]
def tx1:Str:=[110,111,100,101,32,102,40,97,58,32,98,111,111,108,41,32,114,101,116,117,114,110,115,32,40,98,58,32,98,111,111,108,41,10,108,101,116,10,32,32,98,32,61,32,110,111,116,32,97,59,10,116,101,108,10]
def tx2:Str:=[49,32,43,32,40,97,32,42,32,40,45,50,41,41]
def tx3:Str:=[119,104,101,110,32,116,114,117,101,40,97,41,32,119,104,101,110,32,48,40,98,41]
theorem ztv:za7 aP=((0,0),0):=by
 delta za7 zcu equE zqR za4 zd5
 simp only[zm7,zvc,zuK]
 decide +kernel
theorem zuT:zhV aP=(tx1,0):=by
 unfold zhV
 rw[ztv]
 have:zk5 aP=tx1:=by decide +kernel
 rw[this];rfl
theorem it1:Go.Lib.itoa 1=[49]:=by unfold Go.Lib.itoa;rw[if_neg (by decide),Go.Lib.decDigits];rfl
theorem it0:Go.Lib.itoa 0=[48]:=by unfold Go.Lib.itoa;rw[if_neg (by decide),Go.Lib.decDigits];rfl
theorem it2:Go.Lib.itoa (-2)=[45,50]:=by unfold Go.Lib.itoa;rw[if_pos (by decide),Go.Lib.decDigits];rfl
theorem zuS:zmx [] aAdd=(tx2,0):=by
 have h:za4 [] aAdd=0:=by
  delta za4 zd5
  simp only[zm7,zvc,zuK]
  decide +kernel
 have h1:valS [] 2 1=[49]:=it1
 have h2:valS [] 2 (-2)=[45,50]:=it2
 have:shF [] 400 aAdd=valS [] 2 1++[32]++[43]++[32]++([40]++([97]++[32]++[42]++[32]++([40]++valS [] 2 (-2)++[41]))++[41]):=rfl
 unfold zmx
 rw[if_pos h,this,h1,h2]
 rfl
theorem ztu:zld [] aCk=(tx3,0):=by
 have h2:valS [] 2 0=[48]:=it0
 have:zfj [] aCk=tx3:=by
  show Go.Lib.join [[119,104,101,110,32]++valS [] 1 1++[40]++[97]++[41],[119,104,101,110,32]++valS [] 2 0++[40]++[98]++[41]] [32]=_
  rw[h2]
  decide +kernel
 unfold zld
 rw[this]
 decide +kernel
theorem wvN{G Q:Prop}{f:FuncId}{cargs:List SV}{v:SV}(hs:Pure Tryz.prog f cargs v)(k:Q)(h:Pure Tryz.prog f cargs v->Hold Q->G:=by
  intro hs k
  (apply zsM;exact hs;(iterate 3 exact rfl);(repeat' (first|exact trivial|exact Le.refl _|exact Le.nil _|refine qai ?_ ?_|refine Le.zvY rfl ?_|exact TLs.nil _|refine TLs.agL ?_|refine TLs.slL ?_|exact TLs.refl _|fail));exact rfl;exact rfl;exact k.p)):G:=h hs ⟨k⟩
theorem zq6(s:Str):Pure Tryz.prog 11 [.s s] (.t (.ag [T.i 2,T.i 0,T.i 0,T.i 0,T.s s,.sl 6 []])):=by
 refine so Tryz.func11 ?_
 repeat' (first|refine wu ?_|exact wkc|intro hc|refine wk2 ?_ ?_|fail)
 exact zwbx
theorem zp3(n:Int):Pure Tryz.prog 13 [.i n] (.t (.ag [T.i 1,T.i 0,T.i 2,T.i n,T.s [],.sl 6 []])):=by
 refine so Tryz.func13 ?_
 repeat' (first|refine wu ?_|exact wkc|intro hc|refine wk2 ?_ ?_|fail)
 exact zwbx
theorem aP_C:za8 aP=[.sl 2 [],.sl 8 [.ag [.s [102],.sl 3 [.ag [.s [97],T.i 1,.sl 3 []]],.sl 3 [.ag [.s [98],T.i 1,.sl 3 []]],.sl 3 [],.sl 7 [.ag [.sl 1 [.s [98]],T.i 3,T.i 1,T.i 0,T.i 0,.s [],.sl 6 [.ag [T.i 2,T.i 0,T.i 0,T.i 0,.s [97],.sl 6 []]]]],.sl 1 [],.sl 6 [],.sl 6 []]]]:=by
 show[T.sl 2 [],T.sl 8 [.ag [.s [102],.sl 3 [.ag [.s [97],T.i 1,.sl 3 []]],.sl 3 [.ag [.s [98],T.i 1,.sl 3 []]],.sl 3 [],.sl 7 [.ag [.sl 1 [.s [98]],T.i 3,T.i 1,T.i 0,T.i 0,.s [],.sl 6 [exT aA]]],.sl 1 [],.sl 6 [],.sl 6 []]]]=_
 rw[zae]
 rfl
theorem zuR:exC aAdd=[T.i 3,T.i 6,T.i 0,T.i 0,.s [],.sl 6 [.ag [T.i 1,T.i 0,T.i 2,T.i 1,.s [],.sl 6 []],.ag [T.i 3,T.i 8,T.i 0,T.i 0,.s [],.sl 6 [.ag [T.i 2,T.i 0,T.i 0,T.i 0,.s [97],.sl 6 []],.ag [T.i 1,T.i 0,T.i 2,T.i (-2),.s [],.sl 6 []]]]]]:=by
 show[_,_,_,_,_,T.sl 6 [exT (aOne 1),exT aMul]]=_
 rw[zae,zae,show exC aMul=[T.i 3,T.i 8,T.i 0,T.i 0,.s [],.sl 6 [exT aA,exT (aOne (-2))]] from rfl,zae,zae]
 rfl
theorem aP_w:(T.ag (za8 aP)).w≤2000:=by
 rw[aP_C]
 simp[w_ag,w_sl,T.w]
 decide +kernel
set_option maxHeartbeats 8000000 in
theorem zuZ:Pure Tryz.prog 5 [] (.b true):=by
 have c1:=zeU aP (qaq aP_w (by decide)) fun h=>zqF (zs2 h) (qaq aP_w (by decide))
 rw[zuT,aP_C]at c1
 have hE:ShE []:=⟨qaJ _,fun u hu=>(by cases hu),fun u hu=>(by cases hu)⟩
 have c2:=zhU hE aAdd (by rw[zuK];decide) (by rw[zm7];decide)
 rw[zuS,zuR]at c2
 have c3:=zmw hE aCk (by decide) (by decide)
 rw[ztu]at c3
 have v1:=zq6 [97]
 have n1:=zp3 (-2)
 have n2:=zp3 1
 refine so Tryz.func5 ?_
 repeat' (first|refine wkb ?_|refine wv v1 ?_|refine wv n1 ?_|refine zqi ?_|refine wvN c1 ?_|exact wkc|intro hc|refine wk2 ?_ ?_|(apply TO.want;exact rfl)|fail)
 trace_state
 apply rgS [_,_,_,_,_,_,_,_,_,_] (hE:=?hE)
 case hp=>
  repeat' (first|refine qai (fun env=>?_) ?_|refine wma ?_|refine wmv n2 ?_|refine wvN c2 ?_|exact trivial|exact⟨⟨rfl,rfl⟩,trivial⟩|refine wmk ?_|fail)
  done
 case hE=>exact rfl
 case hK=>
  repeat' (first|refine wu ?_|exact wkc|intro hc|refine wk2 ?_ ?_|refine wvN c3 ?_|fail)
  exact wkr
theorem zuX{p:Prog}(hw:(T.ag (za8 p)).w≤2200000)(h:(za7 p).2=0):ShPr p:=zqF (zs2 h) hw
theorem zrF{es:List En}(hw:(ensT es).w≤2200000):ShE es:=by
 have h0:(ensT es).w=(T.sl 2 (es.map enT)).w:=rfl
 have h1:=zaB enT 2 es
 refine⟨by omega,fun u hu=>?_,fun u hu t ht=>?_⟩
 ·exact zwbh
 ·have h2:=zaN (f:=enT) (sz:=2) hu
  rw[show enT u= .ag [.s u.name,.sl 1 (u.tags.map T.s)] from rfl,w_ag]at h2
  simp only[qah,qaC,qay,qaQ]at h2
  have h3:=zaN (f:=T.s) (sz:=1) ht
  rw[w_s]at h3
  omega
theorem ziJ:∀(m:Nat) (e:Ex),wEx e≤m->∀x∈flat e,x.name.length≤(exT e).w
 | 0,e,h=>by have:=zb7 e;omega
 | m+1,e,h=>by
   intro x hx
   have he:(exT e).w=(T.ag (exC e)).w:=by rw[zae]
   have h1:e.name.length+(T.sl 6 (e.args.map exT)).w≤(exT e).w:=by
    exact zwdw
   rw[zbJ]at hx
   rcases qa2.1 hx with rfl|hx
   ·omega
   ·unfold flats at hx
    obtain⟨l,hl,hxl⟩:=qbx.1 hx
    obtain⟨y,hy,rfl⟩:=qaP.1 hl
    have:=ziJ m y (by have:=zcg hy;omega) x hxl
    have:=zaN (f:=exT) (sz:=6) hy
    omega
theorem zhs{α:Type}(g:α->Str):∀ {l:List α} {x:α},x∈l->(g x).length≤(zaj g l).length
 | y::l,x,h=>by
   have h1:zaj g (y::l)=g y++zaj g l:=rfl
   rw[h1,qad]
   rcases qa2.1 h with rfl|h
   ·omega
   ·have:=zhs g h;omega
theorem zqv{p:Prog}{n:Nod}(hn:n∈p.nodes){u:Equ}(hu:u∈n.eqs):(shF p.enums 400 u.right).length≤(zk5 p).length:=by
 have h1:=zhs (zbt p.enums) hn
 have h2:=zhs (zch p.enums 1) hu
 have h3:(shF p.enums 400 u.right).length≤(zch p.enums 1 u).length:=by
  unfold zch za3
  simp only[qad]
  omega
 have h4:(zaj (zch p.enums 1) n.eqs).length≤(zbt p.enums n).length:=by
  unfold zbt
  simp only[qad]
  omega
 unfold zk5
 rw[qad]
 omega
theorem zus{p:Prog}{n:Nod}(hn:n∈p.nodes){u:Equ}(hu:u∈n.eqs):(exT u.right).w≤(T.ag (za8 p)).w:=by
 have h1:=zji u
 have h2:=zaN (f:=equT) (sz:=7) hu
 have h3:=zlu n
 have h4:=zaN (f:=nodT) (sz:=8) hn
 have h5:(zbB p.nodes).w=(T.sl 8 (p.nodes.map nodT)).w:=rfl
 have h6:(T.sl 2 (p.enums.map enT)).w+(zbB p.nodes).w≤(T.ag (za8 p)).w:=by rw[w_ag];simp only[za8,qah,qaC,qay,qaQ];omega
 omega
theorem ztS(p:Prog):(ensT p.enums).w≤(T.ag (za8 p)).w:=by
 have h5:(ensT p.enums).w=(T.sl 2 (p.enums.map enT)).w:=rfl
 rw[h5,w_ag];simp only[za8,qah,qaC,qay,qaQ];omega
def ziV(p:Prog):Bool:=decide ((zdE p).2=0) && decide ((zhV p).2=0) && decide ((zhV p).1.length≤65536)
structure Piece (es:List En) (e:Ex):Prop where
 show_:zmx es e=(shF es 400 e,0)
 read:zfX es (shF es 400 e)=(e,0,0)
theorem pieces{p:Prog}(h:ziV p=true){n:Nod}(hn:n∈p.nodes){u:Equ}(hu:u∈n.eqs):Piece p.enums u.right/\(shF p.enums 400 u.right).length≤65536:=by
 unfold ziV at h
 simp only[qau,decide_eq_true_eq]at h
 obtain⟨⟨h1,h2⟩,h3⟩:=h
 obtain⟨h4,h5⟩:=zms h1 hn hu
 have h6:(za7 p).2=0:=(zf8 h1).1
 unfold zhV at h3
 rw[if_pos h6]at h3
 have h7:=zqv hn hu
 exact⟨⟨by unfold zmx;rw[if_pos h4],zsb (zhQ h1).1 h4 h5 (qaq h7 h3)⟩,qaq h7 h3⟩
theorem zvJ{es:List En}{s:Str}{e:Ex}(h:zfX es s=(e,0,0)){f:Ex}{j:Nat}(hf:(rdr (scan s).1 es).expr 0= .ok f j):f=e:=by
 unfold zfX at h
 split at h
 ·exact zwez
 ·rw[hf]at h
  simp only at h
  split at h
  ·injection h with _ h;injection h with _ h;exact absurd h (by decide)
  ·split at h
   ·injection h
   ·exact zwez
end Go.Proofs.YthmbhfgflijapaaGreatDoor
namespace Go.Proofs.YthmbhfgflijapaaGreatDoor
open Go Go.TL
attribute [local irreducible] TR TO Then zag RetK Sound zab Kf GG zaK
theorem zhl(n q c:Int)(a b d:SV)(Hr:Heap)(hb:zaa (Hr.length+2) Hr=true):
  zcj Tryz.prog 35 [.ref 0 0,.ref 1 0] (.cells [a,b]:: .cells [d]::Hr) (some (zcp n q c)) (fun H3=>H3= .cells [.i n,.i q]:: .cells [.i c]::Hr):=by
 refine zcj.of (tab:=tab) Tryz.func35 (by kernel_rfl) rfl rfl rfl rfl ?_
 repeat' (first|refine wu ?_|exact wkc|intro hc|refine wk2 ?_ ?_|(apply TO.zg7 zaf;(iterate 4 exact rfl))|fail)
 refine Then.normal ?_
 repeat' (first|refine wkt ?_|fail)
 refine TR.zjC (envF:=?envF) (HF:=.cells [.i n,.i q]:: .cells [.i c]::Hr) [(.cp [T.i n,T.i q,T.i c] 0,false),(.t (.ag [T.i n,T.i q]),false),(.cp [T.i n,T.i q,T.i c] 2,false),(.i c,false),(.any,true),(.any,true)] [.cells [a,b]:: .cells [d]::Hr,.cells [.i n,.i q]:: .cells [d]::Hr,.cells [.i n,.i q]:: .cells [.i c]::Hr] hmix ?hB ?h0 ?hp ?hF ?hE ?hK
 case hB=>(dsimp only[List.map];decide +kernel)
 case h0=>exact rfl
 case hF=>exact rfl
 case hE=>exact rfl
 case hp=>repeat' (first|refine wu ?_|exact trivial|exact qai rfl rfl|refine qai (fun H env=>?_) ?_|refine qai (fun env=>?_) ?_|fail)
 repeat' (first|refine wu ?_|exact wkc|intro hc|refine wk2 ?_ ?_|fail)
 have ht:(Blk.cells [.i n,.i q]::Blk.cells [.i c]::Hr).take (Blk.cells [a,b]::Blk.cells [d]::Hr).length=Blk.cells [.i n,.i q]::Blk.cells [.i c]::Hr:=by simp
 refine⟨qae _,?_,ht⟩
 show zaa _ (List.take _ (Blk.cells [.i n,.i q]::Blk.cells [.i c]::Hr))=true
 rw[ht]
 exact hb
theorem zlS(H:Heap)(hb:zaa H.length H=true):
  zcj Tryz.prog 35 [.ref 0 0,.ref 1 0] H none (fun H3=>H3=H):=by
 refine zcj.of (tab:=tab) Tryz.func35 (by kernel_rfl) rfl rfl rfl rfl ?_
 repeat' (first|refine wu ?_|exact wkc|intro hc|refine wk2 ?_ ?_|(apply TO.ziy zaf;(iterate 4 exact rfl))|fail)
 refine Then.normal ?_
 repeat' (first|refine wu ?_|exact wkc|intro hc|refine wk2 ?_ ?_|fail)
 exact⟨qae _,by rw[qaI (qae _)];exact hb,qaI (qae _)⟩
theorem Hands.twoC{G:Heap}{i j:Nat}{b c:Blk}(hij:Nat.beq i j=false)(h1:G[i]?=some (b.ren (names [i,j] G.length)))(h2:G[j]?=some (c.ren (names [i,j] G.length)))(hb:b.under 2=true)(hc:c.under 2=true):Hands G [i,j] [b,c] where
 nodup:=by
  have:i≠j:=fun e=>by rw[e]at hij;simp at hij
  simp[this]
 lt:=fun x hx=>by
  simp at hx
  rcases hx with rfl|rfl
  ·exact(qaa.1 h1).1
  ·exact(qaa.1 h2).1
 len:=rfl
 H:=fun a x y ha hy=>by
  match a with
  | 0=>simp at ha hy;subst ha hy;exact h1
  | 1=>simp at ha hy;subst ha hy;exact h2
  | a+2=>simp at ha
 under:=fun a y hy=>by
  match a with
  | 0=>simp at hy;subst hy;exact hb
  | 1=>simp at hy;subst hy;exact hc
  | a+2=>simp at hy
theorem we32{G Q1 Q2:Prop}{f:FuncId}{cargs:List SV}{v pv:SV}{c:Int}{Hc H1:Heap}(hs:Sound Tryz.prog f cargs Hc (Err c v pv H1))(k1:Q1)(k2:Q2)(h:Sound Tryz.prog f cargs Hc (Err c v pv H1)->Hold Q1->Hold Q2->G:=by
  intro hs k1 k2
  (apply TO.zkf [3,2] hs;(iterate 3 exact rfl);exact zqa;exact rfl;exact Go.Proofs.YthmbhfgflijapaaGreatDoor.Hands.twoC rfl rfl rfl rfl rfl;(iterate 4 exact rfl);exact k1.p;exact k2.p)):G:=h hs ⟨k1⟩ ⟨k2⟩
theorem zvU{u:En}:u.name.length≤(enT u).w/\(∀s∈u.tags,s.length≤(enT u).w)/\u.tags.length≤(enT u).w:=by
 rw[enT,w_ag];simp only[qah,qaC,qay,qaQ,w_s]
 refine⟨by omega,fun s hs=>?_,?_⟩
 ·have:=zaN (f:=T.s) (sz:=1) hs;rw[w_s]at this;omega
 ·have:=zaB T.s 1 u.tags;omega
theorem ztx{p:Prog}{st:List (Int×Str×Int)}(h:zaW st/\zcl p st){k v:Int}{s:Str}(hk:0≤k/\k≤2)(h1:k≠1)(hs:s.length≤1000000000)(hz:(addF st (k,s,v)).2=0):zaW (addF st (k,s,v)).1/\zcl p (addF st (k,s,v)).1:=by
 have hn:zaD st k s=none:=by
  unfold addF at hz
  cases hg:zaD st k s with
  | none=>rfl
  | some w=>simp[hg]at hz
 exact⟨h.1.add hk hs hn,h.2.add' h1⟩
theorem ztk{p:Prog}{u:En}(ht:∀s∈u.tags,s.length≤1000000000){i:Int}{st:List (Int×Str×Int)}(h:zaW st/\zcl p st)(j:Nat)(hz:(zai addF st ((zes u i).take j)).2=0):zaW (zai addF st ((zes u i).take j)).1/\zcl p (zai addF st ((zes u i).take j)).1:=by
 refine zbS (f:=addF) (G:=fun _ st=>zaW st/\zcl p st) (w:=fun _=>0) _ (fun B a x hx h hz=>?_) 0 st h hz
 obtain⟨s,hs,rfl⟩:=qaP.1 (qaN hx)
 exact ztx h (by decide) (by decide) (ht s hs) hz
theorem zsS(st:List (Int×Str×Int))(u:En)(k:Nat):enF st (u,k)=if(addF st (2,u.name,(k:Int))).2=0 then zai addF (addF st (2,u.name,(k:Int))).1 (zes u k) else addF st (2,u.name,(k:Int)):=rfl
theorem enOk{p:Prog}{u:En}(ht:∀s∈u.tags,s.length≤1000000000)(hn:u.name.length≤1000000000){k:Nat}{st:List (Int×Str×Int)}(h:zaW st/\zcl p st)(hz:(enF st (u,k)).2=0):zaW (enF st (u,k)).1/\zcl p (enF st (u,k)).1:=by
 rw[zsS]at hz⊢
 split at hz
 ·rename_i h0
  rw[if_pos h0]
  have:=ztk (p:=p) ht (i:=k) (ztx h (by decide) (by decide) hn h0) (zes u k).length (by rw[qap];exact hz)
  rw[qap]at this
  exact this
 ·rename_i h0;exact absurd hz h0
theorem zvd{p:Prog}(ht:∀u∈p.enums,u.name.length≤1000000000/\∀s∈u.tags,s.length≤1000000000)(k:Nat)(hz:(zai enF [] (p.enums.zipIdx.take k)).2=0):zaW (zai enF [] (p.enums.zipIdx.take k)).1/\zcl p (zai enF [] (p.enums.zipIdx.take k)).1:=by
 refine zbS (f:=enF) (G:=fun _ st=>zaW st/\zcl p st) (w:=fun _=>0) _ (fun B a x hx h hz=>?_) 0 [] ⟨zaW.nil,fun s i h=>by simp[zaD]at h⟩ hz
 have hm:=(List.mem_zipIdx (qaN hx)).2.2
 obtain⟨u,k⟩:=x
 have hu:u∈p.enums:=by simp only at hm;rw[hm];exact qaf _
 exact enOk (ht u hu).2 (ht u hu).1 h hz
theorem zvy{p:Prog}(ht:∀u∈p.nodes,u.name.length≤1000000000){st:List (Int×Str×Int)}(h:zaW st/\zcl p st)(k:Nat)(hz:(zai (nodF p) st (p.nodes.zipIdx.take k)).2=0):zaW (zai (nodF p) st (p.nodes.zipIdx.take k)).1/\zcl p (zai (nodF p) st (p.nodes.zipIdx.take k)).1:=by
 refine zbS (f:=nodF p) (G:=fun _ st=>zaW st/\zcl p st) (w:=fun _=>0) _ (fun B a x hx h hz=>?_) 0 st h hz
 have hm:=List.mem_zipIdx (qaN hx)
 obtain⟨u,k⟩:=x
 have hu:u∈p.nodes:=by have:=hm.2.2;simp only at this;rw[this];exact qaf _
 have hk:k<p.nodes.length:=by have:=hm.2.1;simp only at this;omega
 have hn:zaD a 1 u.name=none:=by
  unfold nodF zcZ at hz
  cases hg:zaD a 1 u.name with
  | none=>rfl
  | some w=>rw[hg]at hz;simp at hz
 exact⟨h.1.add (by decide) (ht u hu) hn,h.2.add hk⟩
abbrev lk3 (p:Prog)(n q:Int):Blk:=.cells [.t (.sl 2 (p.enums.map enT)),.t (zbB p.nodes),.i n,.i q,.mp 2]
theorem zgz.ret{P:Program}{n:Nat}{c:Code}{K KD:TK}{gf:FuncId}{cv:List SV}{env:_}{H:Heap}(h:K .ret env H):zgz P n c K gf cv KD .ret env H:=h
theorem zgz.normal{P:Program}{n:Nat}{c:Code}{K KD:TK}{gf:FuncId}{cv:List SV}{env:_}{H:Heap}(h:TD P n c env H K gf cv KD):zgz P n c K gf cv KD .normal env H:=h
attribute [local irreducible] TD zgz
set_option maxHeartbeats 2000000 in
theorem zla (p:Prog) (hw:(T.ag (za8 p)).w≤100000000):Pure Tryz.prog 15 [.t (.ag (za8 p))] (.tup [.t (.ag [T.i (zdE p).1.1,T.i (zdE p).1.2]),.i (zdE p).2]):=by
 have l1:(T.sl 2 (p.enums.map enT)).w+(zbB p.nodes).w≤(T.ag (za8 p)).w:=by rw[w_ag];simp only[za8,qah,qaC,qay,qaQ];omega
 have hnT:(zbB p.nodes).w=(T.sl 8 (p.nodes.map nodT)).w:=rfl
 have b1:=zaB enT 2 p.enums
 have b2:=zaB nodT 8 p.nodes
 have m1:(p.enums.map enT).length=p.enums.length:=qab _
 have m2:(p.nodes.map nodT).length=p.nodes.length:=qab _
 have hsh:=zgt p (by omega)
 have hz:zdE p=zdE p:=rfl
 conv at hz=>rhs;unfold zdE
 generalize zdE p=z at hz⊢
 have hpc:za8 p=[.sl 2 (p.enums.map enT),zbB p.nodes]:=rfl
 rw[hpc]at hsh⊢
 have hsn:=zhT (p:=p)
 generalize za7 p=sx at*
 obtain⟨⟨s1,s2⟩,s3⟩:=sx
 simp only at hz hsh hsn
 refine Sound.ze6 zaf Tryz.func15 (by kernel_rfl) rfl rfl (gf:=35) (cv:=[.ref 0 0,.ref 1 0]) ?_
 refine TD.seq ?_
 repeat' (first|refine wu ?_|fail)
 refine zgz.normal ?_
 refine TD.seq ?_
 refine wk ?_
 repeat' (first|refine wu ?_|exact wkc|intro hc|refine wk2 ?_ ?_|refine wv hsh ?_|fail)
 ·refine zgz.ret ?_
  rw[if_pos (by simpa using hc)]at hz
  subst hz
  exact wkr
 rw[if_neg (by simpa using hc)]at hz
 have hz0:s3=0:=by simpa using hc
 have hsn:=hsn hz0
 refine zgz.normal ?_
 refine TD.defer (tz:=0) rfl rfl ?_
 repeat' (first|refine wu ?_|exact wkc|intro hc|refine wk2 ?_ ?_|fail)
 have hze:p.enums.zipIdx.length=p.enums.length:=by simp
 have hzn:p.nodes.zipIdx.length=p.nodes.length:=by simp
 have hle:∀u∈p.enums,u.name.length≤1000000000/\∀s∈u.tags,s.length≤1000000000:=fun u hu=>by
  have h1:=zvU (u:=u)
  have h2:=zaN (f:=enT) (sz:=2) hu
  exact⟨by omega,fun s hs=>by have:=h1.2.1 s hs;omega⟩
 have hlt':∀u∈p.enums,u.tags.length≤1000000000:=fun u hu=>by
  have h1:=zvU (u:=u)
  have h2:=zaN (f:=enT) (sz:=2) hu
  omega
 have hln:∀u∈p.nodes,(nodT u).w≤100000000:=fun u hu=>by
  have h2:=zaN (f:=nodT) (sz:=8) hu
  omega
 refine TR.zaA p.enums.length (fun k=>(zai enF [] (p.enums.zipIdx.take k)).2=0) (fun k=>[(1,.cp [.sl 2 (p.enums.map enT),zbB p.nodes] 0),(2,.ref 0 0),(3,.ref 1 0),(6,.ref 3 0),(28,.t (.sl 2 (p.enums.map enT))),(29,.i (p.enums.map enT).length),(30,.i k)])
  (fun k=>[.cells [.i 0,.i 0],.cells [.i 0],zb2 (zai enF [] (p.enums.zipIdx.take k)).1,lk3 p (-1) (-1)]) rfl (fun k hlt ha=>?_) (fun ha=>?_)
 ·have hx:(p.enums.map enT)[k]?=some (.ag [.s p.enums[k].name,.sl 1 (p.enums[k].tags.map T.s)]):=zbj enT hlt
  have g1:=zcA (f:=enF) (by rw[hze];exact hlt) ha
  have g2:=zbD (f:=enF) (by rw[hze];exact hlt) ha
  have hok:=zvd (p:=p) hle k ha
  have hzi:p.enums.zipIdx[k]'(by rw[hze];exact hlt)=(p.enums[k],k):=by simp
  rw[hzi]at g1 g2
  have hnm:=hle _ (qaf hlt)
  have htl:=hlt' _ (qaf hlt)
  generalize (zai enF [] (p.enums.zipIdx.take k)).1=st at*
  generalize p.enums[k]=u at*
  have hmt:(u.tags.map T.s).length=u.tags.length:=qab _
  have hs:Sound Tryz.prog 36 [.ref 0 0,.t (.ag [.i 2,.s u.name]),.i k] [lkB p (-1) (-1),zb2 st] (Err (addF st (2,u.name,(k:Int))).2 (.tup []) (zcp (-1) (-1) (addF st (2,u.name,(k:Int))).2) [lkB p (-1) (-1),zb2 (addF st (2,u.name,(k:Int))).1]):=zg5 p (-1) (-1) st hok.1 2 k (by decide) u.name hnm.1
  have hok1:=fun hz=>ztx (p:=p) hok (k:=2) (v:=k) (by decide) (by decide) hnm.1 hz
  rw[zsS]at g1 g2
  generalize addF st (2,u.name,(k:Int))=a1 at*
  clear ha hle hlt' hln hsn
  repeat' (first|refine wkt ?_|refine wka ?_|refine wk ?_|exact wkc|intro hc|refine wk2 ?_ ?_|refine we32 hs ?_ ?_|fail)
  ·rw[if_pos hc]at g1 g2
   have hok2:=hok1 hc
   clear hs
   have hzt:(zes u k).length=u.tags.length:=qab _
   refine TR.zaA u.tags.length (fun j=>(zai addF a1.1 ((zes u k).take j)).2=0) (fun j=>[(1,.cp [.sl 2 (p.enums.map enT),zbB p.nodes] 0),(2,.ref 0 0),(3,.ref 1 0),(6,.ref 3 0),(28,.t (.sl 2 (p.enums.map enT))),(29,.i (p.enums.map enT).length),(30,.i k),(7,.i k),(42,.t (.sl 1 (u.tags.map T.s))),(43,.i (u.tags.map T.s).length),(44,.i j)])
    (fun j=>[.cells [.i 0,.i 0],.cells [.i 0],zb2 (zai addF a1.1 ((zes u k).take j)).1,lk3 p (-1) (-1)]) rfl (fun j hlj ha=>?_) (fun ha=>?_)
   ·have hx2:(u.tags.map T.s)[j]?=some (.s u.tags[j]):=zbj T.s hlj
    have r1:=zcA (f:=addF) (by rw[hzt];exact hlj) ha
    have r2:=zbD (f:=addF) (by rw[hzt];exact hlj) ha
    have hok3:=ztk (p:=p) hnm.2 hok2 j ha
    have hzi2:(zes u k)[j]'(by rw[hzt];exact hlj)=(0,u.tags[j],(k:Int)):=by simp[zes]
    rw[hzi2]at r1 r2
    have hsm:=hnm.2 _ (qaf hlj)
    generalize (zai addF a1.1 ((zes u k).take j)).1=st2 at*
    generalize u.tags[j]=tg at*
    have hs:Sound Tryz.prog 36 [.ref 0 0,.t (.ag [.i 0,.s tg]),.i k] [lkB p (-1) (-1),zb2 st2] (Err (addF st2 (0,tg,(k:Int))).2 (.tup []) (zcp (-1) (-1) (addF st2 (0,tg,(k:Int))).2) [lkB p (-1) (-1),zb2 (addF st2 (0,tg,(k:Int))).1]):=zg5 p (-1) (-1) st2 hok3.1 0 k (by decide) tg hsm
    generalize addF st2 (0,tg,(k:Int))=a2 at*
    clear hok1 hok3 hok2
    repeat' (first|refine wkt ?_|refine wka ?_|refine wk ?_|exact wkc|intro hc|refine wk2 ?_ ?_|refine we32 hs ?_ ?_|fail)
    ·refine zab.zaI hlj (by rw[r2];exact hc) ?_ (by rw[r2];rfl)
     repeat' (first|exact trivial|refine qai rfl ?_|fail)
    ·rw[r1 hc]at g1
     exact zwbr
   rw[show u.tags.length=(zes u k).length from hzt.symm,qap]at ha
   rw[show u.tags.length=(zes u k).length from hzt.symm,qap]
   clear hok1
   refine wk ?_
   repeat' (first|refine wu ?_|exact wkc|intro hc|refine wk2 ?_ ?_|fail)
   refine zab.zaI hlt (by rw[g2];exact ha) ?_ (by rw[g2])
   repeat' (first|exact trivial|refine qai rfl ?_|fail)
  ·rw[if_neg hc]at g1
   exact zwbr
 have hok:=zvd (p:=p) hle _ ha
 rw[<-hze,qap]at ha hok
 rw[<-hze,qap]
 rw[if_neg (by simp[ha])]at hz
 generalize (zai enF [] p.enums.zipIdx).1=st0 at*
 refine wk ?_
 repeat' (first|refine wu ?_|exact wkc|intro hc|refine wk2 ?_ ?_|fail)
 have hp:zgg p:=⟨by omega,fun u hu=>by
  have h1:=hln u hu
  have h2:=zlu u
  have h3:=zaB zav 3 u.ins
  have h4:=zaB zav 3 u.outs
  have d1:(zap u.ins).w=(T.sl 3 (u.ins.map zav)).w:=rfl
  have d2:(zap u.outs).w=(T.sl 3 (u.outs.map zav)).w:=rfl
  omega⟩
 have hnn:∀u∈p.nodes,u.name.length≤1000000000:=fun u hu=>by
  have h1:=hln u hu
  have:u.name.length≤(nodT u).w:=by
   rw[show nodT u= .ag (nodC u) from rfl,w_ag]
   exact zwen
  omega
 have hno:∀(a b:Int) (st:List (Int×Str×Int)) (k:Nat) (hk:k<p.nodes.length),zaW st->zcl p st->Sound Tryz.prog 37 [.ref 0 0,.i k] [lkB p a b,zb2 st] (Err (nodF p st (p.nodes[k],k)).2 (.tup []) (zcp k (zcZ p st k p.nodes[k]).1 (nodF p st (p.nodes[k],k)).2) [lkB p k (-1),zb2 (nodF p st (p.nodes[k],k)).1]):=fun a b st k hk h1 h2=>
  zop p hp a b st h1 h2 k hk p.nodes[k] (qac hk) (zuh (hsn _ (qaf hk)) (hln _ (qaf hk)))
 clear hle hlt' hsh hsn
 refine TR.zaA p.nodes.length (fun k=>(zai (nodF p) st0 (p.nodes.zipIdx.take k)).2=0) (fun k=>[(2,.ref 0 0),(3,.ref 1 0),(6,.ref 3 0),(56,.t (zbB p.nodes)),(57,.i (p.nodes.map nodT).length),(58,.i k)])
  (fun k=>[.cells [.i 0,.i 0],.cells [.i 0],zb2 (zai (nodF p) st0 (p.nodes.zipIdx.take k)).1,lk3 p ((k:Int)-1) (-1)]) rfl (fun k hlt ha=>?_) (fun ha=>?_)
 ·have g1:=zcA (f:=nodF p) (by rw[hzn];exact hlt) ha
  have g2:=zbD (f:=nodF p) (by rw[hzn];exact hlt) ha
  have g3:=zk3 p (by rw[hzn];exact hlt) ha
  have hok2:=zvy (p:=p) hnn hok k ha
  have hzi:p.nodes.zipIdx[k]'(by rw[hzn];exact hlt)=(p.nodes[k],k):=by simp
  rw[hzi]at g1 g2 g3
  generalize (zai (nodF p) st0 (p.nodes.zipIdx.take k)).1=st at*
  have hs:=hno ((k:Int)-1) (-1) st k hlt hok2.1 hok2.2
  generalize nodF p st (p.nodes[k],k)=a1 at*
  generalize zcZ p st k p.nodes[k]=a2 at*
  clear hno hok2
  repeat' (first|refine wkt ?_|refine wka ?_|refine wk ?_|exact wkc|intro hc|refine wk2 ?_ ?_|refine we32 hs ?_ ?_|fail)
  ·refine zab.zaI hlt (by rw[g2];exact hc) ?_ (by rw[g2,show((k+1:Nat):Int)-1=k from by omega];rfl)
   repeat' (first|exact trivial|refine qai rfl ?_|fail)
  ·rw[if_neg (by rw[g1 hc];exact hc),g1 hc,g3 hc]at hz
   subst hz
   repeat' (first|refine zab.panic ?_|refine wk ?_|fail)
   exact⟨_,zhl _ _ _ _ _ _ _ rfl,fun H3 h=>by subst h;exact wkr⟩
 rw[<-hzn,qap]at ha
 rw[if_pos ha]at hz
 subst hz
 refine wk ?_
 repeat' (first|refine wu ?_|exact wkc|intro hc|refine wk2 ?_ ?_|fail)
 exact⟨_,zlS _ rfl,fun H3 h=>by subst h;exact wkr⟩
end Go.Proofs.YthmbhfgflijapaaGreatDoor
