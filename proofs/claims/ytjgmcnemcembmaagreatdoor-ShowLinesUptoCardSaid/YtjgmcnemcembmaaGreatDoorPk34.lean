import Derived.ProofKit
import Derived.OpenShut
import Derived.Lib.SliceRun
import Derived.Test.YtjgmcnemcembmaaGreatDoorPk9
import Derived.Test.YtjgmcnemcembmaaGreatDoorPk12
import Derived.Test.YtjgmcnemcembmaaGreatDoorPk16
import Derived.Test.YtjgmcnemcembmaaGreatDoorPk19
import Derived.Test.YtjgmcnemcembmaaGreatDoorPk32
import Derived.Test.YtjgmcnemcembmaaGreatDoorPk33
set_option linter.unusedSimpArgs false
set_option linter.unusedVariables false
namespace Go.TL
open Go
section rules
variable {P:Program}{n:Nat}{env:Env}{H:Heap}{K:TK}{all:Array Oper}{rest:List Oper}{tab:Tab}{q:Bool}
variable {d:Nat}{ty:TypeId}{pos:String}{aft:Array Edge}
theorem Le.bnd{f:FuncId}{aas bs:List SV}(h:Les aas bs):Le (.bnd f aas) (.bnd f bs):=fun m x hx=>by
 cases hx with
 | bnd _ _ arr hs hr=>
   obtain⟨g1,g2⟩:=h.get
   refine .bnd f bs arr (by omega) fun i c y hc hy=>?_
   have hlt:=(List.getElem?_eq_some_iff.1 hc).1
   have ha:aas[i]?=some aas[i]:=List.getElem?_eq_getElem (by omega)
   exact g2 i _ c ha hc _ _ (hr i _ y ha hy)
end rules
inductive TLs:T->T->Prop
 | refl (t:T):TLs t t
 | nil (sz:Nat):TLs (.v (.slice none 0 0)) (.sl sz [])
 | ag (cs ds:List T) (h:cs.length=ds.length) (hl:∀(i:Nat) c d,cs[i]?=some c->ds[i]?=some d->TLs c d):TLs (.ag cs) (.ag ds)
 | sl (sz:Nat) (cs ds:List T) (h:cs.length=ds.length) (hl:∀(i:Nat) c d,cs[i]?=some c->ds[i]?=some d->TLs c d):TLs (.sl sz cs) (.sl sz ds)
theorem TLs.both{A:Foot}{w:World}{a b:T}(h:TLs a b):(∀x,TRel A w a x->TRel A w b x)/\a.cells.length=b.cells.length/\∀(j:Nat) c d,a.cells[j]?=some c->b.cells[j]?=some d->∀x,TRel A w c x->TRel A w d x:=by
 have one:∀(a b:T),(∀x,TRel A w a x->TRel A w b x)->∀(j:Nat) c d,[a][j]?=some c->[b][j]?=some d->∀x,TRel A w c x->TRel A w d x:=by
  intro a b h j c d hc hd
  cases j with
  | zero=>simp at hc hd;subst hc;subst hd;exact h
  | succ j=>simp at hc
 induction h with
 | refl t=>exact⟨fun _ h=>h,rfl,fun j c d hc hd=>by rw[hc]at hd;cases hd;exact fun _ h=>h⟩
 | nil sz=>
   have h1:∀x,TRel A w (.v (.slice none 0 0)) x->TRel A w (.sl sz []) x:=by intro x h;cases h;exact .nil sz
   exact⟨h1,rfl,one _ _ h1⟩
 | ag cs ds hl _ ih=>
   refine⟨?_,hl,fun j c d hc hd=>(ih j c d hc hd).1⟩
   intro x h
   cases h with
   | ag _ arr hs h1 hr=>
     refine .ag _ _ (by omega) h1 fun i d y hd hy=>?_
     have hi:=(List.getElem?_eq_some_iff.1 hd).1
     have hc:cs[i]?=some (cs[i]'(by omega)):=List.getElem?_eq_getElem _
     exact(ih i _ d hc hd).1 y (hr i _ y hc hy)
 | sl sz cs ds hl _ ih=>
   have h1:∀x,TRel A w (.sl sz cs) x->TRel A w (.sl sz ds) x:=by
    intro x h
    generalize hq:T.sl sz cs=q at h
    cases h with
    | v x=>cases hq
    | ag=>cases hq
    | nil sz'=>cases hq;have:ds=[]:=List.eq_nil_of_length_eq_zero (by simpa using hl.symm);subst this;exact .nil _
    | empty sz' a=>cases hq;have:ds=[]:=List.eq_nil_of_length_eq_zero (by simpa using hl.symm);subst this;exact .empty _ a
    | sl sz' es b off cap f hcap hsz hA hw h1 hr=>
      cases hq
      rw[hl]
      refine .sl sz ds b off cap f (by omega) (fun i d hd=>?_) (by rw[<-hl];exact hA) (by rw[<-hl];exact hw) (by rw[<-hl];exact h1) (fun i d j c' hd hc'=>?_)
      ·have hi:=(List.getElem?_eq_some_iff.1 hd).1
       have hc:cs[i]?=some (cs[i]'(by omega)):=List.getElem?_eq_getElem _
       rw[<-(ih i _ d hc hd).2.1];exact hsz i _ hc
      ·have hi:=(List.getElem?_eq_some_iff.1 hd).1
       have hc:cs[i]?=some (cs[i]'(by omega)):=List.getElem?_eq_getElem _
       have hj:=(List.getElem?_eq_some_iff.1 hc').1
       have hl2:=(ih i _ d hc hd).2.1
       have hcc:(cs[i]'(by omega)).cells[j]?=some ((cs[i]'(by omega)).cells[j]'(by omega)):=List.getElem?_eq_getElem _
       exact(ih i _ d hc hd).2.2 j _ c' hcc hc' _ (hr i _ j _ hc hcc)
   exact⟨h1,rfl,one _ _ h1⟩
theorem Le.treeS{s:SV}{t u:T}(h:s.toT=some t)(k:TLs t u):Le s (.t u):=fun _ _ hx=>.t _ _ (k.both.1 _ (hx.toT h))
def TLss:List T->List T->Prop
 | [],[]=>True
 | a::aas,b::bs=>TLs a b/\TLss aas bs
 | _,_=>False
theorem TLss.get:∀ {cs ds:List T},TLss cs ds->cs.length=ds.length/\∀(i:Nat) c d,cs[i]?=some c->ds[i]?=some d->TLs c d
 | [],[],_=>⟨rfl,by simp⟩
 | a::aas,b::bs,h=>by
   have ih:=TLss.get h.2
   exact⟨by simp[ih.1],fun i c d hc hd=>by cases i with|zero=>simp at hc hd;subst hc;subst hd;exact h.1|succ i=>exact ih.2 i c d (by simpa using hc) (by simpa using hd)⟩
theorem TLs.agL{cs ds:List T}(h:TLss cs ds):TLs (.ag cs) (.ag ds):=.ag _ _ h.get.1 h.get.2
theorem TLs.slL{sz:Nat}{cs ds:List T}(h:TLss cs ds):TLs (.sl sz cs) (.sl sz ds):=.sl _ _ _ h.get.1 h.get.2
end Go.TL
namespace Go.Proofs.YtjgmcnemcembmaaGreatDoor
open Go Go.TL
attribute [local irreducible] TR TO Then InBlock RetK Sound LoopK Kf GG ThenL
def i64(k:Int)(h:-9223372036854775808≤k/\k≤9223372036854775807:=by decide):I64:=⟨k,h⟩
def heavy9(p:Prog):Bool:=decide (1500≤wgP 1500 p)
theorem heavy9_sound(p:Prog)(hw:(T.ag (progC p)).w≤100000000):Pure Tryz.prog 7 [.t (.ag (progC p))] (.b (heavy9 p)):=by
 have hs:=wgP_sound p hw 1500 (by omega) (Nat.le_refl _)
 unfold heavy9
 generalize wgP 1500 p=z at*
 unfold progC at*
 by_cases h:1500≤z
 ·rw[decide_eq_true h]
  refine so Tryz.func7 ?_
  repeat' (first|refine wu ?_|exact wkc|intro hc|refine wk2 ?_ ?_|refine wv hs ?_|fail)
  all_goals first
   | exact wkr
   | (exfalso;omega)
 ·rw[decide_eq_false h]
  refine so Tryz.func7 ?_
  repeat' (first|refine wu ?_|exact wkc|intro hc|refine wk2 ?_ ?_|refine wv hs ?_|fail)
  all_goals first
   | exact wkr
   | (exfalso;omega)
theorem few9_sound(es:List En)(hw:(ensT es).w≤90000000):Pure Tryz.prog 11 [.t (ensT es)] (.b (!heavy9 ⟨es,[]⟩)):=by
 have hs:=heavy9_sound ⟨es,[]⟩ (by
  show(T.ag [ensT es,T.sl 8 []]).w≤_
  rw[show ensT es=T.sl 2 (es.map enT) from rfl,w_sl]at hw
  rw[w_ag]
  simp only[List.map_cons,List.map_nil,List.sum_cons,List.sum_nil,w_sl]
  omega)
 generalize heavy9 ⟨es,[]⟩=b at*
 unfold progC at hs
 cases b
 all_goals
  refine so Tryz.func11 ?_
  repeat' (first|refine wu ?_|exact wkc|intro hc|refine wk2 ?_ ?_|refine wv hs ?_|fail)
  exact wkr
mutual
def flatQ:Ex->List Ex
 | .mk k o t v n l=>.mk k o t v n l::flatsQ l
def flatsQ:List Ex->List Ex
 | []=>[]
 | a::l=>flatQ a++flatsQ l
end
mutual
def depQ:Ex->Int
 | .mk _ _ _ _ _ l=>depsQ l 0+1
def depsQ:List Ex->Int->Int
 | [],a=>a
 | x::l,a=>depsQ l (max a (depQ x))
end
theorem both_Q:∀(m:Nat) (e:Ex),wEx e≤m->flat e=flatQ e/\exDepth e=depQ e
 | 0,e,h=>by have:=wEx_pos e;omega
 | m+1,.mk k o t v n l,h=>by
   have ih:∀a∈l,flat a=flatQ a/\exDepth a=depQ a:=fun a ha=>both_Q m a (by have:=wEx_arg (e:=.mk k o t v n l) (x:=a) ha;omega)
   have h1:∀l:List Ex,(∀a∈l,flat a=flatQ a)->flats l=flatsQ l:=by
    intro l
    induction l with
    | nil=>intro _;rfl
    | cons a l ih=>intro h;rw[flatsQ,<-ih fun b hb=>h b (by simp[hb]),<-h a (by simp)];simp[flats]
   have h2:∀(l:List Ex) (x:Int),(∀a∈l,exDepth a=depQ a)->(l.map exDepth).foldl max x=depsQ l x:=by
    intro l
    induction l with
    | nil=>intro x _;rfl
    | cons a l ih=>intro x h;rw[depsQ,List.map_cons,List.foldl_cons,ih _ fun b hb=>h b (by simp[hb]),h a (by simp)]
   refine⟨?_,?_⟩
   ·rw[flat_eq,flatQ];exact congrArg _ (h1 l fun a ha=>(ih a ha).1)
   ·rw[exDepth_eq,depQ];exact congrArg (·+1) (h2 l 0 fun a ha=>(ih a ha).2)
theorem flat_Q(e:Ex):flat e=flatQ e:=(both_Q _ e (Nat.le_refl _)).1
theorem dep_Q(e:Ex):exDepth e=depQ e:=(both_Q _ e (Nat.le_refl _)).2
theorem wEx_Q(e:Ex):wEx e=(flatQ e).length:=by rw[<-flat_Q,flat_len]
def aA:Ex:=.mk (i64 2) (i64 0) (i64 0) (i64 0) [97] []
def aNot:Ex:=.mk (i64 3) (i64 1) (i64 0) (i64 0) [] [aA]
def aN:Nod:=⟨[102],[⟨[97],i64 1,[]⟩],[⟨[98],i64 1,[]⟩],[],[⟨[[98]],aNot⟩],[],[],[]⟩
def aP:Prog:=⟨[],[aN]⟩
def aOne(v:Int)(h:-9223372036854775808≤v/\v≤9223372036854775807:=by decide):Ex:=.mk (i64 1) (i64 0) (i64 2) (i64 v h) [] []
def aMul:Ex:=.mk (i64 3) (i64 8) (i64 0) (i64 0) [] [aA,aOne (-2)]
def aAdd:Ex:=.mk (i64 3) (i64 6) (i64 0) (i64 0) [] [aOne 1,aMul]
def aCk:List OnC:=[⟨[97],i64 1,i64 1⟩,⟨[98],i64 2,i64 0⟩]
def tx1:Str:=[110,111,100,101,32,102,40,97,58,32,98,111,111,108,41,32,114,101,116,117,114,110,115,32,40,98,58,32,98,111,111,108,41,10,108,101,116,10,32,32,98,32,61,32,110,111,116,32,97,59,10,116,101,108,10]
def tx2:Str:=[49,32,43,32,40,97,32,42,32,40,45,50,41,41]
def tx3:Str:=[119,104,101,110,32,116,114,117,101,40,97,41,32,119,104,101,110,32,48,40,98,41]
theorem a_shape:shapeX aP=((0,0),0):=by
 delta shapeX nodeX equE tailE exprX checkX
 simp only[flat_Q,dep_Q,wEx_Q]
 decide +kernel
theorem a_show:showP aP=(tx1,0):=by
 unfold showP
 rw[a_shape]
 have:progS aP=tx1:=by decide +kernel
 rw[this];rfl
theorem it1:Go.Lib.itoa 1=[49]:=by unfold Go.Lib.itoa;rw[if_neg (by decide),Go.Lib.decDigits];rfl
theorem it0:Go.Lib.itoa 0=[48]:=by unfold Go.Lib.itoa;rw[if_neg (by decide),Go.Lib.decDigits];rfl
theorem it2:Go.Lib.itoa (-2)=[45,50]:=by unfold Go.Lib.itoa;rw[if_pos (by decide),Go.Lib.decDigits];rfl
theorem a_expr:showE [] aAdd=(tx2,0):=by
 have h:exprX [] aAdd=0:=by
  delta exprX checkX
  simp only[flat_Q,dep_Q,wEx_Q]
  decide +kernel
 have h1:valS [] 2 1=[49]:=it1
 have h2:valS [] 2 (-2)=[45,50]:=it2
 have:shF [] 400 aAdd=valS [] 2 1++[32]++[43]++[32]++([40]++([97]++[32]++[42]++[32]++([40]++valS [] 2 (-2)++[41]))++[41]):=rfl
 unfold showE
 rw[if_pos h,this,h1,h2]
 rfl
theorem a_clock:showC [] aCk=(tx3,0):=by
 have h2:valS [] 2 0=[48]:=it0
 have:clockS [] aCk=tx3:=by
  show Go.Lib.join [[119,104,101,110,32]++valS [] 1 1++[40]++[97]++[41],[119,104,101,110,32]++valS [] 2 0++[40]++[98]++[41]] [32]=_
  rw[h2]
  decide +kernel
 unfold showC
 rw[this]
 decide +kernel
theorem wvN{G Q:Prop}{f:FuncId}{cargs:List SV}{v:SV}(hs:Pure Tryz.prog f cargs v)(k:Q)(h:Pure Tryz.prog f cargs v->Hold Q->G:=by
  intro hs k
  (apply callVm;exact hs;exact rfl;exact rfl;exact rfl;(repeat' (first|exact trivial|exact Go.TL.Le.refl _|exact Go.TL.Le.nil _|refine And.intro ?_ ?_|refine Go.TL.Le.treeS rfl ?_|exact Go.TL.TLs.nil _|refine Go.TL.TLs.agL ?_|refine Go.TL.TLs.slL ?_|exact Go.TL.TLs.refl _|fail));exact rfl;exact rfl;exact k.p)):G:=h hs ⟨k⟩
theorem variable9(s:Str):Pure Tryz.prog 20 [.s s] (.t (.ag [T.i 2,T.i 0,T.i 0,T.i 0,T.s s,.sl 6 []])):=by
 refine so Tryz.func20 ?_
 repeat' (first|refine wu ?_|exact wkc|intro hc|refine wk2 ?_ ?_|fail|fail)
 refine RetK.pure rfl (Le.treeS rfl ?_) rfl
 repeat' (first|exact trivial|exact TLs.nil _|refine TLs.agL ?_|refine TLs.slL ?_|refine And.intro ?_ ?_|exact TLs.refl _|fail)
theorem number9(n:Int):Pure Tryz.prog 21 [.i n] (.t (.ag [T.i 1,T.i 0,T.i 2,T.i n,T.s [],.sl 6 []])):=by
 refine so Tryz.func21 ?_
 repeat' (first|refine wu ?_|exact wkc|intro hc|refine wk2 ?_ ?_|fail|fail)
 refine RetK.pure rfl (Le.treeS rfl ?_) rfl
 repeat' (first|exact trivial|exact TLs.nil _|refine TLs.agL ?_|refine TLs.slL ?_|refine And.intro ?_ ?_|exact TLs.refl _|fail)
theorem aP_C:progC aP=[.sl 2 [],.sl 8 [.ag [.s [102],.sl 3 [.ag [.s [97],T.i 1,.sl 3 []]],.sl 3 [.ag [.s [98],T.i 1,.sl 3 []]],.sl 3 [],.sl 7 [.ag [.sl 1 [.s [98]],T.i 3,T.i 1,T.i 0,T.i 0,.s [],.sl 6 [.ag [T.i 2,T.i 0,T.i 0,T.i 0,.s [97],.sl 6 []]]]],.sl 1 [],.sl 6 [],.sl 6 []]]]:=by
 show[T.sl 2 [],T.sl 8 [.ag [.s [102],.sl 3 [.ag [.s [97],T.i 1,.sl 3 []]],.sl 3 [.ag [.s [98],T.i 1,.sl 3 []]],.sl 3 [],.sl 7 [.ag [.sl 1 [.s [98]],T.i 3,T.i 1,T.i 0,T.i 0,.s [],.sl 6 [exT aA]]],.sl 1 [],.sl 6 [],.sl 6 []]]]=_
 rw[exT_eq]
 rfl
theorem aAdd_C:exC aAdd=[T.i 3,T.i 6,T.i 0,T.i 0,.s [],.sl 6 [.ag [T.i 1,T.i 0,T.i 2,T.i 1,.s [],.sl 6 []],.ag [T.i 3,T.i 8,T.i 0,T.i 0,.s [],.sl 6 [.ag [T.i 2,T.i 0,T.i 0,T.i 0,.s [97],.sl 6 []],.ag [T.i 1,T.i 0,T.i 2,T.i (-2),.s [],.sl 6 []]]]]]:=by
 show[_,_,_,_,_,T.sl 6 [exT (aOne 1),exT aMul]]=_
 rw[exT_eq,exT_eq,show exC aMul=[T.i 3,T.i 8,T.i 0,T.i 0,.s [],.sl 6 [exT aA,exT (aOne (-2))]] from rfl,exT_eq,exT_eq]
 rfl
theorem aP_w:(T.ag (progC aP)).w≤2000:=by
 rw[aP_C]
 simp[w_ag,w_sl,T.w]
 decide +kernel
set_option maxHeartbeats 8000000 in
theorem awake9:Pure Tryz.prog 8 [] (.b true):=by
 have c1:=showProg_sound aP (Nat.le_trans aP_w (by decide)) fun h=>shPr_of (okP_of h) (Nat.le_trans aP_w (by decide))
 rw[a_show,aP_C]at c1
 have hE:ShE []:=⟨Nat.zero_le _,fun u hu=>(by cases hu),fun u hu=>(by cases hu)⟩
 have c2:=showE_sound hE aAdd (by rw[wEx_Q];decide) (by rw[flat_Q];decide)
 rw[a_expr,aAdd_C]at c2
 have c3:=showC_sound hE aCk (by decide) (by decide)
 rw[a_clock]at c3
 have v1:=variable9 [97]
 have n1:=number9 (-2)
 have n2:=number9 1
 refine so Tryz.func8 ?_
 repeat' (first|refine wkb ?_|refine wv v1 ?_|refine wv n1 ?_|(apply TO.alloc tabOk;exact rfl;exact rfl;exact rfl)|refine wvN c1 ?_|exact wkc|intro hc|refine wk2 ?_ ?_|(apply Go.TL.TO.want;exact rfl)|fail)
 trace_state
 apply rgS [_,_,_,_,_,_,_,_,_,_] (hE:=?hE)
 case hp=>
  repeat' (first|refine And.intro (fun env=>?_) ?_|refine wma ?_|refine wmv n2 ?_|refine wvN c2 ?_|exact trivial|exact⟨⟨rfl,rfl⟩,trivial⟩|refine wmk ?_|fail)
  done
 case hE=>exact rfl
 case hK=>
  repeat' (first|refine wu ?_|exact wkc|intro hc|refine wk2 ?_ ?_|refine wvN c3 ?_|fail)
  exact wkr
theorem arg_pr{p:Prog}(hw:(T.ag (progC p)).w≤2200000)(h:(shapeX p).2=0):ShPr p:=shPr_of (okP_of h) hw
set_option maxHeartbeats 4000000 in
theorem showPrograms_law (p:Prog) (hw:(T.ag (progC p)).w≤2200000):Pure Tryz.prog 3 [.t (.ag (progC p))] (.b true):=by
 have ha:=awake9
 have hh:=heavy9_sound p (Nat.le_trans hw (by decide))
 have s1:=showProg_sound p (Nat.le_trans hw (by decide)) (arg_pr hw)
 have s2:=showPR_sound p (Nat.le_trans hw (by decide)) (arg_pr hw)
 generalize showP p=z at*
 obtain⟨tx,c⟩:=z
 dsimp only at s1 s2
 generalize heavy9 p=b at*
 unfold progC at*
 cases b
 all_goals
  refine so Tryz.func3 ?_
  repeat' (first|refine wu ?_|exact wkc|intro hc|refine wk2 ?_ ?_|refine wv hh ?_|refine wv s1 ?_|refine wv s2 ?_|refine wv ha ?_|exact fun hc=>absurd rfl hc|fail)
  exact wkr
theorem enums_ok{es:List En}(hw:(ensT es).w≤2200000):ShE es:=by
 have h0:(ensT es).w=(T.sl 2 (es.map enT)).w:=rfl
 have h1:=w_lenM enT 2 es
 refine⟨by omega,fun u hu=>?_,fun u hu t ht=>?_⟩
 ·have h2:=w_inM (f:=enT) (sz:=2) hu
  rw[show enT u= .ag [.s u.name,.sl 1 (u.tags.map T.s)] from rfl,w_ag]at h2
  simp only[List.map_cons,List.map_nil,List.sum_cons,List.sum_nil]at h2
  have h3:=w_lenM T.s 1 u.tags
  omega
 ·have h2:=w_inM (f:=enT) (sz:=2) hu
  rw[show enT u= .ag [.s u.name,.sl 1 (u.tags.map T.s)] from rfl,w_ag]at h2
  simp only[List.map_cons,List.map_nil,List.sum_cons,List.sum_nil]at h2
  have h3:=w_inM (f:=T.s) (sz:=1) ht
  rw[w_s]at h3
  omega
theorem flat_name9:∀(m:Nat) (e:Ex),wEx e≤m->∀x∈flat e,x.name.length≤(exT e).w
 | 0,e,h=>by have:=wEx_pos e;omega
 | m+1,e,h=>by
   intro x hx
   have he:(exT e).w=(T.ag (exC e)).w:=by rw[exT_eq]
   have h1:e.name.length+(T.sl 6 (e.args.map exT)).w≤(exT e).w:=by
    rw[he,w_ag];simp only[exC,List.map_cons,List.map_nil,List.sum_cons,List.sum_nil,w_s];omega
   rw[flat_eq]at hx
   rcases List.mem_cons.1 hx with rfl|hx
   ·omega
   ·unfold flats at hx
    obtain⟨l,hl,hxl⟩:=List.mem_flatten.1 hx
    obtain⟨y,hy,rfl⟩:=List.mem_map.1 hl
    have:=flat_name9 m y (by have:=wEx_arg hy;omega) x hxl
    have:=w_inM (f:=exT) (sz:=6) hy
    omega
set_option maxHeartbeats 4000000 in
theorem showExprs_law (es:List En) (e:Ex) (h1:(ensT es).w≤2200000) (h2:(T.ag (exC e)).w≤2200000):Pure Tryz.prog 4 [.t (ensT es),.t (.ag (exC e))] (.b true):=by
 rw[<-exT_eq]at h2
 have hE:=enums_ok h1
 have hx:wEx e≤2200000:=Nat.le_trans (wEx_le e) h2
 have hn:∀x∈flat e,x.name.length≤3000000:=fun x hx=>Nat.le_trans (flat_name9 _ e (Nat.le_refl _) x hx) (Nat.le_trans h2 (by decide))
 have ha:=awake9
 have hf:=few9_sound es (Nat.le_trans h1 (by decide))
 have hg:=weigh_sound' _ e (Nat.le_refl _) 1500 (by decide) (by decide)
 have s1:=showE_sound hE e (Nat.le_trans hx (by decide)) hn
 have s2:=exprPR_sound hE e (Nat.le_trans hx (by decide)) hn
 generalize showE es e=z at*
 obtain⟨tx,c⟩:=z
 dsimp only at s1 s2
 generalize heavy9 ⟨es,[]⟩=b at*
 generalize min (wEx e) 1500=w at*
 have he:exC e=[T.n e.kind,T.n e.op,T.n e.t,T.n e.v,.s e.name,.sl 6 (e.args.map exT)]:=rfl
 rw[he]at*
 cases b
 all_goals
  refine so Tryz.func4 ?_
  repeat' (first|refine wu ?_|exact wkc|intro hc|refine wk2 ?_ ?_|refine wv hf ?_|refine wv hg ?_|refine wv s1 ?_|refine wv s2 ?_|refine wv ha ?_|exact fun hc=>absurd rfl hc|fail)
  all_goals exact wkr
set_option maxHeartbeats 4000000 in
theorem showClocks_law (es:List En) (ck:List OnC) (h1:(ensT es).w≤2200000) (h2:(T.sl 3 (ck.map onT)).w≤2200000):Pure Tryz.prog 5 [.t (ensT es),.t (.sl 3 (ck.map onT))] (.b true):=by
 have hE:=enums_ok h1
 have hl:=w_lenM onT 3 ck
 have hml:(ck.map onT).length=ck.length:=List.length_map _
 have hn:∀o∈ck,o.name.length≤3000000:=fun o ho=>by
  have h3:=w_inM (f:=onT) (sz:=3) ho
  rw[show onT o= .ag [.s o.name,T.n o.t,T.n o.tag] from rfl,w_ag]at h3
  simp only[List.map_cons,List.map_nil,List.sum_cons,List.sum_nil,w_s]at h3
  omega
 have ha:=awake9
 have hf:=few9_sound es (Nat.le_trans h1 (by decide))
 by_cases hb:heavy9 ⟨es,[]⟩=true\/100<ck.length
 ·rcases hb with hb|hb
  ·rw[hb]at hf
   refine so Tryz.func5 ?_
   repeat' (first|refine wu ?_|exact wkc|intro hc|refine wk2 ?_ ?_|refine wv hf ?_|refine wv ha ?_|fail)
   all_goals exact wkr
  ·generalize heavy9 ⟨es,[]⟩=b at*
   cases b
   all_goals
    refine so Tryz.func5 ?_
    repeat' (first|refine wu ?_|exact wkc|intro hc|refine wk2 ?_ ?_|refine wv hf ?_|refine wv ha ?_|fail)
    all_goals first
     | exact wkr
     | (exfalso;omega)
 ·have hb1:heavy9 ⟨es,[]⟩=false:=by
   cases hq:heavy9 ⟨es,[]⟩ with
   | false=>rfl
   | true=>exact absurd (.inl hq) hb
  have hb2:ck.length≤100:=by omega
  have s1:=showC_sound hE ck hn (by omega)
  have s2:=clockPR_sound hE ck hn (by omega)
  generalize showC es ck=z at*
  obtain⟨tx,c⟩:=z
  dsimp only at s1 s2
  rw[hb1]at hf
  clear hb hb1
  generalize ck.map onT=l at*
  refine so Tryz.func5 ?_
  repeat' (first|refine wu ?_|exact wkc|intro hc|refine wk2 ?_ ?_|refine wv hf ?_|refine wv s1 ?_|refine wv s2 ?_|refine wv ha ?_|exact fun hc=>absurd rfl hc|fail)
  all_goals first
   | exact wkr
   | (exfalso;omega)
end Go.Proofs.YtjgmcnemcembmaaGreatDoor
namespace Go.TL
open Go
variable {Hh:Type}{enc:TypeId×Value->Hh}{P:Program}
def aggB(P:Program)(t:TypeId):Bool:=
 match P.underlying t with
 | some (.struct _)=>true
 | _=>false
def plainSetB(P:Program)(l:List TypeId):Bool:=l.all fun t=>match P.underlying t with
 | some .bool|some (.int _)|some .string=>P.cellsOf t == 1
 | some (.slice e)=>P.cellsOf t == 1 && l.contains e && Nat.blt 0 (P.cellsOf e)
 | some (.struct fs)=>fs.toList.all fun f=>l.contains f.type
 | _=>false
def mkT(agg:Bool)(ts:List T):T:=bif agg then .ag ts else ts.headD (.v undef)
def TyD(P:Program):Nat->TypeId->DataW Hh->List T->Prop
 | 0,_,_,_=>False
 | n+1,t,d,ts=>match P.underlying t with
   | some .bool=>∃b,d= .lit (.bool b)/\ts=[.v (.bool b)]
   | some (.int k)=>∃i,d= .lit (.int k i)/\ts=[.v (.int k i)]/\(Lit.int k i).wf=true
   | some .string=>∃l:List UInt8,d= .lit (.string l)/\ts=[.v (str l)]/\l.length≤maxLen
   | some (.slice e)=>∃(els sp:List (DataW Hh)) (es:List T),((d= .nil/\els=[])\/d= .slice els sp)/\ts=[.sl (P.cellsOf e) es]/\es.length=els.length/\es.length≤maxLen/\
      ∀(i:Nat) x y,els[i]?=some x->es[i]?=some y->y=mkT (aggB P e) y.cells/\TyD P n e x y.cells
   | some (.struct fs)=>∃xs:List (DataW Hh),d= .agg xs/\ts.length=P.cellsOf t/\xs.length=fs.size/\∀(i:Nat) f x,fs[i]?=some f->xs[i]?=some x->TyD P n f.type x ((ts.drop f.offset).take (P.cellsOf f.type))
   | _=>False
theorem one_cell_of_plain{l:List TypeId}(hl:plainSetB P l=true){t:TypeId}(ht:t∈l)(ha:aggB P t=false):P.cellsOf t=1:=by
 have:=List.all_eq_true.1 hl t ht
 unfold aggB at ha
 split at this <;> simp_all
theorem cell_lt{w:World}{b o:Nat}{y:Value}(h:w.cell? ⟨b,o,none⟩=some y):b<w.heap.size:=by
 unfold World.cell? at h
 cases hq:w.heap[b]? with
 | none=>rw[hq]at h;cases h
 | some ob=>exact(Array.getElem?_eq_some_iff.1 hq).1
theorem fields_open{A:Foot}{w:World}{n:Nat}{cs:List Value}:∀(gs:List Field) (xs:List (DataW Hh)) (o:Nat),(∀(j:Nat) g,gs[j]?=some g->g.offset=o+((gs.take j).map fun f=>P.cellsOf f.type).sum)->o+(gs.map fun f=>P.cellsOf f.type).sum≤cs.length->
  xs.length=gs.length->(∀(j:Nat) g x,gs[j]?=some g->xs[j]?=some x->∃ts:List T,ts.length=((cs.drop g.offset).take (P.cellsOf g.type)).length/\(∀(i:Nat) c y,ts[i]?=some c->((cs.drop g.offset).take (P.cellsOf g.type))[i]?=some y->TRel A w c y)/\TyD P n g.type x ts)->
  ∃ts:List T,ts.length=(gs.map fun f=>P.cellsOf f.type).sum/\(∀(i:Nat) c y,ts[i]?=some c->cs[o+i]?=some y->TRel A w c y)/\(∀(j:Nat) g x,gs[j]?=some g->xs[j]?=some x->TyD P n g.type x ((ts.drop (g.offset-o)).take (P.cellsOf g.type)))
 | [],xs,o,_,_,hx,_=>⟨[],rfl,by simp,by simp⟩
 | g::gs,xs,o,ho,hl,hx,hf=>by
   cases xs with
   | nil=>simp at hx
   | cons x xs=>
     have h0:g.offset=o:=by simpa using ho 0 g rfl
     simp only[List.map_cons,List.sum_cons]at hl
     obtain⟨t0,a1,a2,a3⟩:=hf 0 g x rfl rfl
     have a1':t0.length=P.cellsOf g.type:=by rw[a1,h0];simp;omega
     obtain⟨ts,b1,b2,b3⟩:=fields_open gs xs (o+P.cellsOf g.type) (fun j f hj=>by
      have:=ho (j+1) f (by simpa using hj)
      simp only[List.take_succ_cons,List.map_cons,List.sum_cons]at this
      omega) (by omega) (by simpa using hx) (fun j f y hj hy=>hf (j+1) f y (by simpa using hj) (by simpa using hy))
     refine⟨t0++ts,by simp[a1',b1],fun i c y hc hy=>?_,fun j f y hj hy=>?_⟩
     ·by_cases hi:i<t0.length
      ·rw[List.getElem?_append_left hi]at hc
       refine a2 i c y hc ?_
       rw[List.getElem?_take,if_pos (by omega),List.getElem?_drop,h0];exact hy
      ·rw[List.getElem?_append_right (by omega)]at hc
       refine b2 _ c y hc ?_
       rw[show o+P.cellsOf g.type+(i-t0.length)=o+i from by omega];exact hy
     ·cases j with
      | zero=>
        simp at hj hy
        subst hj;subst hy
        rw[h0,Nat.sub_self,List.drop_zero,<-a1',List.take_left]
        exact a3
      | succ j=>
        have hj':gs[j]?=some f:=by simpa using hj
        have:=ho (j+1) f hj
        simp only[List.take_succ_cons,List.map_cons,List.sum_cons]at this
        have hd:(t0++ts).drop (f.offset-o)=ts.drop (f.offset-(o+P.cellsOf g.type)):=by
         rw[show f.offset-o=t0.length+(f.offset-(o+P.cellsOf g.type)) from by omega,List.drop_append,List.drop_eq_nil_of_le (by omega),List.nil_append,Nat.add_sub_cancel_left]
        rw[hd]
        exact b3 j f y hj' (by simpa using hy)
theorem field_at:∀(gs:List Field) (o i:Nat),(∀(j:Nat) g,gs[j]?=some g->g.offset=o+((gs.take j).map fun f=>P.cellsOf f.type).sum)->o≤i->i<o+(gs.map fun f=>P.cellsOf f.type).sum->∃(j:Nat) (g:Field),gs[j]?=some g/\g.offset≤i/\i<g.offset+P.cellsOf g.type
 | [],o,i,_,h1,h2=>by simp at h2;omega
 | g::gs,o,i,ho,h1,h2=>by
   have h0:g.offset=o:=by simpa using ho 0 g rfl
   simp only[List.map_cons,List.sum_cons]at h2
   by_cases hi:i<o+P.cellsOf g.type
   ·exact⟨0,g,rfl,by omega,by omega⟩
   ·obtain⟨j,f,hj,h3⟩:=field_at gs (o+P.cellsOf g.type) i (fun j f hj=>by
     have:=ho (j+1) f (by simpa using hj)
     simp only[List.take_succ_cons,List.map_cons,List.sum_cons]at this
     omega) (by omega) (by omega)
    exact⟨j+1,f,by simpa using hj,h3⟩
theorem open_plain{w:World}{base:Nat}{held:Bool}{l:List TypeId}(hl:plainSetB P l=true)(hK:∀t∈l,∀fs:Array Field,P.underlying t=some (.struct fs)->P.cellsOf t=(fs.toList.map fun f=>P.cellsOf f.type).sum/\∀(j:Nat) f,fs.toList[j]?=some f->f.offset=((fs.toList.take j).map fun f=>P.cellsOf f.type).sum):∀(n:Nat) (t:TypeId) (cs:List Value) (d:DataW Hh) (ps:List MemPlace),t∈l->DataW.trod enc P w base (fun _=>true) held n t cs=some (d,ps)->
  ∃ts:List T,ts.length=cs.length/\(∀(i:Nat) x,cs[i]?=some x->x.oneCell'=true)/\(∀(i:Nat) c x,ts[i]?=some c->cs[i]?=some x->TRel (fun b _=>b<w.heap.size) w c x)/\TyD P n t d ts:=by
 intro n
 induction n with
 | zero=>intro t cs d ps ht h;simp[DataW.trod]at h
 | succ n ih=>
   intro t cs d ps ht h
   have hp:=List.all_eq_true.1 hl t ht
   have one:∀(x:Value) (c:T),x.oneCell'=true->TRel (fun b _=>b<w.heap.size) w c x->(∀(i:Nat) y,[x][i]?=some y->y.oneCell'=true)/\(∀(i:Nat) c' y,[c][i]?=some c'->[x][i]?=some y->TRel (fun b _=>b<w.heap.size) w c' y):=by
    intro x c hx hr
    refine⟨fun i y hy=>?_,fun i c' y hc hy=>?_⟩
    ·cases i with
     | zero=>simp at hy;subst hy;exact hx
     | succ i=>simp at hy
    ·cases i with
     | zero=>simp at hy hc;subst hy;subst hc;exact hr
     | succ i=>simp at hy
   cases hu:P.underlying t with
   | none=>rw[hu]at hp;cases hp
   | some td=>
     rw[hu]at hp
     cases td with
     | bool=>
       obtain⟨b,rfl,hx⟩:=DataW.trod_bool hu h
       cases hx
       obtain⟨o1,o2⟩:=one (.bool b) (.v (.bool b)) rfl (.v _)
       exact⟨[.v (.bool b)],rfl,o1,o2,by simp only[TyD,hu];exact⟨b,rfl,rfl⟩⟩
     | int k=>
       obtain⟨i,rfl,hx,hwf⟩:=DataW.trod_int hu h
       cases hx
       obtain⟨o1,o2⟩:=one (.int k i) (.v (.int k i)) rfl (.v _)
       exact⟨[.v (.int k i)],rfl,o1,o2,by simp only[TyD,hu];exact⟨i,rfl,rfl,hwf⟩⟩
     | string=>
       obtain⟨s,rfl,hx,hlen⟩:=DataW.trod_string hu h
       cases hx
       obtain⟨a⟩:=s
       obtain⟨o1,o2⟩:=one (.string ⟨a⟩) (.v (str a.toList)) rfl (.v _)
       exact⟨[.v (str a.toList)],rfl,o1,o2,by simp only[TyD,hu];exact⟨a.toList,rfl,rfl,hlen⟩⟩
     | slice e=>
       simp only[Bool.and_eq_true,List.contains_iff_mem,beq_iff_eq]at hp
       obtain⟨⟨_,he⟩,hpos⟩:=hp
       have hpos':0<P.cellsOf e:=by simpa [Nat.blt_eq]using hpos
       rcases DataW.trod_slice hu h with ⟨rfl,hx⟩|⟨a,len,cap,elems,rest,n',hn,rfl,hx,hb,hlc,hcm,hel,hat,hsp,_⟩
       ·cases hx
        obtain⟨o1,o2⟩:=one (.slice none 0 0) (.sl (P.cellsOf e) []) rfl (.nil _)
        exact⟨[.sl (P.cellsOf e) []],rfl,o1,o2,by simp only[TyD,hu];exact⟨[],[],[],by simp,rfl,rfl,Nat.zero_le _,by simp⟩⟩
       ·cases hn
        cases hx
        have hev:∀i,i<len->∃(cs':List Value) (x:DataW Hh×List MemPlace) (ts:List T),w.cells? base (a.add (i*P.cellsOf e)) (P.cellsOf e)=some cs'/\elems[i]?=some x/\ts.length=cs'.length/\(∀(j:Nat) y,cs'[j]?=some y->y.oneCell'=true)/\
          (∀(j:Nat) c y,ts[j]?=some c->cs'[j]?=some y->TRel (fun b _=>b<w.heap.size) w c y)/\TyD P n e x.1 ts:=by
         intro i hi
         have hx:elems[i]?=some (elems[i]'(by omega)):=List.getElem?_eq_getElem _
         have:=hat i hi
         rw[hx,Option.bind_eq_some_iff]at this
         obtain⟨cs',h1,h2⟩:=this
         obtain⟨ts,g1,g2,g3,g4⟩:=ih e cs' _ _ he h2
         exact⟨cs',_,ts,h1,hx,g1,g2,g3,g4⟩
        have hspot:0<cap->a.spot=none:=by
         intro hc
         have key:∃i cs',i<cap/\i=0/\w.cells? base (a.add (i*P.cellsOf e)) (P.cellsOf e)=some cs':=by
          by_cases hl0:0<len
          ·obtain⟨cs',_,_,h1,_⟩:=hev 0 hl0
           exact⟨0,cs',hc,rfl,h1⟩
          ·have hlen:len=0:=by omega
           obtain⟨h1,h2⟩:=hsp rfl
           have hr:rest[0]?=some (rest[0]'(by omega)):=List.getElem?_eq_getElem _
           have:=h2 0 (by omega)
           rw[hr,Option.bind_eq_some_iff]at this
           obtain⟨cs',h3,_⟩:=this
           exact⟨0,cs',hc,rfl,by rw[hlen]at h3;simpa using h3⟩
         obtain⟨i,cs',_,rfl,h1⟩:=key
         obtain⟨_,_,h3⟩:=World.cells?_some h1
         obtain⟨_,h4,_⟩:=World.cells?_some h1
         have h5:=h3 0 hpos'
         have h6:cs'[0]?=some (cs'[0]'(by omega)):=List.getElem?_eq_getElem _
         rw[h6]at h5
         simp only[Nat.zero_mul,Addr.add,if_true]at h5
         unfold World.cell? at h5
         split at h5
         ·split at h5
          ·cases h5
          ·rename_i hs;simpa using hs
         ·cases h5
        by_cases hcap0:cap=0
        ·subst hcap0
         have hl0:len=0:=by omega
         subst hl0
         have he0:elems=[]:=List.eq_nil_of_length_eq_zero hel
         subst he0
         obtain⟨o1,o2⟩:=one (.slice (some a) 0 0) (.sl (P.cellsOf e) []) rfl (.empty _ _)
         exact⟨[.sl (P.cellsOf e) []],rfl,o1,o2,by simp only[TyD,hu];exact⟨[],_,[],.inr rfl,rfl,rfl,Nat.zero_le _,by simp⟩⟩
        obtain⟨ab,ao,asp⟩:=a
        have has:=hspot (by omega)
        simp only at has
        subst has
        have hex:∀i,∃ts:List T,i<len->∃(cs':List Value) (x:DataW Hh×List MemPlace),w.cells? base ((⟨ab,ao,none⟩:Addr).add (i*P.cellsOf e)) (P.cellsOf e)=some cs'/\elems[i]?=some x/\ts.length=cs'.length/\(∀(j:Nat) y,cs'[j]?=some y->y.oneCell'=true)/\
          (∀(j:Nat) c y,ts[j]?=some c->cs'[j]?=some y->TRel (fun b _=>b<w.heap.size) w c y)/\TyD P n e x.1 ts:=by
         intro i
         by_cases hi:i<len
         ·obtain⟨cs',x,ts,h⟩:=hev i hi
          exact⟨ts,fun _=>⟨cs',x,h⟩⟩
         ·exact⟨[],fun h=>absurd h hi⟩
        obtain⟨f,hf⟩:=Classical.axiomOfChoice hex
        have hfl:∀i,i<len->(f i).length=P.cellsOf e:=by
         intro i hi
         obtain⟨cs',x,h1,h2,h3,_⟩:=hf i hi
         obtain⟨_,h4,_⟩:=World.cells?_some h1
         omega
        have hmk:∀i,i<len->(mkT (aggB P e) (f i)).cells=f i:=by
         intro i hi
         unfold mkT
         cases ha:aggB P e with
         | true=>rfl
         | false=>
           have h1:=hfl i hi
           rw[one_cell_of_plain hl he ha]at h1
           match hfi:f i,h1 with
           | [c],_=>
             obtain⟨cs',x,g1,g2,g3,g4,g5,g6⟩:=hf i hi
             rw[hfi]at g6
             have:∀l,c≠ .ag l:=by
              intro l hc
              subst hc
              cases n with
              | zero=>exact g6
              | succ n=>
                have hpe:=List.all_eq_true.1 hl e he
                unfold aggB at ha
                simp only[TyD]at g6
                split at g6 <;> simp_all
             cases c with
             | ag l=>exact absurd rfl (this l)
             | _=>rfl
        have hcell:∀i j,i<len->j<P.cellsOf e->∃y,w.cell? ⟨ab,ao+(i*P.cellsOf e+j),none⟩=some y/\y.oneCell'=true/\∀c,(f i)[j]?=some c->TRel (fun b _=>b<w.heap.size) w c y:=by
         intro i j hi hj
         obtain⟨cs',x,g1,g2,g3,g4,g5,g6⟩:=hf i hi
         obtain⟨_,h4,h5⟩:=World.cells?_some g1
         have h6:=h5 j hj
         have h7:cs'[j]?=some (cs'[j]'(by omega)):=List.getElem?_eq_getElem _
         rw[h7,addr_add,addr_add,Nat.add_assoc]at h6
         exact⟨_,h6,g4 j _ h7,fun c hc=>g5 j c _ hc h7⟩
        obtain⟨es,hes⟩:∃es:List T,es=(List.range len).map fun i=>mkT (aggB P e) (f i):=⟨_,rfl⟩
        have hesl:es.length=len:=by rw[hes];simp
        have heg:∀(i:Nat) y,es[i]?=some y->i<len/\y=mkT (aggB P e) (f i):=by
         intro i y hy
         have hi:=(List.getElem?_eq_some_iff.1 hy).1
         rw[hesl]at hi
         refine⟨hi,?_⟩
         rw[hes]at hy
         simp[hi]at hy
         exact hy.symm
        have hrel:TRel (fun b _=>b<w.heap.size) w (.sl (P.cellsOf e) es) (.slice (some ⟨ab,ao,none⟩) es.length cap):=by
         have dm:∀i j,j<P.cellsOf e->(i*P.cellsOf e+j) / P.cellsOf e=i/\(i*P.cellsOf e+j) % P.cellsOf e=j:=fun i j hj=>by
          rw[Nat.mul_comm]
          exact⟨by rw[Nat.mul_add_div hpos',Nat.div_eq_of_lt hj];rfl,by rw[Nat.mul_add_mod,Nat.mod_eq_of_lt hj]⟩
         refine .sl _ es ab ao cap (fun q=>(w.cell? ⟨ab,ao+q,none⟩).getD undef) (by omega) (fun i y hy=>?_) (fun i j hi hj=>?_) (fun i j hi hj=>?_) (fun i j hi hj=>?_) (fun i y j c hy hc=>?_)
         ·obtain⟨hi,rfl⟩:=heg i y hy
          rw[hmk i hi,hfl i hi]
         ·obtain⟨y,h1,_⟩:=hcell i j (by omega) hj
          exact cell_lt h1
         ·obtain⟨y,h1,_⟩:=hcell i j (by omega) hj
          rw[h1];rfl
         ·obtain⟨y,h1,h2,_⟩:=hcell i j (by omega) hj
          simp only[h1];exact h2
         ·obtain⟨hi,rfl⟩:=heg i y hy
          rw[hmk i hi]at hc
          have hj:j<P.cellsOf e:=by rw[<-hfl i hi];exact(List.getElem?_eq_some_iff.1 hc).1
          obtain⟨y,h1,h2,h3⟩:=hcell i j hi hj
          simp only[h1];exact h3 c hc
        rw[hesl]at hrel
        obtain⟨o1,o2⟩:=one (.slice (some ⟨ab,ao,none⟩) len cap) (.sl (P.cellsOf e) es) rfl hrel
        refine⟨[.sl (P.cellsOf e) es],rfl,o1,o2,?_⟩
        simp only[TyD,hu]
        refine⟨elems.map (·.1),rest.map (·.1),es,.inr rfl,rfl,by rw[hesl,List.length_map,hel],by omega,fun i x y hx hy=>?_⟩
        obtain⟨hi,rfl⟩:=heg i y hy
        rw[hmk i hi]
        refine⟨rfl,?_⟩
        obtain⟨cs',x',g1,g2,g3,g4,g5,g6⟩:=hf i hi
        rw[List.getElem?_map,g2]at hx
        cases hx
        exact g6
     | struct fs=>
       obtain⟨xs,n',hn,hx,hlen,hxl,hat⟩:=DataW.trod_struct hu h
       cases hn
       cases hx
       have hpf:∀f∈fs.toList,f.type∈l:=by
        intro f hf
        simpa using List.all_eq_true.1 hp f hf
       obtain⟨hk1,hk2⟩:=hK t ht fs hu
       have hfield:∀(j:Nat) g,fs.toList[j]?=some g->∃x,xs[j]?=some x/\DataW.trod enc P w base (fun _=>true) held n g.type ((cs.drop g.offset).take (P.cellsOf g.type))=some x:=by
        intro j g hg
        have hj:=(List.getElem?_eq_some_iff.1 hg).1
        have hx:xs[j]?=some (xs[j]'(by simp at hj;omega)):=List.getElem?_eq_getElem _
        exact⟨_,hx,by rw[hat j g (by simpa using hg),hx]⟩
       obtain⟨ts,g1,g2,g3⟩:=fields_open (A:=fun b _=>b<w.heap.size) (w:=w) (n:=n) (cs:=cs) (P:=P) fs.toList (xs.map (·.1)) 0 (fun j g hg=>by rw[Nat.zero_add];exact hk2 j g hg) (by omega) (by simpa using hxl) (fun j g x hg hx=>by
        obtain⟨x',h1,h2⟩:=hfield j g hg
        rw[List.getElem?_map,h1]at hx
        cases hx
        obtain⟨ts,e1,e2,e3,e4⟩:=ih g.type _ x'.1 x'.2 (hpf g (List.mem_of_getElem? hg)) h2
        exact⟨ts,e1,e3,e4⟩)
       refine⟨ts,by omega,fun i x hi=>?_,fun i c x hc hx=>g2 i c x hc (by rw[Nat.zero_add];exact hx),?_⟩
       ·obtain⟨j,g,hj,hoi,hoi2⟩:=field_at (P:=P) fs.toList 0 i (fun j g hg=>by rw[Nat.zero_add];exact hk2 j g hg) (Nat.zero_le _) (by have:=(List.getElem?_eq_some_iff.1 hi).1;omega)
        obtain⟨x',h1,h2⟩:=hfield j g hj
        obtain⟨ts',e1,e2,e3,e4⟩:=ih g.type _ x'.1 x'.2 (hpf g (List.mem_of_getElem? hj)) h2
        refine e2 (i-g.offset) x ?_
        rw[List.getElem?_take,if_pos (by omega),List.getElem?_drop,show g.offset+(i-g.offset)=i from by omega];exact hi
       ·simp only[TyD,hu]
        refine⟨xs.map (·.1),rfl,by omega,by rw[List.length_map];exact hxl,fun i f x hf hx=>?_⟩
        have:=g3 i f x (by simpa using hf) hx
        simpa using this
     | _=>cases hp
def Fits(P:Program):List TypeId->List (DataW Hh)->List T->Prop
 | [],[],[]=>True
 | t::ts,d::ds,y::ys=>(y=mkT (aggB P t) y.cells/\∃n,TyD P n t d y.cells)/\Fits P ts ds ys
 | _,_,_=>False
theorem okWide_one{w:World}{r:Reach}{base:Nat}{t:TypeId}{v:Value}(h:Value.okWide P w r base t v){l:List TypeId}(hl:plainSetB P l=true)(ht:t∈l)(ha:aggB P t=false):v.cells= #[v]:=by
 have:=List.all_eq_true.1 hl t ht
 unfold aggB at ha
 unfold Value.okWide at h
 split at this <;> simp_all
 all_goals
  rename_i hu
  cases v <;> first|rfl|(simp[Cell.okWide,Cell.ok,hu]at h)
theorem tyD_cells{l:List TypeId}(hl:plainSetB P l=true){n:Nat}{t:TypeId}{d:DataW Hh}{ts:List T}(ht:t∈l)(h:TyD P n t d ts)(hlen:ts.length=P.cellsOf t):(mkT (aggB P t) ts).cells=ts:=by
 unfold mkT
 cases ha:aggB P t with
 | true=>rfl
 | false=>
   rw[one_cell_of_plain hl ht ha]at hlen
   match ts,hlen with
   | [c],_=>
     have:∀l,c≠ .ag l:=by
      intro l hc
      subst hc
      cases n with
      | zero=>exact h
      | succ n=>
        have hpe:=List.all_eq_true.1 hl t ht
        unfold aggB at ha
        simp only[TyD]at h
        split at h <;> simp_all
     cases c with
     | ag l=>exact absurd rfl (this l)
     | _=>rfl
theorem args_open{w:World}{base:Nat}{l:List TypeId}(hl:plainSetB P l=true)(hK:∀t∈l,∀fs:Array Field,P.underlying t=some (.struct fs)->P.cellsOf t=(fs.toList.map fun f=>P.cellsOf f.type).sum/\∀(j:Nat) f,fs.toList[j]?=some f->f.offset=((fs.toList.take j).map fun f=>P.cellsOf f.type).sum):
  ∀(ts:List TypeId) (vs:List Value) (ds:List (DataW Hh)) (ps:List MemPlace),(∀t∈ts,t∈l)->DataW.TrodAll enc P w 0 (fun _=>true) true ts vs ds ps->(∀(j:Nat) t v,ts[j]?=some t->vs[j]?=some v->Value.okWide P w .any base t v)->
  ∃ys:List T,Fits P ts ds ys/\ys.length=vs.length/\∀(i:Nat) y x,ys[i]?=some y->vs[i]?=some x->TRel (fun b _=>b<w.heap.size) w y x
 | [],vs,ds,ps,_,h,_=>by
   cases vs <;> cases ds <;> simp[DataW.TrodAll]at h
   exact⟨[],trivial,rfl,by simp⟩
 | t::ts,vs,ds,ps,ht,h,hok=>by
   obtain⟨v,vs',d,ds',p,q,rfl,rfl,rfl,h1,h2⟩:=ChangeShapes.trodAll_cons h
   have htl:=ht t List.mem_cons_self
   obtain⟨fuel,h1⟩:=h1
   obtain⟨tr,g1,g2,g3,g4⟩:=open_plain hl hK fuel t _ d p htl h1
   obtain⟨ys,k1,k2,k3⟩:=args_open hl hK ts vs' ds' q (fun t h=>ht t (List.mem_cons_of_mem _ h)) h2 (fun j t v a b=>hok (j+1) t v (by simpa using a) (by simpa using b))
   have hv:=hok 0 t v rfl rfl
   have hrel:TRel (fun b _=>b<w.heap.size) w (mkT (aggB P t) tr) v/\(mkT (aggB P t) tr).cells=tr:=by
    cases ha:aggB P t with
    | true=>
      have:∃cs,v= .agg cs:=by
       unfold aggB at ha
       unfold Value.okWide at hv
       split at ha
       ·rename_i hu
        rw[hu]at hv
        obtain⟨cs,rfl,_⟩:=hv
        exact⟨cs,rfl⟩
       ·cases ha
      obtain⟨cs,rfl⟩:=this
      refine⟨?_,rfl⟩
      exact .ag tr cs (by simpa [Value.cells]using g1.symm) (fun i y hy=>g2 i y (by simpa [Value.cells]using hy)) (fun i c y hc hy=>g3 i c y hc (by simpa [Value.cells]using hy))
    | false=>
      have hc:=okWide_one hv hl htl ha
      have hc2:=tyD_cells hl htl g4 (by rw[one_cell_of_plain hl htl ha,g1,hc];rfl)
      rw[ha]at hc2
      refine⟨?_,hc2⟩
      rw[hc]at g1 g3
      match tr,g1 with
      | [c],_=>exact g3 0 c v rfl rfl
   refine⟨mkT (aggB P t) tr::ys,⟨⟨by rw[hrel.2],fuel,by rw[hrel.2];exact g4⟩,k1⟩,by simp[k2],fun i y x hy hx=>?_⟩
   cases i with
   | zero=>simp at hy hx;subst hy;subst hx;exact hrel.1
   | succ i=>exact k3 i y x (by simpa using hy) (by simpa using hx)
theorem calls_trees{f:FuncId}{w:World}{ys:List T}{args:Array Value}(hS:Sound P f (ys.map .t) [] fun r H'=>r= .ret (.b true)/\H'=[])(hl:ys.length=args.size)(hr:∀(i:Nat) y x,ys[i]?=some y->args[i]?=some x->TRel (fun b _=>b<w.heap.size) w y x)
  (hg:Glob (fun b _=>b<w.heap.size) w):
  Calls P f args w fun e w'=>e= .returned (.bool true)/\RowKit.Below w.heap.size w w':=by
 have hm:HRel ⟨fun b _=>b<w.heap.size,[],[],w⟩:=⟨rfl,by simp,by simp,fun b o _ ⟨i,p,k,h,_⟩=>by simp at h,fun b o h=>h,by simp,hg⟩
 refine Calls.mono (hS.2 ⟨fun b _=>b<w.heap.size,[],[],w⟩ args rfl hm ⟨by simp[hl],fun i s x hs hx=>?_⟩) ?_
 ·rw[List.getElem?_map]at hs
  cases hy:ys[i]? with
  | none=>rw[hy]at hs;cases hs
  | some y=>rw[hy]at hs;cases hs;exact .t _ _ (hr i y x hy hx)
 ·rintro e w' ⟨m',r,rfl,s,hm',hrr,rfl,hH⟩
  cases e with
  | returned x=>
    refine⟨by rw[SRel.v_eq hrr],s.os,s.tape,s.output,s.size,fun b hb=>s.block b hb fun o ⟨i,p,k,h,_⟩=>by simp at h⟩
  | _=>simp[ResRel]at hrr
section law
open RowKit WideShapes ChangeShapes
theorem post_below{f:Func}{s:ChangeSpec}{apart fresh handsOn again:Bool}{W W':World}{args:Array Value}{v:Value}{ds gs:List (DataW Hh)}{before pa pv:List MemPlace}
  (hW:DataW.Whole enc P f.params.toList s.vars apart W args.toList ds gs before)
  (hres:∀(b:Nat) (sp:Nat->Bool) (hd:Bool),DataW.TrodAll enc P W' b sp hd f.resultTypes.toList (v.resultList f.resultTypes.size) (s.fn Hh (ds++gs)).results [])
  (hargs:∀sp:Nat->Bool,(∀p∈before,sp p.block=true)->DataW.TrodAll enc P W' 0 sp true f.params.toList args.toList (s.fn Hh (ds++gs)).args pa)
  (hvars:∀sp:Nat->Bool,(∀p∈before,sp p.block=true)->DataW.TrodVars enc P W' sp s.vars (s.fn Hh (ds++gs)).vars pv)
  (hps:before=pa++pv)(hb:Below W.heap.size W W')
  (hok:∀(j:Nat) (t:TypeId) (r:Value),f.resultTypes[j]?=some t->(v.resultList f.resultTypes.size)[j]?=some r->Value.okWide P W' .any 0 t r):
  s.post enc P f apart fresh handsOn again W args v W':=by
 have hlt:∀p∈before,p.block<W.heap.size:=fun p hp=>hW.lt p hp
 have hold:∀p∈before,(fun b=>decide (b<W.heap.size)) p.block=true:=fun p hp=>by simpa using hlt p hp
 refine⟨ds,gs,before,[],pa,pv,hW,hres _ _ _,hargs _ hold,hvars _ hold,World.keptBut_mono (fun p hp=>⟨hp,?_⟩) (hb.frame (·∈before)),fun _=>?_⟩
 ·rw[hps,List.mem_append]at hp
  exact Or.inr hp
 ·obtain⟨_,_,_,_,_,hz,hn⟩:=hW
  refine⟨hok,_,_,([]++pa)++pv,⟨[]++pa,pv,trodAll_append (hargs _ (fun _ _=>rfl)) (hres _ _ _),hvars _ (fun _ _=>rfl),rfl,?_,?_⟩,?_⟩
  ·intro b off hp
   have hin:MemPlace.cell b off∈before:=by rw[hps];simpa using hp
   rw[hb.frozen (hlt _ hin)]
   exact hz b off hin
  ·intro ha
   have:=hn ha
   rw[hps]at this
   simpa using this
  ·intro p hp _
   rw[hps]
   simpa using hp
theorem kids_plain{l:List TypeId}(hl:plainSetB P l=true)(hlaid:laidOutB P=true)(hmaps:mapsRowed P=true)(hrows:∀t∈l,t<P.types.size):Kids P (·∈l):=by
 have K:=kids_rows hlaid hmaps
 have hp:∀t∈l,_:=List.all_eq_true.1 hl
 refine⟨fun{t e} ht hu=>?_,fun{t e} ht hu=>?_,fun{t e n} ht hu=>?_,fun{t fs} ht hu=>?_,fun{t k e} ht hu=>?_⟩
 ·have:=hp t ht;simp[hu]at this
 ·have:=hp t ht
  simp only[hu,Bool.and_eq_true,List.contains_iff_mem]at this
  exact this.1.2
 ·have:=hp t ht;simp[hu]at this
 ·obtain⟨_,k2,k3⟩:=K.struct (hrows t ht) hu
  refine⟨fun f hf=>?_,k2,k3⟩
  have:=hp t ht
  simp only[hu,List.all_eq_true]at this
  simpa using this f hf
 ·have:=hp t ht;simp[hu]at this
theorem stays_plain{l:List TypeId}(hl:plainSetB P l=true)(hlaid:laidOutB P=true)(hmaps:mapsRowed P=true)(hrows:∀t∈l,t<P.types.size){W W':World}(hb:Below W.heap.size W W'){sp:Nat->Bool}:
  ∀(ts:List TypeId) (vs:List Value) (ds:List (DataW Hh)) (ps:List MemPlace),(∀t∈ts,t∈l)->(∀p∈ps,p.block<W.heap.size)->(∀p∈ps,sp p.block=true)->DataW.TrodAll enc P W 0 (fun _=>true) true ts vs ds ps->DataW.TrodAll enc P W' 0 sp true ts vs ds ps
 | [],vs,ds,ps,_,_,_,h=>by
   cases vs <;> cases ds <;> simp[DataW.TrodAll]at h⊢
   exact h
 | t::ts,vs,ds,ps,ht,hlt,hsp,h=>by
   obtain⟨v,vs',d,ds',p,q,rfl,rfl,rfl,⟨fuel,h1⟩,h2⟩:=trodAll_cons h
   refine trodAll_cons_mk ⟨fuel,?_⟩ (stays_plain hl hlaid hmaps hrows hb ts vs' ds' q (fun t h=>ht t (List.mem_cons_of_mem _ h)) (fun p hp=>hlt p (List.mem_append_right _ hp)) (fun p hp=>hsp p (List.mem_append_right _ hp)) h2)
   refine DataW.trod_stays (T:=(·∈l)) (kids_plain hl hlaid hmaps hrows) (fun{t e} ht hu=>?_) (fun h=>by cases h) (ht t List.mem_cons_self) h1 (fun x hx=>hb.same (hlt x (List.mem_append_left _ hx))) (fun x hx=>hsp x (List.mem_append_left _ hx))
   have:=List.all_eq_true.1 hl t ht
   simp only[hu,Bool.and_eq_true]at this
   simpa [Nat.blt_eq]using this.2
theorem law_contract{f:FuncId}{fn:Func}{s:ChangeSpec}{bt:TypeId}{l:List TypeId}{k:List (DataW Hh)->Prop}(hvars:s.vars=[])(hres:fn.resultTypes= #[bt])(hbt:P.underlying bt=some .bool)
  (hl:plainSetB P l=true)(hlaid:laidOutB P=true)(hmaps:mapsRowed P=true)(hrows:l.all (fun t=>Nat.blt t P.types.size)=true)(hin:fn.params.toList.all (fun t=>l.contains t)=true)
  (hspec:∀ds:List (DataW Hh),ds.length=fn.params.size->(s.fn Hh ds).results=[.lit (.bool true)]/\(s.fn Hh ds).args=ds/\(s.fn Hh ds).vars=[])
  (hS:∀(ds:List (DataW Hh)) ys,Fits P fn.params.toList ds ys->k ds->Sound P f (ys.map .t) [] fun r H'=>r= .ret (.b true)/\H'=[])
  (W:World)(base:Nat)(args:Array Value)(ds gs:List (DataW Hh))(before:List MemPlace)(hval:∀(j:Nat) t v,fn.params[j]?=some t->args[j]?=some v->Value.okWide P W .any base t v)
  (hW:DataW.Whole enc P fn.params.toList s.vars false W args.toList ds gs before)(hk:k (ds++gs))(hG:Glob (fun b _=>b<W.heap.size) W:=by intro b cs h;exact absurd h (gtab_none b cs)):
  Calls P f args W fun e W'=>∃v,e= .returned v/\s.post enc P fn false true false false W args v W':=by
 have hW':=hW
 obtain⟨p,q,hA,hV,rfl,hfz,hnd⟩:=hW
 rw[hvars]at hV
 obtain⟨rfl,rfl⟩:=trodVars_none hV
 simp only[List.append_nil]at hk hW'
 have hrows':∀t∈l,t<P.types.size:=fun t ht=>by have:=List.all_eq_true.1 hrows t ht;simpa [Nat.blt_eq]using this
 have hin':∀t∈fn.params.toList,t∈l:=fun t ht=>by have:=List.all_eq_true.1 hin t ht;simpa using this
 have K:=kids_plain hl hlaid hmaps hrows'
 obtain⟨ys,y1,y2,y3⟩:=args_open (enc:=enc) hl (fun t ht fs hu=>(K.struct ht hu).2) fn.params.toList args.toList ds p hin' hA (fun j t v a b=>hval j t v (by simpa using a) (by simpa using b))
 have hlen:ds.length=fn.params.size:=by
  have:∀(ts:List TypeId) (ds:List (DataW Hh)) (ys:List T),Fits P ts ds ys->ds.length=ts.length:=by
   intro ts
   induction ts with
   | nil=>intro ds ys h;cases ds <;> cases ys <;> simp_all [Fits]
   | cons t ts ih=>intro ds ys h;cases ds <;> cases ys <;> simp[Fits]at h⊢;exact ih _ _ h.2
  simpa using this _ _ _ y1
 obtain⟨s1,s2,s3⟩:=hspec ds hlen
 refine Calls.mono (calls_trees (hS ds ys y1 hk) (by simpa using y2) (fun i y x hy hx=>y3 i y x hy (by simpa using hx)) hG) ?_
 rintro e W' ⟨rfl,hb⟩
 refine⟨_,rfl,post_below (pa:=p) (pv:=[]) hW' (fun b sp hd=>?_) (fun sp hsp=>?_) (fun sp hsp=>?_) (by simp) hb (ok_one hres rfl (okWide_bool_mk hbt _))⟩
 ·rw[List.append_nil,s1,hres]
  exact trodAll_cons_mk (shut_bool hbt _) trodAll_mk0
 ·rw[List.append_nil,s2]
  exact stays_plain hl hlaid hmaps hrows' hb _ _ _ _ hin' (fun x hx=>hW'.lt x (by simpa using hx)) (fun x hx=>hsp x (by simpa using hx)) hA
 ·rw[List.append_nil,s3,hvars]
  rfl
end law
end Go.TL
