import Derived.Test.YtjgmcnemcembmaaGreatDoorPk8
import Derived.Test.YtjgmcnemcembmaaGreatDoorPk10
import Derived.Test.YtjgmcnemcembmaaGreatDoorPk12
import Derived.Test.YtjgmcnemcembmaaGreatDoorPk14
import Derived.Test.YtjgmcnemcembmaaGreatDoorPk15
set_option linter.unusedSimpArgs false
set_option linter.unusedVariables false
namespace Go.TL
open Go
section rules
variable {P:Program}{all:Array Oper}
def allH(Q:Heap->Prop):List Heap->Prop
 | []=>True
 | H::l=>Q H/\allH Q l
def atG(c:Nat)(g:Prop)(i:Nat):Prop:=bif Nat.beq i c then g else True
def PremX(P:Program)(n:Nat)(K:TK)(c:Nat)(g:Prop)(all:Array Oper)(full:Env)(G:List Heap):Nat->List Oper->List (SV×Nat×Nat)->List Heap->Prop
 | _,[],[],_=>True
 | i,o::l,(v,lo,hi)::t,hs=>bif Nat.blt hi lo then(match hs with
    | H1::H2::hs=>(∀env,TO false P n all [o] (pickE full (slotsOf all o)++env) H1 (NKP K (atG c g i) (putE o.dst v (pickE full (slotsOf all o)++env)) H2))/\PremX P n K c g all full G (i+1) l t (H2::hs)
    | _=>False)
   else allH (fun H=>∀env,TO false P n all [o] (pickE full (slotsOf all o)++env) H (NKP K (atG c g i) (putE o.dst v (pickE full (slotsOf all o)++env)) H)) ((G.drop lo).take (hi+1-lo))/\PremX P n K c g all full G (i+1) l t hs
 | _,_,_,_=>False
abbrev efX (x:SV×Nat×Nat):Bool:=Nat.blt x.2.2 x.2.1
def effX(t:List (SV×Nat×Nat))(i:Nat):Nat:=((t.take i).filter efX).length
theorem PremX.get{n:Nat}{K:TK}{c:Nat}{g:Prop}{full:Env}{G:List Heap}:∀ {l:List Oper} {t:List (SV×Nat×Nat)} {hs:List Heap} {k:Nat},PremX P n K c g all full G k l t hs->l.length=t.length/\∀(i:Nat) o x,l[i]?=some o->t[i]?=some x->
   (efX x=false->allH (fun H=>∀env,TO false P n all [o] (pickE full (slotsOf all o)++env) H (NKP K (atG c g (k+i)) (putE o.dst x.1 (pickE full (slotsOf all o)++env)) H)) ((G.drop x.2.1).take (x.2.2+1-x.2.1)))/\
   (efX x=true->∃H1 H2,hs[effX t i]?=some H1/\hs[effX t i+1]?=some H2/\∀env,TO false P n all [o] (pickE full (slotsOf all o)++env) H1 (NKP K (atG c g (k+i)) (putE o.dst x.1 (pickE full (slotsOf all o)++env)) H2))
 | [],[],hs,k,_=>by simp
 | o::l,(v,lo,hi)::t,hs,k,h=>by
   simp only[PremX]at h
   cases hb:Nat.blt hi lo with
   | false=>
     rw[hb]at h
     obtain⟨h1,h2⟩:=h
     obtain⟨g1,g2⟩:=PremX.get h2
     refine⟨by simp[g1],fun i o' x' ho hv=>?_⟩
     cases i with
     | zero=>simp at ho hv;subst hv;subst ho;exact⟨fun _=>h1,fun e=>by rw[show efX (v,lo,hi)=Nat.blt hi lo from rfl,hb]at e;cases e⟩
     | succ i=>
       have:=g2 i o' x' (by simpa using ho) (by simpa using hv)
       have e:effX ((v,lo,hi)::t) (i+1)=effX t i:=by simp[effX,efX,hb]
       rw[e,show k+(i+1)=k+1+i by omega]
       exact this
   | true=>
     rw[hb]at h
     match hs,h with
     | H1::H2::hs,h=>
       obtain⟨h1,h2⟩:=h
       obtain⟨g1,g2⟩:=PremX.get h2
       refine⟨by simp[g1],fun i o' x' ho hv=>?_⟩
       cases i with
       | zero=>simp at ho hv;subst hv;subst ho;exact⟨fun e=>by(rw[show efX (v,lo,hi)=Nat.blt hi lo from rfl,hb]at e;cases e),fun _=>⟨H1,H2,rfl,rfl,h1⟩⟩
       | succ i=>
         have:=g2 i o' x' (by simpa using ho) (by simpa using hv)
         have e:effX ((v,lo,hi)::t) (i+1)=effX t i+1:=by simp[effX,efX,hb]
         rw[e,show k+(i+1)=k+1+i by omega]
         simpa using this
     | [],h=>exact h.elim
     | [_],h=>exact h.elim
 | [],_::_,_,_,h=>by exact h.elim
 | _::_,[],_,_,h=>by exact h.elim
end rules
section rules
variable {P:Program}{n:Nat}{env:Env}{H:Heap}{K:TK}{all:Array Oper}{rest:List Oper}{tab:Tab}
variable {d:Nat}{ty:TypeId}{pos:String}{aft:Array Edge}
theorem flat_cells{sz:Nat}:∀(es:List T),(∀e∈es,e.cells.length=sz)->((es.map T.cells).flatten.length=es.length*sz/\∀(i j:Nat) e c,es[i]?=some e->e.cells[j]?=some c->((es.map T.cells).flatten)[i*sz+j]?=some c)
 | [],_=>by simp
 | e::es,h=>by
   obtain⟨h1,h2⟩:=flat_cells es (fun x hx=>h x (List.mem_cons_of_mem _ hx))
   have he:=h e List.mem_cons_self
   refine⟨by rw[List.map_cons,List.flatten_cons,List.length_append,h1,he,List.length_cons,Nat.succ_mul];omega,fun i j x c hx hc=>?_⟩
   rw[List.map_cons,List.flatten_cons]
   cases i with
   | zero=>
     simp at hx;subst hx
     have:=(List.getElem?_eq_some_iff.1 hc).1
     rw[Nat.zero_mul,Nat.zero_add,List.getElem?_append_left this];exact hc
   | succ i=>
     rw[List.getElem?_append_right (by rw[he,Nat.succ_mul];omega),he,show(i+1)*sz+j-sz=i*sz+j from by rw[Nat.succ_mul];omega]
     exact h2 i j x c (by simpa using hx) hc
theorem TR.freeze{c:Code}(i sz id len:Nat){cs:List SV}{es:List T}{H':Heap}(hi:env.look i=some (.ms sz id 0 len))(hH:H[id]?=some (.cells cs))(hcs:cs=(es.map T.cells).flatten.map .t)(hlen:len=es.length)(hsz:∀e∈es,e.cells.length=sz)
  (hpos:Nat.ble 1 sz=true)(hH':H.set id .dead=H')(k:TR P n c ((i,.t (.sl sz es))::env) H' K):TR P n c env H K:=by
 intro φ m a h1 h2 h3 h4
 have hp':=Nat.le_of_ble_eq_true hpos
 obtain⟨x,hx1,hx2⟩:=h3.2 i _ hi
 subst hlen
 obtain⟨l1,l2⟩:=flat_cells es hsz
 have hcl:cs.length=es.length*sz:=by rw[hcs,List.length_map,l1]
 cases hx2 with
 | ms _ _ _ _ cap p hp hn hc hh=>
   have hH1:m.H[id]?=some (.cells cs):=by rw[h1];exact hH
   obtain⟨b1,b2,b3⟩:=h2.blk id p _ hp hH1
   have hex:∀j,∃y,j<cs.length->m.w.cell? ⟨p.b,p.lo+j,none⟩=some y/\y.oneCell'=true/\∀c,cs[j]?=some c->SRel m c y:=by
    intro j
    by_cases hj:j<cs.length
    ·obtain⟨y,hy1,hy0,hy2⟩:=b3 j cs[j] (List.getElem?_eq_getElem hj)
     exact⟨y,fun _=>⟨hy1,hy0,fun c hc=>by rw[List.getElem?_eq_getElem hj]at hc;cases hc;exact hy2⟩⟩
    ·exact⟨undef,fun h=>absurd h hj⟩
   let f:Nat->Value:=fun j=>Classical.choose (hex j)
   have hf:=fun j=>Classical.choose_spec (hex j)
   obtain⟨s,hm'⟩:=mv_step h2 (k1:=.dead) (p':=p) (A':=fun b o=>m.A b o\/(b=p.b/\p.lo≤o/\o<p.lo+cs.length)) (w':=m.w) hp hH1 rfl rfl rfl rfl (Nat.le_refl _) (fun _ _ _ _=>rfl) (fun _ _ _ _ _=>rfl) (fun _ _ _=>rfl) (fun _ _ _ h=>h) (fun _ _ h=>h)
    (fun _ _ h=>.inl h) (fun b o h=>by
      rcases h with h|h
      ·exact .inl h
      ·exact .inr (.inl (by omega))) (fun h=>by cases h) (fun h=>by cases h) (fun o q1 q2=>(b2 o q1 q2).1) ⟨rfl,fun n'=>by simp[tlOf]⟩ (fun _=>trivial)
   have hlt:∀q j,q<es.length->j<sz->q*sz+j<cs.length:=fun q j hq hj=>by
    have:=Nat.mul_le_mul_right sz (show q+1≤es.length from hq)
    rw[Nat.succ_mul]at this
    omega
   have hr:SRel ⟨fun b o=>m.A b o\/(b=p.b/\p.lo≤o/\o<p.lo+cs.length),m.β.set id p,m.H.set id .dead,m.w⟩ (.t (.sl sz es)) (.slice (some ⟨p.b,p.lo+0,none⟩) es.length cap):=by
    refine .t _ _ (.sl sz es p.b (p.lo+0) cap f hc (fun j e he=>hsz e (List.mem_of_getElem? he)) (fun q j hq hj=>.inr ⟨rfl,by omega,by have:=hlt q j hq hj;omega⟩) (fun q j hq hj=>(hf _ (hlt q j hq hj)).1) (fun q j hq hj=>(hf _ (hlt q j hq hj)).2.1) (fun q e j c he hc'=>?_))
    have hq:=(List.getElem?_eq_some_iff.1 he).1
    have hj:=(List.getElem?_eq_some_iff.1 hc').1
    rw[hsz e (List.mem_of_getElem? he)]at hj
    have hcc:cs[q*sz+j]?=some (.t c):=by rw[hcs,List.getElem?_map,l2 q j e c he hc'];rfl
    have:=(hf _ (hlt q j hq hj)).2.2 _ hcc
    cases this with
    | t _ _ h=>exact s.trel h2 h
   refine wpr_mono (k φ ⟨fun b o=>m.A b o\/(b=p.b/\p.lo≤o/\o<p.lo+cs.length),m.β.set id p,m.H.set id .dead,m.w⟩ a (by rw[h1];exact hH') hm' ⟨h3.1,fun j v hv=>?_⟩ (h4.step h2 s)) fun _ _ _ hp=>hp.step s
   by_cases hj:i=j
   ·subst hj
    rw[Env.look_cons_same]at hv
    cases hv
    exact⟨_,hx1,hr⟩
   ·rw[Env.look_cons_other _ _ hj]at hv
    exact(h3.step h2 s).2 j v hv
end rules
section rules
variable {P:Program}{n:Nat}{env:Env}{H:Heap}{K:TK}{all:Array Oper}{rest:List Oper}{tab:Tab}
variable {d:Nat}{ty:TypeId}{pos:String}{aft:Array Edge}
theorem hands_none(H:Heap):Hands H [] []:=hands_range (N:=0) (Nat.zero_le _) rfl rfl
end rules
end Go.TL
namespace Go.Proofs.YtjgmcnemcembmaaGreatDoor
open Go Go.TL
attribute [local irreducible] TR TO Then InBlock RetK Sound LoopK Kf GG ThenL
def flat:Ex->List Ex
 | .mk k o t v n l=>.mk k o t v n l::(l.attach.map fun x=>flat x.1).flatten
decreasing_by
 have:=List.sizeOf_lt_of_mem x.2
 simp;omega
def flats(l:List Ex):List Ex:=(l.map flat).flatten
theorem flat_eq(e:Ex):flat e=e::flats e.args:=by
 cases e
 rw[flat];simp[flats,Ex.args]
inductive Out where
 | go
 | jump (c:Code) (H:Heap)
 | panic (v:SV) (H:Heap)
def scanO(f:List Ex->Ex->Out):List Ex->List Ex->Out
 | _,[]=>.go
 | pre,x::l=>match f pre x with
   | .go=>scanO f (pre++[x]) l
   | o=>o
theorem scanO_append(f:List Ex->Ex->Out):∀(a b pre:List Ex),scanO f pre (a++b)=match scanO f pre a with
  | .go=>scanO f (pre++a) b
  | o=>o
 | [],b,pre=>by simp[scanO]
 | x::a,b,pre=>by
   simp only[List.cons_append,scanO]
   cases f pre x with
   | go=>simp only[];rw[scanO_append f a b (pre++[x])];simp
   | jump c H=>rfl
   | panic v H=>rfl
structure EachS where
 L0:Nat
 Hb:List Ex->Heap
 lp:LoopState->Option Code->Blk
 f:List Ex->Ex->Out
def EachS.ok(S:EachS):Prop:=
 (∀pre,(S.Hb pre).length=S.L0/\blksUnder (S.L0+1) (S.Hb pre)=true)/\(∀st pe,(S.lp st pe).under (S.L0+1)=true)/\
 ∀pre x,match S.f pre x with
  | .go=>True
  | .jump c H=>H.length=S.L0/\blksUnder (S.L0+1) H=true
  | .panic v H=>v.under (S.L0+1)=true/\H.length=S.L0/\blksUnder (S.L0+1) H=true
def EachR(S:EachS)(pre xs:List Ex)(r:Res)(H:Heap):Prop:=
 match scanO S.f pre xs with
 | .go=>r= .ret (.b true)/\H=S.Hb (pre++xs)++[S.lp .ready none]
 | .jump c H0=>r= .ret (.b false)/\H=H0++[S.lp .done (some c)]
 | .panic v H0=>r= .panic v/\H=H0++[S.lp .busy none]
theorem flats_append(a b:List Ex):flats (a++b)=flats a++flats b:=by simp[flats]
theorem flats_split(l:List Ex){j:Nat}(h:j<l.length):flats l=flats (l.take j)++(flat l[j]++flats (l.drop (j+1))):=by
 have:l=l.take j++([l[j]]++l.drop (j+1)):=by
  rw[List.singleton_append,<-List.drop_eq_getElem_cons h,List.take_append_drop]
 conv=>lhs;rw[this]
 rw[flats_append,flats_append]
 simp[flats]
theorem flats_take(l:List Ex){j:Nat}(h:j<l.length):flats (l.take (j+1))=flats (l.take j)++flat l[j]:=by
 rw[List.take_succ_eq_append_getElem h,flats_append];simp[flats]
theorem flat_pos(e:Ex):0<(flat e).length:=by rw[flat_eq];simp
theorem flats_len:∀l:List Ex,l.length≤(flats l).length
 | []=>Nat.zero_le _
 | x::l=>by
   have h1:=flats_len l
   have:=flat_pos x
   simp only[flats,List.map_cons,List.flatten_cons,List.length_append,List.length_cons]at h1⊢
   omega
theorem flat_len(e:Ex):(flat e).length=wEx e:=by
 generalize hn:wEx e=n
 induction n using Nat.strongRecOn generalizing e with
 | ind n ih=>
   have h:∀l:List Ex,(∀x∈l,wEx x<n)->(flats l).length=(l.map wEx).sum:=by
    intro l
    induction l with
    | nil=>intro _;rfl
    | cons x l ihl=>
      intro hx
      have h1:=ihl fun y hy=>hx y (List.mem_cons_of_mem _ hy)
      have h2:=ih (wEx x) (hx x List.mem_cons_self) x rfl
      simp only[flats,List.map_cons,List.flatten_cons,List.length_append,List.sum_cons]at h1⊢
      omega
   rw[flat_eq,List.length_cons,h e.args (fun x hx=>by have:=wEx_arg hx;omega)]
   rw[wEx_eq]at hn
   omega
theorem blksUnder_append{k:Nat}:∀ {a b:Heap},blksUnder k a=true->blksUnder k b=true->blksUnder k (a++b)=true
 | [],b,_,h=>h
 | x::a,b,h1,h2=>by
   simp only[blksUnder,Bool.and_eq_true]at h1
   simp[blksUnder,h1.1,blksUnder_append h1.2 h2]
theorem scanO_out{S:EachS}(h:S.ok):∀(xs pre:List Ex),match scanO S.f pre xs with
  | .go=>True
  | .jump c H=>H.length=S.L0/\blksUnder (S.L0+1) H=true
  | .panic v H=>v.under (S.L0+1)=true/\H.length=S.L0/\blksUnder (S.L0+1) H=true
 | [],pre=>by simp[scanO]
 | x::xs,pre=>by
   have h2:=h.2.2 pre x
   simp only[scanO]
   cases hq:S.f pre x with
   | go=>exact scanO_out h xs (pre++[x])
   | jump c H=>rw[hq]at h2;exact h2
   | panic v H=>rw[hq]at h2;exact h2
theorem eachR_within{S:EachS}(h:S.ok)(pre xs:List Ex):Within (S.L0+1) (EachR S pre xs):=by
 have ho:=scanO_out h xs pre
 have one:∀st pe,blksUnder (S.L0+1) [S.lp st pe]=true:=fun st pe=>by simp[blksUnder,h.2.1]
 constructor
 ·intro v H' hr
  unfold EachR at hr
  split at hr
  ·obtain⟨h1,rfl⟩:=hr
   cases h1
   exact⟨rfl,by simp[(h.1 _).1],blksUnder_append (h.1 _).2 (one _ _)⟩
  ·rename_i c H0 hq
   rw[hq]at ho
   obtain⟨h1,rfl⟩:=hr
   cases h1
   exact⟨rfl,by simp[ho.1],blksUnder_append ho.2 (one _ _)⟩
  ·obtain⟨h1,_⟩:=hr;cases h1
 ·intro v H' hr
  unfold EachR at hr
  split at hr
  ·obtain⟨h1,_⟩:=hr;cases h1
  ·obtain⟨h1,_⟩:=hr;cases h1
  ·rename_i u H0 hq
   rw[hq]at ho
   obtain⟨h1,rfl⟩:=hr
   cases h1
   exact⟨ho.1,by simp[ho.2.1],blksUnder_append ho.2.2 (one _ _)⟩
set_option maxHeartbeats 1000000 in
theorem each_sound (S:EachS) (hS:S.ok) (whole:List Ex) (hW:whole.length≤1000000000) (hY:∀pre x post,whole=pre++x::post->YSound Tryz.prog S.L0 (.t (exT x)) (S.Hb pre++[S.lp .ready none]) (EachR S pre [x])):
  ∀(m:Nat) (e:Ex),wEx e≤m->∀(pre post:List Ex),whole=pre++(flat e++post)->Sound Tryz.prog 104 [.t (exT e),.yl S.L0] (S.Hb pre++[S.lp .ready none]) (EachR S pre (flat e)):=by
 intro m
 induction m with
 | zero=>intro e he;have:=wEx_pos e;omega
 | succ m ih0=>
   intro e he pre post hw
   have ih:∀x∈e.args,∀(pre post:List Ex),whole=pre++(flat x++post)->Sound Tryz.prog 104 [.t (exT x),.yl S.L0] (S.Hb pre++[S.lp .ready none]) (EachR S pre (flat x)):=
    fun x hx=>ih0 x (by have:=wEx_arg hx;omega)
   clear ih0
   have hN:(S.Hb pre++[S.lp .ready none]).length=S.L0+1:=by simp[(hS.1 _).1]
   have hbu:∀pre,blksUnder (S.L0+1) (S.Hb pre++[S.lp .ready none])=true:=fun pre=>blksUnder_append (hS.1 _).2 (by simp[blksUnder,hS.2.1])
   have hy:=hY pre e (flats e.args++post) (by rw[hw,flat_eq];simp)
   have hflat:=flat_eq e
   rw[exT_eq]at hy⊢
   have hll:e.args.length≤1000000000:=by
    have h1:=flats_len e.args
    have h2:=congrArg List.length hw
    simp[hflat]at h2
    omega
   generalize hl:e.args=l at ih hflat hll
   have hC:exC e=[T.n e.kind,T.n e.op,T.n e.t,T.n e.v,.s e.name,.sl 6 (l.map exT)]:=by rw[<-hl];rfl
   rw[hC]at hy⊢
   have hml:(l.map exT).length=l.length:=List.length_map _
   generalize hG:S.Hb pre++[S.lp .ready none]=G at hy hN⊢
   have hGu:blksUnder (S.L0+1) G=true:=by rw[<-hG];exact hbu pre
   refine so Tryz.func104 ?_
   repeat' (first|refine wu ?_|exact wkc|intro hc|refine wk2 ?_ ?_|fail)
   have hGt:G.take (S.L0+1)=G:=List.take_of_length_le (by omega)
   have hGd:G.drop (S.L0+1)=[]:=List.drop_of_length_le (by omega)
   refine TO.yieldT (S.L0+1) (arg:=.t (.ag [T.n e.kind,T.n e.op,T.n e.t,T.n e.v,.s e.name,.sl 6 (l.map exT)])) hy (eachR_within hS pre [_]) rfl rfl rfl rfl (Nat.lt_succ_self _) (by omega) hGt hGu ?_ ?_
   ·intro u H' hr
    simp only[EachR,scanO]at hr
    rw[hGd,List.append_nil]
    cases hf:S.f pre e with
    | panic v0 H0=>rw[hf]at hr;cases hr.1
    | jump c H0=>
      rw[hf]at hr
      obtain⟨h1,rfl⟩:=hr
      cases h1
      have ho:=hS.2.2 pre e
      rw[hf]at ho
      repeat' (first|refine wu ?_|exact wkc|intro hc|refine wk2 ?_ ?_|fail)
      refine RetK.at (v:=.b false) (S.L0+1) rfl (Le.of_eq rfl) (by omega) (by simp[ho.1]) rfl (blksUnder_append ho.2 (by simp[blksUnder,hS.2.1])) ?_
      simp[EachR,hflat,scanO,hf]
    | go=>
      rw[hf]at hr
      obtain⟨h1,rfl⟩:=hr
      cases h1
      repeat' (first|refine wu ?_|exact wkc|intro hc|refine wk2 ?_ ?_|fail)
      refine TR.loopN l.length (fun j=>scanO S.f (pre++[e]) (flats (l.take j))= .go) (fun j=>[(14,.i j),(13,.i l.length),(12,.t (.sl 6 (l.map exT))),(1,.yl S.L0),(4,.b false)])
       (fun j=>S.Hb (pre++[e]++flats (l.take j))++[S.lp .ready none]) (by simp[flats,scanO]) (fun j hlt hsc=>?_) (fun hsc=>?_) ⟨rfl,by rw[<-hml];rfl,rfl,rfl,rfl,trivial⟩ (by simp[flats])
      ·have hGj:(S.Hb (pre++[e]++flats (l.take j))++[S.lp .ready none]).length=S.L0+1:=by simp[(hS.1 _).1]
       have hGjd:(S.Hb (pre++[e]++flats (l.take j))++[S.lp .ready none]).drop (S.L0+1)=[]:=List.drop_of_length_le (by omega)
       have hx:=at_exT hlt
       have hw':whole=(pre++[e]++flats (l.take j))++(flat l[j]++(flats (l.drop (j+1))++post)):=by
        rw[hw,hflat,flats_split l hlt];simp
       have hs:=ih l[j] (List.getElem_mem hlt) _ _ hw'
       rw[exT_eq]at hs
       repeat' (first|refine wu ?_|exact wkc|intro hc|refine wk2 ?_ ?_|fail)
       refine TO.callT (S.L0+1) hs (eachR_within hS _ _) rfl rfl rfl ⟨Le.of_eq rfl,Le.refl _,trivial⟩ (by simp[unders,SV.under,Nat.blt_eq]) (by omega) (List.take_of_length_le (by omega)) (hbu _) ?_ ?_
       ·intro u H2 hr2
        have hout:=scanO_out hS (flat l[j]) (pre++[e]++flats (l.take j))
        simp only[EachR]at hr2
        rw[hGjd,List.append_nil]
        cases ho:scanO S.f (pre++[e]++flats (l.take j)) (flat l[j]) with
        | panic v0 H0=>rw[ho]at hr2;cases hr2.1
        | jump c H0=>
          rw[ho]at hr2 hout
          obtain⟨h1,rfl⟩:=hr2
          cases h1
          repeat' (first|refine wu ?_|exact wkc|intro hc|refine wk2 ?_ ?_|fail)
          refine RetK.at (v:=.b false) (S.L0+1) rfl (Le.of_eq rfl) (by omega) (by simp[hout.1]) rfl (blksUnder_append hout.2 (by simp[blksUnder,hS.2.1])) ?_
          have:scanO S.f pre (flat e)= .jump c H0:=by
           rw[hflat,scanO,hf]
           simp only[]
           rw[flats_split l hlt,scanO_append,hsc]
           simp only[]
           rw[scanO_append,ho]
          simp[EachR,this]
        | go=>
          rw[ho]at hr2
          obtain⟨h1,rfl⟩:=hr2
          cases h1
          repeat' (first|refine wu ?_|exact wkc|intro hc|refine wk2 ?_ ?_|fail)
          refine LoopK.nextN hlt ?_ ⟨rfl,rfl,rfl,rfl,rfl,trivial⟩ (by rw[flats_take l hlt];simp)
          rw[flats_take l hlt,scanO_append,hsc]
          exact ho
       ·intro u H2 hr2
        have hout:=scanO_out hS (flat l[j]) (pre++[e]++flats (l.take j))
        simp only[EachR]at hr2
        rw[hGjd,List.append_nil]
        cases ho:scanO S.f (pre++[e]++flats (l.take j)) (flat l[j]) with
        | panic v0 H0=>
          rw[ho]at hr2 hout
          obtain⟨h1,rfl⟩:=hr2
          cases h1
          repeat' (first|refine wu ?_|exact wkc|intro hc|refine wk2 ?_ ?_|fail)
          refine LoopK.panic ?_
          repeat' (first|refine wu ?_|exact wkc|intro hc|refine wk2 ?_ ?_|fail)
          refine RetK.atP (S.L0+1) ?_ ?_ hout.1 ?_ ?_
          ·omega
          ·simp[hout.2.1]
          ·exact blksUnder_append hout.2.2 (by simp[blksUnder,hS.2.1])
          have:scanO S.f pre (flat e)= .panic u H0:=by
           rw[hflat,scanO,hf]
           simp only[]
           rw[flats_split l hlt,scanO_append,hsc]
           simp only[]
           rw[scanO_append,ho]
          simp[EachR,this]
        | jump c H0=>rw[ho]at hr2;cases hr2.1
        | go=>rw[ho]at hr2;cases hr2.1
      ·have hGj:(S.Hb (pre++[e]++flats (l.take l.length))++[S.lp .ready none]).length=S.L0+1:=by simp[(hS.1 _).1]
       repeat' (first|refine wu ?_|exact wkc|intro hc|refine wk2 ?_ ?_|fail)
       refine RetK.at (v:=.b true) (S.L0+1) rfl (Le.of_eq rfl) (by omega) hGj rfl (hbu _) ?_
       have:scanO S.f pre (flat e)= .go:=by
        rw[hflat,scanO,hf]
        simp only[]
        rw[List.take_length]at hsc
        exact hsc
       simp only[EachR,this]
       exact⟨trivial,by rw[hflat];simp⟩
   ·intro u H' hr
    simp only[EachR,scanO]at hr
    rw[hGd,List.append_nil]
    cases hf:S.f pre e with
    | panic v0 H0=>
      have ho:=hS.2.2 pre e
      rw[hf]at hr ho
      obtain⟨h1,rfl⟩:=hr
      cases h1
      repeat' (first|refine wu ?_|exact wkc|intro hc|refine wk2 ?_ ?_|fail)
      refine RetK.atP (S.L0+1) ?_ ?_ ho.1 ?_ ?_
      ·omega
      ·simp[ho.2.1]
      ·exact blksUnder_append ho.2.2 (by simp[blksUnder,hS.2.1])
      simp[EachR,hflat,scanO,hf]
    | jump c H0=>rw[hf]at hr;cases hr.1
    | go=>rw[hf]at hr;cases hr.1
def lpB(fn n:Nat)(env:Env)(ps:Array Tmp)(assign body:Code)(st:LoopState)(pe:Option Code):Blk:=.loop fn st pe n env ps assign body
theorem Each_sound(e:Ex):Pure Tryz.prog 65 [.t (exT e)] (.fn 103 [.cp (exC e) 0]):=by
 rw[exT_eq]
 refine so Tryz.func65 ?_
 repeat' (first|refine wu ?_|exact wkc|intro hc|refine wk2 ?_ ?_|fail)
 exact wkr
def Each1R(S:EachS)(xs:List Ex)(r:Res)(H:Heap):Prop:=
 match scanO S.f [] xs with
 | .go=>r= .ret (.tup [])/\H=S.Hb xs++[S.lp .ready none]
 | .jump c H0=>r= .ret (.tup [])/\H=H0++[S.lp .done (some c)]
 | .panic v H0=>r= .panic v/\H=H0++[S.lp .busy none]
theorem each1_sound(S:EachS)(hS:S.ok)(e:Ex)(hW:wEx e≤1000000000)(hY:∀pre x post,flat e=pre++x::post->YSound Tryz.prog S.L0 (.t (exT x)) (S.Hb pre++[S.lp .ready none]) (EachR S pre [x])):
  Sound Tryz.prog 103 [.yl S.L0,.cp (exC e) 0] (S.Hb []++[S.lp .ready none]) (Each1R S (flat e)):=by
 have hs:=each_sound S hS (flat e) (by rw[flat_len];exact hW) hY (wEx e) e (Nat.le_refl _) [] [] (by simp)
 rw[exT_eq]at hs
 have hout:=scanO_out hS (flat e) []
 have hHb:=hS.1
 have hlp:=hS.2.1
 unfold exC at*
 refine so Tryz.func103 ?_
 repeat' (first|refine wu ?_|exact wkc|intro hc|refine wk2 ?_ ?_|fail)
 refine TO.callA hs rfl rfl rfl ⟨Le.refl _,Le.refl _,trivial⟩ ?_ ?_
 ·intro u H2 hr
  simp only[EachR]at hr
  cases ho:scanO S.f [] (flat e) with
  | panic v0 H0=>rw[ho]at hr;cases hr.1
  | jump c H0=>
    rw[ho]at hr hout
    obtain⟨h1,rfl⟩:=hr
    cases h1
    repeat' (first|refine wu ?_|exact wkc|intro hc|refine wk2 ?_ ?_|fail)
    refine RetK.atN (v:=.tup []) (S.L0+1) rfl (Le.of_eq rfl) (by simp[(hHb _).1]) (by simp[hout.1]) rfl (blksUnder_append hout.2 (by simp[blksUnder,hlp])) ?_
    simp only[Each1R,ho]
    (first|exact⟨trivial,rfl⟩|exact⟨trivial,trivial⟩)
  | go=>
    rw[ho]at hr
    obtain⟨h1,rfl⟩:=hr
    cases h1
    repeat' (first|refine wu ?_|exact wkc|intro hc|refine wk2 ?_ ?_|fail)
    refine RetK.atN (v:=.tup []) (S.L0+1) rfl (Le.of_eq rfl) (by simp[(hHb _).1]) (by simp[(hHb _).1]) rfl (blksUnder_append (hHb _).2 (by simp[blksUnder,hlp])) ?_
    simp only[Each1R,ho]
    (first|exact⟨trivial,rfl⟩|exact⟨trivial,trivial⟩)
 ·intro u H2 hr
  simp only[EachR]at hr
  cases ho:scanO S.f [] (flat e) with
  | panic v0 H0=>
    rw[ho]at hr hout
    obtain⟨h1,rfl⟩:=hr
    cases h1
    repeat' (first|refine wu ?_|exact wkc|intro hc|refine wk2 ?_ ?_|fail)
    refine RetK.atP (S.L0+1) ?_ ?_ hout.1 ?_ ?_
    ·simp[(hHb _).1]
    ·simp[hout.2.1]
    ·exact blksUnder_append hout.2.2 (by simp[blksUnder,hlp])
    simp only[Each1R,ho]
    (first|exact⟨trivial,rfl⟩|exact⟨trivial,trivial⟩)
  | jump c H0=>rw[ho]at hr;cases hr.1
  | go=>rw[ho]at hr;cases hr.1
def RoundK(L0:Nat)(lb:Blk)(Hb:List Ex->Heap)(f:List Ex->Ex->Out)(pre:List Ex)(x:Ex):TK
 | .normal,_,H=>f pre x= .go/\H.take L0=Hb (pre++[x])/\H[L0]?=some lb
 | .ret,_,H=>∃H0,f pre x= .jump .ret H0/\H.take L0=H0/\H[L0]?=some lb
 | .exit i,_,H=>∃H0,f pre x= .jump (.exit i) H0/\H.take L0=H0/\H[L0]?=some lb
 | .panic v,_,H=>∃H0,f pre x= .panic v H0/\H.take L0=H0/\H[L0]?=some lb
def AsgK(P:Program)(n L0:Nat)(lr lb:Blk)(body:Code)(Hb:List Ex->Heap)(f:List Ex->Ex->Out)(pre:List Ex)(x:Ex):TK
 | .normal,env,H=>H[L0]?=some lr/\TR P n body env (H.set L0 lb) (RoundK L0 lb Hb f pre x)
 | _,_,_=>False
theorem take_set_last{α:Type}{H:List α}{L:Nat}{a b:α}(h:H[L]?=some a):(H.set L b).take (L+1)=H.take L++[b]:=by
 have hl:=(List.getElem?_eq_some_iff.1 h).1
 rw[List.take_succ_eq_append_getElem (by simpa using hl),List.take_set,List.set_eq_of_length_le (by simp;omega)]
 simp
theorem TR.rangeEach{n:Nat}{g:Operand}{p:Tmp}{assign body:Code}{env:Env}{H:Heap}{K:TK}(e:Ex)(Hb:List Ex->Heap)(f:List Ex->Ex->Out)(hg:env.val g=some (.fn 103 [.cp (exC e) 0]))(hW:wEx e≤1000000000)
  (h0:Hb []=H)(hp:Nat.ble (p+1) n=true)(henv:(env.all fun x=>x.2.under (H.length+1))=true)(hHb:∀pre,(Hb pre).length=H.length/\blksUnder (H.length+1) (Hb pre)=true)
  (hf:∀pre x,match f pre x with
    | .go=>True
    | .jump c H1=>H1.length=H.length/\blksUnder (H.length+1) H1=true
    | .panic v H1=>v.under (H.length+1)=true/\H1.length=H.length/\blksUnder (H.length+1) H1=true)
  (round:∀fn pre x post,flat e=pre++x::post->TR Tryz.prog n assign ((p,.t (.ag (exC x)))::env) (Hb pre++[lpB fn n env #[p] assign body .ready none]) (AsgK Tryz.prog n H.length (lpB fn n env #[p] assign body .ready none) (lpB fn n env #[p] assign body .busy none) body Hb f pre x))
  (fin:∀fn,match scanO f [] (flat e) with
    | .go=>K .normal env (Hb (flat e)++[.dead])
    | .jump .ret H1=>K .ret env (H1++[.dead])
    | .jump (.exit i) H1=>K (.exit i) env (H1++[.dead])
    | .jump _ _=>False
    | .panic v H1=>K (.panic v) env (H1++[lpB fn n env #[p] assign body .busy none])):TR Tryz.prog n (.rangeFunc g #[p] assign body) env H K:=by
 refine TR.rangeFunc hg fun fn hfn=>?_
 have fin:=fin fn
 have hS:EachS.ok ⟨H.length,Hb,lpB fn n env #[p] assign body,f⟩:=by
  refine⟨hHb,fun st pe=>?_,fun pre x=>hf pre x⟩
  exact henv
 have hpl:∀pre:List Ex,(Hb pre).length=H.length:=fun pre=>(hHb pre).1
 have:=each1_sound ⟨H.length,Hb,lpB fn n env #[p] assign body,f⟩ hS e hW ?_
 ·simp only[h0]at this
  refine Sound.mono this fun r H' hr=>?_
  simp only[Each1R]at hr
  cases ho:scanO f [] (flat e) with
  | go=>
    rw[ho]at hr fin
    obtain⟨rfl,rfl⟩:=hr
    simp only[RangeK]
    refine⟨fn,.ready,none,n,env,#[p],assign,body,?_,by simp,?_⟩
    ·rw[<-hpl (flat e)];simp[lpB]
    ·have:(Hb (flat e)++[lpB fn n env #[p] assign body LoopState.ready none]).set H.length .dead=Hb (flat e)++[.dead]:=by rw[<-hpl (flat e)];simp
     rw[this];exact fin
  | jump c H1=>
    have hl:=scanO_out hS (flat e) []
    rw[ho]at hr fin
    simp only[ho]at hl
    obtain⟨rfl,rfl⟩:=hr
    simp only[RangeK]
    refine⟨fn,.done,some c,n,env,#[p],assign,body,?_,by simp,?_⟩
    ·rw[<-hl.1];simp[lpB]
    ·have:(H1++[lpB fn n env #[p] assign body LoopState.done (some c)]).set H.length .dead=H1++[.dead]:=by rw[<-hl.1];simp
     simp only[this]
     cases c <;> first|exact fin|exact fin.elim
  | panic v H1=>
    rw[ho]at hr fin
    obtain⟨rfl,rfl⟩:=hr
    exact fin
 ·intro pre x post hw
  have hid:(Hb pre++[lpB fn n env #[p] assign body .ready none])[H.length]?=some (.loop fn .ready none n env #[p] assign body):=by rw[<-hpl pre];simp[lpB]
  refine YSound.of hfn hid hp ?_
  have h1:=round fn pre x post hw
  rw[exT_eq]
  refine TR.mono h1 fun te env2 H2 h2=>?_
  cases te with
  | normal=>
    obtain⟨h3,h4⟩:=h2
    refine⟨fn,none,n,env,#[p],assign,body,h3,?_⟩
    refine TR.mono h4 fun te env3 H3 h5=>?_
    have hN:(Hb pre++[lpB fn n env #[p] assign body .ready none]).length=H.length+1:=by simp[hpl]
    have hun:∀st pe,blksUnder (H.length+1) [lpB fn n env #[p] assign body st pe]=true:=fun st pe=>by simp only[blksUnder,Bool.and_true];exact henv
    cases te with
    | normal=>
      obtain⟨g1,g2,g3⟩:=h5
      refine⟨fn,.busy,none,n,env,#[p],assign,body,g3,?_,?_,?_⟩
      ·rw[hN];exact(List.getElem?_eq_some_iff.1 g3).1
      ·rw[hN,take_set_last g3,g2];exact blksUnder_append (hHb _).2 (hun _ _)
      ·rw[hN,take_set_last g3,g2]
       simp only[EachR,scanO,g1]
       (first|exact⟨trivial,rfl⟩|exact⟨trivial,trivial⟩)
    | ret=>
      obtain⟨H0,g1,g2,g3⟩:=h5
      have g4:=hf pre x
      rw[g1]at g4
      refine⟨fn,.busy,none,n,env,#[p],assign,body,g3,?_,?_,?_⟩
      ·rw[hN];exact(List.getElem?_eq_some_iff.1 g3).1
      ·rw[hN,take_set_last g3,g2];exact blksUnder_append g4.2 (hun _ _)
      ·rw[hN,take_set_last g3,g2]
       simp only[EachR,scanO,g1]
       (first|exact⟨trivial,rfl⟩|exact⟨trivial,trivial⟩)
    | exit i=>
      obtain⟨H0,g1,g2,g3⟩:=h5
      have g4:=hf pre x
      rw[g1]at g4
      refine⟨fn,.busy,none,n,env,#[p],assign,body,g3,?_,?_,?_⟩
      ·rw[hN];exact(List.getElem?_eq_some_iff.1 g3).1
      ·rw[hN,take_set_last g3,g2];exact blksUnder_append g4.2 (hun _ _)
      ·rw[hN,take_set_last g3,g2]
       simp only[EachR,scanO,g1]
       (first|exact⟨trivial,rfl⟩|exact⟨trivial,trivial⟩)
    | panic v=>
      obtain⟨H0,g1,g2,g3⟩:=h5
      have g4:=hf pre x
      rw[g1]at g4
      have e3:H3.take (H.length+1)=H0++[lpB fn n env #[p] assign body .busy none]:=by
       have hl:=(List.getElem?_eq_some_iff.1 g3)
       rw[List.take_succ_eq_append_getElem hl.1,g2,hl.2]
      refine⟨?_,?_,?_,?_⟩
      ·rw[hN];exact g4.1
      ·rw[hN];exact(List.getElem?_eq_some_iff.1 g3).1
      ·rw[hN,e3];exact blksUnder_append g4.2.2 (hun _ _)
      ·rw[hN,e3]
       simp only[EachR,scanO,g1]
       (first|exact⟨trivial,rfl⟩|exact⟨trivial,trivial⟩)
  | ret=>exact h2.elim
  | exit i=>exact h2.elim
  | panic v=>exact h2.elim
end Go.Proofs.YtjgmcnemcembmaaGreatDoor
