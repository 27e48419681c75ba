import Derived.Test.YtdicfgideclbdaaGreatDoorAk10
import Derived.Test.YtdicfgideclbdaaGreatDoorAk11
import Derived.Test.YtdicfgideclbdaaGreatDoorAk12
set_option maxHeartbeats 64000000
set_option linter.all false
namespace Go.Proofs.YtdicfgideclbdaaGreatDoor
open Go Go.TL
attribute [local irreducible] TR TO Then zaj RetK Sound zac Kf GG zaQ
variable {j:Nat}{α:Type}
def flat:Ex->List Ex
 | .mk k o t v n l=>.mk k o t v n l::(l.attach.map fun x=>flat x.1).flatten
decreasing_by
 have:=qbw x.2
 simp;omega
def flats(l:List Ex):List Ex:=(l.map flat).flatten
theorem zb2(e:Ex):flat e=e::flats e.args:=by
 cases e;rw[flat];simp[flats,Ex.args]
inductive Out where
 | go
 | jump (c:Code) (H:Heap)
 | panic (v:SV) (H:Heap)
def zbo(f:List Ex->Ex->Out):List Ex->List Ex->Out
 | _,[]=>.go
 | pre,x::l=>match f pre x with
   | .go=>zbo f (pre++[x]) l
   | o=>o
theorem zdx(f:List Ex->Ex->Out):∀(a b pre:List Ex),zbo f pre (a++b)=match zbo f pre a with
  | .go=>zbo f (pre++a) b
  | o=>o
 | [],b,pre=>by simp[zbo]
 | x::a,b,pre=>by
   simp only[qaZ,zbo];cases f pre x with
   | go=>simp only[];rw[zdx f a b (pre++[x])];simp
   | jump c H=>rfl
   | panic v H=>rfl
structure zj6 where
 L0:Nat
 Hb:List Ex->Heap
 lp:LoopState->Option Code->Blk
 f:List Ex->Ex->Out
def zj6.ok(S:zj6):Prop:=
 (∀pre,(S.Hb pre).length=S.L0/\zaa (S.L0+1) (S.Hb pre)=true)/\(∀st pe,(S.lp st pe).under (S.L0+1)=true)/\
 ∀pre x,match S.f pre x with
  | .go=>True
  | .jump c H=>H.length=S.L0/\zaa (S.L0+1) H=true
  | .panic v H=>v.under (S.L0+1)=true/\H.length=S.L0/\zaa (S.L0+1) H=true
def zdP(S:zj6)(pre xs:List Ex)(r:Res)(H:Heap):Prop:=
 match zbo S.f pre xs with
 | .go=>r= .ret (.b true)/\H=S.Hb (pre++xs)++[S.lp .ready none]
 | .jump c H0=>r= .ret (.b false)/\H=H0++[S.lp .done (some c)]
 | .panic v H0=>r= .panic v/\H=H0++[S.lp .busy none]
theorem zeL(a b:List Ex):flats (a++b)=flats a++flats b:=by simp[flats]
theorem zib(l:List Ex)(h:j<l.length):flats l=flats (l.take j)++(flat l[j]++flats (l.drop (j+1))):=by
 have:l=l.take j++([l[j]]++l.drop (j+1)):=by
  rw[qb4,<-qaN h,qaX]
 conv=>lhs;rw[this]
 rw[zeL,zeL];simp[flats]
theorem zjA(l:List Ex)(h:j<l.length):flats (l.take (j+1))=flats (l.take j)++flat l[j]:=by
 rw[qaE h,zeL];simp[flats]
theorem zuv(e:Ex):0<(flat e).length:=by rw[zb2];simp
theorem zlQ:∀l:List Ex,l.length≤(flats l).length
 | []=>qaM _
 | x::l=>by
   have h1:=zlQ l
   have:=zuv x
   simp only[flats,qaf,qaK,qab,qae]at h1⊢;omega
theorem zkp(e:Ex):(flat e).length=wEx e:=by
 generalize hn:wEx e=n
 induction n using Nat.strongRecOn generalizing e with
 | ind n ih=>
   have h:∀l:List Ex,(∀x∈l,wEx x<n)->(flats l).length=(l.map wEx).sum:=by
    intro l
    induction l with
    | nil=>intro _;rfl
    | cons x l ihl=>
      intro hx;have h1:=ihl fun y hy=>hx y (qai _ hy)
      have h2:=ih (wEx x) (hx x qah) x rfl;simp only[flats,qaf,qaK,qab,qaG]at h1⊢;omega
   rw[zb2,qae,h e.args (fun x hx=>by have:=zcS hx;omega)];rw[zgk]at hn;omega
theorem zat{k:Nat}:∀ {a b:Heap},zaa k a=true->zaa k b=true->zaa k (a++b)=true
 | [],b,_,h=>h
 | x::a,b,h1,h2=>by
   simp only[zaa,qar]at h1;simp[zaa,h1.1,zat h1.2 h2]
theorem zdZ{S:zj6}(h:S.ok):∀(xs pre:List Ex),match zbo S.f pre xs with
  | .go=>True
  | .jump c H=>H.length=S.L0/\zaa (S.L0+1) H=true
  | .panic v H=>v.under (S.L0+1)=true/\H.length=S.L0/\zaa (S.L0+1) H=true
 | [],pre=>by simp[zbo]
 | x::xs,pre=>by
   have h2:=h.2.2 pre x;simp only[zbo];cases hq:S.f pre x with
   | go=>exact zdZ h xs (pre++[x])
   | jump c H=>rw[hq]at h2;exact h2
   | panic v H=>rw[hq]at h2;exact h2
theorem zg4{S:zj6}(h:S.ok)(pre xs:List Ex):Within (S.L0+1) (zdP S pre xs):=by
 have ho:=zdZ h xs pre;have one:∀st pe,zaa (S.L0+1) [S.lp st pe]=true:=fun st pe=>by simp[zaa,h.2.1]
 constructor
 ·intro v H' hr;unfold zdP at hr;split at hr
  ·obtain⟨h1,rfl⟩:=hr;cases h1;exact⟨rfl,by simp[(h.1 _).1],zat (h.1 _).2 (one _ _)⟩
  ·rename_i c H0 hq;rw[hq]at ho;obtain⟨h1,rfl⟩:=hr;cases h1;exact⟨rfl,by simp[ho.1],zat ho.2 (one _ _)⟩
  ·obtain⟨h1,_⟩:=hr;cases h1
 ·intro v H' hr;unfold zdP at hr;split at hr
  ·obtain⟨h1,_⟩:=hr;cases h1
  ·obtain⟨h1,_⟩:=hr;cases h1
  ·rename_i u H0 hq;rw[hq]at ho;obtain⟨h1,rfl⟩:=hr;cases h1;exact⟨ho.1,by simp[ho.2.1],zat ho.2.2 (one _ _)⟩
theorem zqo (S:zj6) (hS:S.ok) (whole:List Ex) (hW:whole.length≤1000000000) (hY:∀pre x post,whole=pre++x::post->zhK Tryz.prog S.L0 (.t (exT x)) (S.Hb pre++[S.lp .ready none]) (zdP S pre [x])):
  ∀(m:Nat) (e:Ex),wEx e≤m->∀(pre post:List Ex),whole=pre++(flat e++post)->Sound Tryz.prog 135 [.t (exT e),.yl S.L0] (S.Hb pre++[S.lp .ready none]) (zdP S pre (flat e)):=by
 intro m
 induction m with
 | zero=>intro e he;have:=zcG e;omega
 | succ m ih0=>
   intro e he pre post hw
   have ih:∀x∈e.args,∀(pre post:List Ex),whole=pre++(flat x++post)->Sound Tryz.prog 135 [.t (exT x),.yl S.L0] (S.Hb pre++[S.lp .ready none]) (zdP S pre (flat x)):=
    fun x hx=>ih0 x (by have:=zcS hx;omega)
   clear ih0;have hN:(S.Hb pre++[S.lp .ready none]).length=S.L0+1:=by simp[(hS.1 _).1]
   have hbu:∀pre,zaa (S.L0+1) (S.Hb pre++[S.lp .ready none])=true:=fun pre=>zat (hS.1 _).2 (by simp[zaa,hS.2.1])
   have hy:=hY pre e (flats e.args++post) (by rw[hw,zb2];simp);have hflat:=zb2 e;rw[zan]at hy⊢
   have hll:e.args.length≤1000000000:=by
    have h1:=zlQ e.args;have h2:=oJ List.length hw;simp[hflat]at h2;omega
   generalize hl:e.args=l at ih hflat hll;have hC:exC e=[T.n e.kind,T.n e.op,T.n e.t,T.n e.v,.s e.name,.sl 6 (l.map exT)]:=by rw[<-hl];rfl
   rw[hC]at hy⊢;have hml:(l.map exT).length=l.length:=qac _;generalize hG:S.Hb pre++[S.lp .ready none]=G at hy hN⊢;have hGu:zaa (S.L0+1) G=true:=by rw[<-hG];exact hbu pre
   refine so Tryz.func135 ?_;repeat' (first|refine wu ?_|exact wkc|refine wk2 ?_ ?_|intro hc)
   have hGt:G.take (S.L0+1)=G:=qaJ oA;have hGd:G.drop (S.L0+1)=[]:=qa2 oA;refine TO.zAq (S.L0+1) (arg:=.t (.ag [T.n e.kind,T.n e.op,T.n e.t,T.n e.v,.s e.name,.sl 6 (l.map exT)])) hy (zg4 hS pre [_]) rfl rfl rfl rfl (qbF _) oA hGt hGu ?_ ?_
   ·intro u H' hr;simp only[zdP,zbo]at hr;rw[hGd,qaz];cases hf:S.f pre e with
    | panic v0 H0=>rw[hf]at hr;cases hr.1
    | jump c H0=>
      rw[hf]at hr;obtain⟨h1,rfl⟩:=hr;cases h1;have ho:=hS.2.2 pre e;rw[hf]at ho;refine ya ?_;refine RetK.at (v:=.b false) (S.L0+1) rfl (Le.of_eq rfl) (by omega) (by simp[ho.1]) rfl (zat ho.2 (by simp[zaa,hS.2.1])) ?_;simp[zdP,hflat,zbo,hf]
    | go=>
      rw[hf]at hr;obtain⟨h1,rfl⟩:=hr;cases h1;repeat' (first|refine wu ?_|exact wkc|refine wk2 ?_ ?_|intro hc)
      refine TR.zaz l.length (fun j=>zbo S.f (pre++[e]) (flats (l.take j))= .go) (fun j=>[(14,.i j),(13,.i l.length),(12,.t (.sl 6 (l.map exT))),(1,.yl S.L0),(4,.b false)])
       (fun j=>S.Hb (pre++[e]++flats (l.take j))++[S.lp .ready none]) (by simp[flats,zbo]) (fun j hlt hsc=>?_) (fun hsc=>?_) ⟨rfl,by rw[<-hml];rfl,rfl,rfl,rfl,trivial⟩ (by simp[flats])
      ·have hGj:(S.Hb (pre++[e]++flats (l.take j))++[S.lp .ready none]).length=S.L0+1:=by simp[(hS.1 _).1]
       have hGjd:(S.Hb (pre++[e]++flats (l.take j))++[S.lp .ready none]).drop (S.L0+1)=[]:=qa2 oA;have hx:=zeA hlt
       have hw':whole=(pre++[e]++flats (l.take j))++(flat l[j]++(flats (l.drop (j+1))++post)):=by
        rw[hw,hflat,zib l hlt];simp
       have hs:=ih l[j] (qak hlt) _ _ hw';rw[zan]at hs;repeat' (first|refine wu ?_|exact wkc|refine wk2 ?_ ?_|intro hc)
       refine TO.zxd (S.L0+1) hs (zg4 hS _ _) rfl rfl rfl ⟨Le.of_eq rfl,Le.refl _,trivial⟩ (by simp[unders,SV.under,qbn]) oA (qaJ oA) (hbu _) ?_ ?_
       ·intro u H2 hr2;have hout:=zdZ hS (flat l[j]) (pre++[e]++flats (l.take j));simp only[zdP]at hr2;rw[hGjd,qaz];cases ho:zbo S.f (pre++[e]++flats (l.take j)) (flat l[j]) with
        | panic v0 H0=>rw[ho]at hr2;cases hr2.1
        | jump c H0=>
          rw[ho]at hr2 hout;obtain⟨h1,rfl⟩:=hr2;cases h1;refine ya ?_;refine RetK.at (v:=.b false) (S.L0+1) rfl (Le.of_eq rfl) (by omega) (by simp[hout.1]) rfl (zat hout.2 (by simp[zaa,hS.2.1])) ?_
          have:zbo S.f pre (flat e)= .jump c H0:=by
           exact zwcx
          simp[zdP,this]
        | go=>
          rw[ho]at hr2;obtain⟨h1,rfl⟩:=hr2;cases h1;refine ya ?_;refine zac.zaH hlt ?_ ⟨rfl,rfl,rfl,rfl,rfl,trivial⟩ (by rw[zjA l hlt];simp);rw[zjA l hlt,zdx,hsc];exact ho
       ·intro u H2 hr2;have hout:=zdZ hS (flat l[j]) (pre++[e]++flats (l.take j));simp only[zdP]at hr2;rw[hGjd,qaz];cases ho:zbo S.f (pre++[e]++flats (l.take j)) (flat l[j]) with
        | panic v0 H0=>
          rw[ho]at hr2 hout;obtain⟨h1,rfl⟩:=hr2;cases h1;repeat' (first|refine wu ?_|exact wkc|refine wk2 ?_ ?_|intro hc)
          refine zac.panic ?_;refine ya ?_;refine RetK.atP (S.L0+1) ?_ ?_ hout.1 ?_ ?_
          ·omega
          ·simp[hout.2.1]
          ·exact zat hout.2.2 (by simp[zaa,hS.2.1])
          have:zbo S.f pre (flat e)= .panic u H0:=by
           exact zwcx
          simp[zdP,this]
        | jump c H0=>rw[ho]at hr2;cases hr2.1
        | go=>rw[ho]at hr2;cases hr2.1
      ·have hGj:(S.Hb (pre++[e]++flats (l.take l.length))++[S.lp .ready none]).length=S.L0+1:=by simp[(hS.1 _).1]
       refine ya ?_;refine RetK.at (v:=.b true) (S.L0+1) rfl (Le.of_eq rfl) (by omega) hGj rfl (hbu _) ?_
       have:zbo S.f pre (flat e)= .go:=by
        rw[hflat,zbo,hf];simp only[];rw[qap]at hsc;exact hsc
       simp only[zdP,this];exact⟨trivial,by rw[hflat];simp⟩
   ·intro u H' hr;simp only[zdP,zbo]at hr;rw[hGd,qaz];cases hf:S.f pre e with
    | panic v0 H0=>
      have ho:=hS.2.2 pre e;rw[hf]at hr ho;obtain⟨h1,rfl⟩:=hr;cases h1;refine ya ?_;refine RetK.atP (S.L0+1) ?_ ?_ ho.1 ?_ ?_
      ·omega
      ·simp[ho.2.1]
      ·exact zat ho.2.2 (by simp[zaa,hS.2.1])
      simp[zdP,hflat,zbo,hf]
    | jump c H0=>rw[hf]at hr;cases hr.1
    | go=>rw[hf]at hr;cases hr.1
def lpB(fn n:Nat)(env:Env)(ps:Array Tmp)(assign body:Code)(st:LoopState)(pe:Option Code):Blk:=.loop fn st pe n env ps assign body
theorem zdQ(e:Ex):Pure Tryz.prog 89 [.t (exT e)] (.fn 134 [.cp (exC e) 0]):=by
 rw[zan];refine so Tryz.func89 ?_;refine ya ?_;exact wkr
def zle(S:zj6)(xs:List Ex)(r:Res)(H:Heap):Prop:=
 match zbo S.f [] xs with
 | .go=>r= .ret (.tup [])/\H=S.Hb xs++[S.lp .ready none]
 | .jump c H0=>r= .ret (.tup [])/\H=H0++[S.lp .done (some c)]
 | .panic v H0=>r= .panic v/\H=H0++[S.lp .busy none]
theorem zns(S:zj6)(hS:S.ok)(e:Ex)(hW:wEx e≤1000000000)(hY:∀pre x post,flat e=pre++x::post->zhK Tryz.prog S.L0 (.t (exT x)) (S.Hb pre++[S.lp .ready none]) (zdP S pre [x])):
  Sound Tryz.prog 134 [.yl S.L0,.cp (exC e) 0] (S.Hb []++[S.lp .ready none]) (zle S (flat e)):=by
 have hs:=zqo S hS (flat e) (by rw[zkp];exact hW) hY (wEx e) e (qag _) [] [] oC;rw[zan]at hs;have hout:=zdZ hS (flat e) [];have hHb:=hS.1;have hlp:=hS.2.1;unfold exC at*;refine so Tryz.func134 ?_;repeat' (first|refine wu ?_|exact wkc|refine wk2 ?_ ?_|intro hc)
 refine TO.zfs hs rfl rfl rfl ⟨Le.refl _,Le.refl _,trivial⟩ ?_ ?_
 ·intro u H2 hr;simp only[zdP]at hr;cases ho:zbo S.f [] (flat e) with
  | panic v0 H0=>rw[ho]at hr;cases hr.1
  | jump c H0=>
    rw[ho]at hr hout;obtain⟨h1,rfl⟩:=hr;cases h1;refine ya ?_;refine RetK.atN (v:=.tup []) (S.L0+1) rfl (Le.of_eq rfl) (by simp[(hHb _).1]) (by simp[hout.1]) rfl (zat hout.2 (by simp[zaa,hlp])) ?_;simp only[zle,ho]
    (first|exact⟨trivial,rfl⟩|exact⟨trivial,trivial⟩)
  | go=>
    rw[ho]at hr;obtain⟨h1,rfl⟩:=hr;cases h1;refine ya ?_;refine RetK.atN (v:=.tup []) (S.L0+1) rfl (Le.of_eq rfl) (by simp[(hHb _).1]) (by simp[(hHb _).1]) rfl (zat (hHb _).2 (by simp[zaa,hlp])) ?_;simp only[zle,ho]
    (first|exact⟨trivial,rfl⟩|exact⟨trivial,trivial⟩)
 ·intro u H2 hr;simp only[zdP]at hr;cases ho:zbo S.f [] (flat e) with
  | panic v0 H0=>
    rw[ho]at hr hout;obtain⟨h1,rfl⟩:=hr;cases h1;refine ya ?_;refine RetK.atP (S.L0+1) ?_ ?_ hout.1 ?_ ?_
    ·simp[(hHb _).1]
    ·simp[hout.2.1]
    ·exact zat hout.2.2 (by simp[zaa,hlp])
    simp only[zle,ho]
    (first|exact⟨trivial,rfl⟩|exact⟨trivial,trivial⟩)
  | jump c H0=>rw[ho]at hr;cases hr.1
  | go=>rw[ho]at hr;cases hr.1
def zyA(L0:Nat)(lb:Blk)(Hb:List Ex->Heap)(f:List Ex->Ex->Out)(pre:List Ex)(x:Ex):TK
 | .normal,_,H=>f pre x= .go/\H.take L0=Hb (pre++[x])/\H[L0]?=some lb
 | .ret,_,H=>∃H0,f pre x= .jump .ret H0/\H.take L0=H0/\H[L0]?=some lb
 | .exit i,_,H=>∃H0,f pre x= .jump (.exit i) H0/\H.take L0=H0/\H[L0]?=some lb
 | .panic v,_,H=>∃H0,f pre x= .panic v H0/\H.take L0=H0/\H[L0]?=some lb
def AsgK(P:Program)(n L0:Nat)(lr lb:Blk)(body:Code)(Hb:List Ex->Heap)(f:List Ex->Ex->Out)(pre:List Ex)(x:Ex):TK
 | .normal,env,H=>H[L0]?=some lr/\TR P n body env (H.set L0 lb) (zyA L0 lb Hb f pre x)
 | _,_,_=>False
theorem zep{H:List α}{L:Nat}{a b:α}(h:H[L]?=some a):(H.set L b).take (L+1)=H.take L++[b]:=by
 have hl:=(qaa.1 h).1;rw[qaE (by simpa using hl),List.take_set,List.set_eq_of_length_le oF];simp
theorem TR.zeV{n:Nat}{g:Operand}{p:Tmp}{assign body:Code}{env:Env}{H:Heap}{K:TK}(e:Ex)(Hb:List Ex->Heap)(f:List Ex->Ex->Out)(hg:env.val g=some (.fn 134 [.cp (exC e) 0]))(hW:wEx e≤1000000000)
  (h0:Hb []=H)(hp:Nat.ble (p+1) n=true)(henv:(env.all fun x=>x.2.under (H.length+1))=true)(hHb:∀pre,(Hb pre).length=H.length/\zaa (H.length+1) (Hb pre)=true)
  (hf:∀pre x,match f pre x with
    | .go=>True
    | .jump c H1=>H1.length=H.length/\zaa (H.length+1) H1=true
    | .panic v H1=>v.under (H.length+1)=true/\H1.length=H.length/\zaa (H.length+1) H1=true)
  (round:∀fn pre x post,flat e=pre++x::post->TR Tryz.prog n assign ((p,.t (.ag (exC x)))::env) (Hb pre++[lpB fn n env #[p] assign body .ready none]) (AsgK Tryz.prog n H.length (lpB fn n env #[p] assign body .ready none) (lpB fn n env #[p] assign body .busy none) body Hb f pre x))
  (fin:∀fn,match zbo f [] (flat e) with
    | .go=>K .normal env (Hb (flat e)++[.dead])
    | .jump .ret H1=>K .ret env (H1++[.dead])
    | .jump (.exit i) H1=>K (.exit i) env (H1++[.dead])
    | .jump _ _=>False
    | .panic v H1=>K (.panic v) env (H1++[lpB fn n env #[p] assign body .busy none])):TR Tryz.prog n (.rangeFunc g #[p] assign body) env H K:=by
 refine TR.rangeFunc hg fun fn hfn=>?_
 have fin:=fin fn
 have hS:zj6.ok ⟨H.length,Hb,lpB fn n env #[p] assign body,f⟩:=by
  refine⟨hHb,fun st pe=>?_,fun pre x=>hf pre x⟩;exact henv
 have hpl:∀pre:List Ex,(Hb pre).length=H.length:=fun pre=>(hHb pre).1
 have:=zns ⟨H.length,Hb,lpB fn n env #[p] assign body,f⟩ hS e hW ?_
 ·simp only[h0]at this;refine Sound.mono this fun r H' hr=>?_
  simp only[zle]at hr;cases ho:zbo f [] (flat e) with
  | go=>
    rw[ho]at hr fin;obtain⟨rfl,rfl⟩:=hr;simp only[zq9];refine⟨fn,.ready,none,n,env,#[p],assign,body,?_,oC,?_⟩
    ·rw[<-hpl (flat e)];simp[lpB]
    ·have:(Hb (flat e)++[lpB fn n env #[p] assign body LoopState.ready none]).set H.length .dead=Hb (flat e)++[.dead]:=by rw[<-hpl (flat e)];simp
     rw[this];exact fin
  | jump c H1=>
    have hl:=zdZ hS (flat e) [];rw[ho]at hr fin;simp only[ho]at hl;obtain⟨rfl,rfl⟩:=hr;simp only[zq9];refine⟨fn,.done,some c,n,env,#[p],assign,body,?_,oC,?_⟩
    ·rw[<-hl.1];simp[lpB]
    ·have:(H1++[lpB fn n env #[p] assign body LoopState.done (some c)]).set H.length .dead=H1++[.dead]:=by rw[<-hl.1];simp
     simp only[this];cases c <;> first|exact fin|exact fin.elim
  | panic v H1=>
    rw[ho]at hr fin;obtain⟨rfl,rfl⟩:=hr;exact fin
 ·intro pre x post hw;have hid:(Hb pre++[lpB fn n env #[p] assign body .ready none])[H.length]?=some (.loop fn .ready none n env #[p] assign body):=by rw[<-hpl pre];simp[lpB]
  refine zhK.of hfn hid hp ?_;have h1:=round fn pre x post hw;rw[zan];refine TR.mono h1 fun te env2 H2 h2=>?_
  cases te with
  | normal=>
    obtain⟨h3,h4⟩:=h2;refine⟨fn,none,n,env,#[p],assign,body,h3,?_⟩;refine TR.mono h4 fun te env3 H3 h5=>?_
    have hN:(Hb pre++[lpB fn n env #[p] assign body .ready none]).length=H.length+1:=by simp[hpl]
    have hun:∀st pe,zaa (H.length+1) [lpB fn n env #[p] assign body st pe]=true:=fun st pe=>by simp only[zaa,qbx];exact henv
    cases te with
    | normal=>
      obtain⟨g1,g2,g3⟩:=h5;refine⟨fn,.busy,none,n,env,#[p],assign,body,g3,?_,?_,?_⟩
      ·rw[hN];exact(qaa.1 g3).1
      ·rw[hN,zep g3,g2];exact zat (hHb _).2 (hun _ _)
      ·exact zwcw
    | ret=>
      obtain⟨H0,g1,g2,g3⟩:=h5;have g4:=hf pre x;rw[g1]at g4;refine⟨fn,.busy,none,n,env,#[p],assign,body,g3,?_,?_,?_⟩
      ·rw[hN];exact(qaa.1 g3).1
      ·exact zwfc
      ·exact zwcw
    | exit i=>
      obtain⟨H0,g1,g2,g3⟩:=h5;have g4:=hf pre x;rw[g1]at g4;refine⟨fn,.busy,none,n,env,#[p],assign,body,g3,?_,?_,?_⟩
      ·rw[hN];exact(qaa.1 g3).1
      ·exact zwfc
      ·exact zwcw
    | panic v=>
      obtain⟨H0,g1,g2,g3⟩:=h5;have g4:=hf pre x;rw[g1]at g4
      have e3:H3.take (H.length+1)=H0++[lpB fn n env #[p] assign body .busy none]:=by
       have hl:=(qaa.1 g3);rw[qaE hl.1,g2,hl.2]
      refine⟨?_,?_,?_,?_⟩
      ·rw[hN];exact g4.1
      ·rw[hN];exact(qaa.1 g3).1
      ·rw[hN,e3];exact zat g4.2.2 (hun _ _)
      ·rw[hN,e3];simp only[zdP,zbo,g1]
       (first|exact⟨trivial,rfl⟩|exact⟨trivial,trivial⟩)
  | ret=>exact h2.elim
  | exit i=>exact h2.elim
  | panic v=>exact h2.elim
def za1:Ex->Int
 | .mk _ _ _ _ _ l=>(l.attach.map fun x=>za1 x.1).foldl max 0+1
decreasing_by
 have:=qbw x.2
 simp;omega
theorem zgv(e:Ex):za1 e=(e.args.map za1).foldl max 0+1:=by cases e;rw[za1];simp[Ex.args]
theorem zeO(b:Int):∀(l:List Int) (a:Int),a≤b->(∀x∈l,x≤b)->l.foldl max a≤b
 | [],a,h,_=>h
 | x::l,a,h,h2=>zeO b l _ (by have:=h2 x qah;omega) (fun y hy=>h2 y (qai _ hy))
theorem zeN:∀(l:List Int) (a:Int),a≤l.foldl max a
 | [],a=>Int.le_refl _
 | x::l,a=>by have:=zeN l (max a x);simp only[qb0];omega
theorem zqr(e:Ex):1≤za1 e/\za1 e≤wEx e:=by
 generalize hn:wEx e=n
 induction n using Nat.strongRecOn generalizing e with
 | ind n ih=>
   rw[zgv];have h1:=zeN (e.args.map za1) 0
   have h2:(e.args.map za1).foldl max 0≤(n:Int)-1:=by
    refine zeO _ _ _ (by have:=zcG e;omega) fun y hy=>?_
    obtain⟨x,hx,rfl⟩:=qaL.1 hy
    have:=zcS hx
    have:=(ih (wEx x) oA x rfl).2
    omega
   omega
theorem zbg{l:List α}{k:Nat}(h:k<l.length):l.take (k+1)=l.take k++[l[k]]:=qaE h
theorem zlG:∀(m:Nat) (e:Ex),wEx e≤m->wEx e≤1000000000->Pure Tryz.prog 132 [.t (exT e)] (.i (za1 e)):=by
 intro m
 induction m with
 | zero=>intro e he;have:=zcG e;omega
 | succ m ih0=>
   intro e he hb;have ih:∀x∈e.args,Pure Tryz.prog 132 [.t (exT x)] (.i (za1 x)):=fun x hx=>ih0 x (by have:=zcS hx;omega) (by have:=zcS hx;omega)
   clear ih0;have hll:=zvl e;have hdl:∀x∈e.args,za1 x≤1000000000:=fun x hx=>by have:=(zqr x).2;have:=zcS hx;omega
   rw[zgv,zan];unfold exC;generalize e.args=l at ih hll hdl⊢;have hml:(l.map exT).length=l.length:=qac _;refine so Tryz.func132 ?_;repeat' (first|refine wu ?_|exact wkc|refine wk2 ?_ ?_|intro hc)
   refine TR.zaz l.length (fun _=>True) (fun j=>[(3,.i (((l.take j).map za1).foldl max 0)),(7,.t (.sl 6 (l.map exT))),(8,.i l.length),(9,.i j)]) (fun _=>[]) trivial (fun j hlt _=>?_) (fun _=>?_) ⟨rfl,rfl,by rw[<-hml];rfl,rfl,trivial⟩
   ·have hx:=zeA hlt;have hs:=ih l[j] (qak hlt);rw[zan]at hs;have hk:((l.take (j+1)).map za1).foldl max 0=max (((l.take j).map za1).foldl max 0) (za1 l[j]):=by rw[zbg hlt];simp only[qaw,qaf,qaD,qbJ,qb0,List.foldl_nil]
    generalize l[j]=x at hx hs hk;unfold exC at hx hs;refine yb hs ?_;exact zac.zaH hlt trivial (by(try dsimp only);rw[hk];exact⟨rfl,rfl,rfl,rfl,trivial⟩)
   ·rw[qap];have h1:=zeO 1000000000 (l.map za1) 0 oA (fun y hy=>by obtain⟨x,hx,rfl⟩:=qaL.1 hy;exact hdl x hx);have h2:=zeN (l.map za1) 0;refine ya ?_;exact wkr
theorem znp(e:Ex)(h:wEx e≤1000000000):Pure Tryz.prog 132 [.t (exT e)] (.i (za1 e)):=zlG _ e (qag _) h
theorem zn5(e:Ex)(h:wEx e≤1000000000):Pure Tryz.prog 131 [.t (exT e)] (.i (wEx e)):=by
 have hs:=zdQ e;rw[zan]at hs⊢;have hc0:exC e=[T.n e.kind,T.n e.op,T.n e.t,T.n e.v,.s e.name,.sl 6 (e.args.map exT)]:=rfl;have hfl:=zkp e;rw[hc0]at hs⊢;refine so Tryz.func131 ?_;repeat' (first|refine wkb ?_|refine wk ?_|exact wkc|refine wk2 ?_ ?_|refine wv hs ?_|intro hc)
 refine TR.zeV e (fun pre=>[.cells [.i pre.length]]) (fun _ _=>.go) rfl h rfl rfl rfl (fun _=>⟨rfl,rfl⟩) (fun _ _=>trivial) (fun fn pre x post hw=>?_) (fun fn=>?_)
 ·have hl:pre.length<wEx e:=by rw[<-hfl,hw];simp
  refine TR.skip ⟨rfl,?_⟩;repeat' (first|refine wkb ?_|refine wk ?_|exact wkc|refine wk2 ?_ ?_|intro hc)
  exact⟨rfl,oC,rfl⟩
 ·have:∀(l pre:List Ex),zbo (fun _ _=>Out.go) pre l= .go:=by
   intro l
   induction l with
   | nil=>intro _;rfl
   | cons x l ih=>intro pre;simp[zbo,ih]
  rw[this,<-hfl];repeat' (first|refine wkb ?_|refine wk ?_|exact wkc|refine wk2 ?_ ?_|intro hc)
  exact wkr
def tagI(t v:Int):Bool:=(decide (t=1) && (decide (v=0) || decide (v=1))) || (decide (3≤t) && decide (0≤v) && decide (v<16))
def zkd(t n:Int):Bool:=(decide (t=1) && decide (n=2)) || (decide (3≤t) && decide (1≤n) && decide (n≤16))
def opdI(o:Int):Int:=if o=1\/o=2 then 1 else 2
theorem ztv(t v:Int):Pure Tryz.prog 182 [.i t,.i v] (.b (tagI t v)):=by
 refine so Tryz.func182 ?_;repeat' (first|refine wk ?_|exact wkc|refine wk2 ?_ ?_|intro hc)
 all_goals try(refine RetK.pure rfl ?_ rfl;exact Le.of_eq (by simp_all [pack,tagI] <;> omega))
theorem zi2(t n:Int):Pure Tryz.prog 184 [.i t,.i n] (.b (zkd t n)):=by
 refine so Tryz.func184 ?_;repeat' (first|refine wk ?_|exact wkc|refine wk2 ?_ ?_|intro hc)
 all_goals try(refine RetK.pure rfl ?_ rfl;exact Le.of_eq (by simp_all [pack,zkd] <;> omega))
theorem zqM(o:Int):Pure Tryz.prog 183 [.i o] (.i (opdI o)):=by
 refine so Tryz.func183 ?_;repeat' (first|refine wk ?_|exact wkc|refine wk2 ?_ ?_|intro hc)
 all_goals try(refine RetK.pure rfl ?_ rfl;exact Le.of_eq (by simp_all [pack,opdI] <;> omega))
structure Form where
 args:Bool
 op:Bool
 typed:Bool
 name:Bool
 word:Bool
abbrev zxy (f:Form):T:=.ag [.b f.args,.b f.op,.b f.typed,.b f.name,.b f.word]
def ofF(k o t v n:Int):Form:=
 if k=1 then⟨decide (n=0),false,(decide (t=2) && decide (-32768≤v) && decide (v≤32767)) || (!decide (t=2) && tagI t v),false,false⟩
 else if k=2 then⟨decide (n=0),false,decide (t=0) && decide (v=0),true,false⟩
 else if k=3 then⟨decide (n=opdI o),true,decide (t=0) && decide (v=0),false,false⟩
 else if k=4 then⟨decide (n=3),false,decide (t=0) && decide (v=0),false,false⟩
 else if k=5 then⟨decide (n=1),false,decide (t=0) && decide (v=0),false,false⟩
 else if k=6\/k=7 then⟨decide (n=2),false,decide (t=0) && decide (v=0),false,false⟩
 else if k=8 then⟨decide (n=1),false,!decide (t=2) && tagI t v,true,false⟩
 else if k=9 then⟨!decide (t=2) && zkd t n,false,decide (v=0),true,false⟩
 else if k=10 then⟨decide (v≤n),false,decide (t=0) && (decide (v=0) || decide (v=1)),true,false⟩
 else if k=11 then⟨decide (n=0),false,decide (t=0) && decide (v=0),false,true⟩
 else⟨false,false,false,false,false⟩
theorem zuN (k o t v:Int) (nm:Str) (l:List T):Pure Tryz.prog 160 [.t (.ag [.i k,.i o,.i t,.i v,.s nm,.sl 6 l])] (.t (zxy (ofF k o t v l.length))):=by
 have ht:=ztv t v;have hb:=zi2 t l.length;have ho:=zqM o;have hk:k=1\/k=2\/k=3\/k=4\/k=5\/k=6\/k=7\/k=8\/k=9\/k=10\/k=11\/(k<1\/11<k):=oA
 rcases hk with rfl|rfl|rfl|rfl|rfl|rfl|rfl|rfl|rfl|rfl|rfl|hk
 all_goals
  first|rw[show ofF k o t v l.length=⟨false,false,false,false,false⟩ from by unfold ofF;repeat' (first|rw[oH oA]|fail)]|simp only[ofF,Int.reduceEq,if_false,if_true,or_self,or_true,true_or,or_false,false_or]
  refine so Tryz.func160 ?_;repeat' (first|refine wu ?_|exact wkc|refine wk2 ?_ ?_|refine wv ht ?_|refine wv hb ?_|refine wv ho ?_|intro hc)
  all_goals
   refine RetK.pure rfl (Le.tree rfl (TLe.of_eq ?_)) rfl;clear ht hb ho
   simp only[zxy,T.ag.injEq,qbd,T.v.injEq,Value.bool.injEq,and_true,true_eq_decide_iff,false_eq_decide_iff,eq_comm (a:=true),eq_comm (a:=false),qbL,qar,qcQ,qcN,qbA,Bool.not_eq_false',decide_eq_true_eq,decide_eq_false_iff_not,Bool.false_eq_true,true_and,reduceCtorEq] <;>
    first|omega|(simp_all;done)|(simp_all;omega)
def oneI(k o t v:Int)(nm:Str)(n:Int):Int:=
 if 64<n then 3
 else if(ofF k o t v n).args=false\/(ofF k o t v n).typed=false\/((ofF k o t v n).op≠decide (o≠0))\/((ofF k o t v n).op=true/\(o<1\/16<o)) then 5
 else if(ofF k o t v n).name=true then(if ident nm then 0 else 6)
 else if(ofF k o t v n).word=true/\(zez nm).2=0 then 0
 else if nm≠ []\/(ofF k o t v n).word=true then 5 else 0
theorem zsM (k o t v:Int) (nm:Str) (l:List T):Pure Tryz.prog 133 [.t (.ag [.i k,.i o,.i t,.i v,.s nm,.sl 6 l])] (.i (oneI k o t v nm l.length)):=by
 have hf:=zuN k o t v nm l;have hid:=zid nm;have hw:=zml nm;unfold oneI;generalize ofF k o t v l.length=f at*;generalize ident nm=id at*;generalize zez nm=w at*;obtain⟨fa,fo,ft,fn,fw⟩:=f;simp only[zxy]at hf;obtain⟨w1,w2⟩:=w;by_cases h64:64<(l.length:Int)
 ·rw[oG h64];refine so Tryz.func133 ?_;refine ya ?_;exact wkr
 ·rw[oH h64];cases fa with
  | false=>
    rw[oG (.inl rfl)];refine so Tryz.func133 ?_;refine yb hf ?_;exact wkr
  | true=>
    cases ft with
    | false=>
      rw[oG (.inr (.inl rfl))];refine so Tryz.func133 ?_;refine yb hf ?_;exact wkr
    | true=>
      simp only[Bool.true_eq_false,false_or];cases fo <;> cases fn <;> cases fw
      all_goals
       refine so Tryz.func133 ?_;repeat' (first|refine wu ?_|exact wkc|refine wk2 ?_ ?_|refine wv hf ?_|refine wb hid ?_ ?_|refine wv hw ?_|intro hc)
       all_goals
        refine RetK.pure rfl (Le.of_eq ?_) rfl;refine oJ (fun z=>SV.t (T.v (Value.int IntKind.i64 z))) ?_;clear hf hid hw
        first|(simp_all;done)|(simp_all;omega)
def zph(k:Int):Bool:=decide (k=2) || decide (k=8) || decide (k=9) || decide (k=10)
def zlj(k o t v n:Int):Bool:=
 if k=1\/k=2\/k=11 then decide (n=0)
 else if k=3 then(if o=1\/o=2 then decide (n=1) else decide (n=2))
 else if k=4 then decide (n=3)
 else if k=5\/k=8 then decide (n=1)
 else if k=6\/k=7 then decide (n=2)
 else if k=9 then(if t=1 then decide (n=2) else decide (1≤n) && decide (n≤16))
 else decide (1≤n) || decide (v=0)
def zi6(k o t v:Int)(nm:Str)(n:Int):Bool:=
 if k<1\/11<k\/zlj k o t v n=false then false
 else if(decide (k=3) != decide (o≠0))=true\/(o≠0/\(o<1\/16<o)) then false
 else if zph k=false/\k≠11/\nm≠ [] then false
 else if k=1 then(if t=2 then decide (-32768≤v) && decide (v≤32767) else tagI t v)
 else if k=8 then tagI t v
 else if k=9 then(decide (t=1) || decide (2<t)) && decide (v=0)
 else if k=10 then decide (t=0) && (decide (v=0) || decide (v=1))
 else if k=11 then decide (t=0) && decide (v=0) && decide ((zez nm).2=0)
 else decide (t=0) && decide (v=0)
def oneX(x:Ex):Int:=oneI x.kind.1 x.op.1 x.t.1 x.v.1 x.name x.args.length
def zad{α:Type}(g:α->Int):List α->Int
 | []=>0
 | x::l=>if g x=0 then zad g l else g x
theorem zcY{α:Type}(g:α->Int):∀(a b:List α),zad g (a++b)=if zad g a=0 then zad g b else zad g a
 | [],b=>by simp[zad]
 | x::a,b=>by
   simp only[qaZ,zad];by_cases h:g x=0
   ·simp only[h,if_true];exact zcY g a b
   ·simp[h]
def zeC(e:Ex):Int:=if 400<wEx e\/32<za1 e then 3 else zad oneX (flat e)
theorem zqL(x:Ex):Pure Tryz.prog 133 [.t (.ag (exC x))] (.i (oneX x)):=by
 have:=zsM x.kind.1 x.op.1 x.t.1 x.v.1 x.name (x.args.map exT)
 rw[qac]at this;exact this
def errF(g:Ex->Int)(_:List Ex)(x:Ex):Out:=if g x=0 then .go else .jump .ret [.cells [.i (g x)]]
theorem zkP(g:Ex->Int):∀(l pre:List Ex),zbo (errF g) pre l=if zad g l=0 then .go else .jump .ret [.cells [.i (zad g l)]]
 | [],pre=>by simp[zbo,zad]
 | x::l,pre=>by
   simp only[zbo,errF,zad];by_cases h:g x=0
   ·simp only[h,if_true];exact zkP g l _
   ·simp[h]
theorem zlA(e:Ex)(h:wEx e≤1000000000):Pure Tryz.prog 88 [.t (exT e)] (.i (zeC e)):=by
 have hsz:=zn5 e h;have hdp:=znp e h;have hs:=zdQ e;rw[zan]at*;have hc0:exC e=[T.n e.kind,T.n e.op,T.n e.t,T.n e.v,.s e.name,.sl 6 (e.args.map exT)]:=rfl;rw[hc0]at hs hsz hdp⊢;unfold zeC;refine so Tryz.func88 ?_;by_cases h1:400<wEx e\/32<za1 e
 ·rw[oG h1];repeat' (first|refine wkb ?_|refine wk ?_|exact wkc|refine wk2 ?_ ?_|refine wv hsz ?_|refine wv hdp ?_|intro hc)
  all_goals exact wkr
 ·rw[oH h1];repeat' (first|refine wkb ?_|refine wk ?_|exact wkc|refine wk2 ?_ ?_|refine wv hsz ?_|refine wv hdp ?_|refine wv hs ?_|intro hc)
  refine TR.zeV e (fun _=>[.cells [.i 0]]) (errF oneX) rfl h rfl rfl rfl (fun _=>⟨rfl,rfl⟩) (fun pre x=>?_) (fun fn pre x post hw=>?_) (fun fn=>?_)
  ·exact zwdt
  ·have ho:=zqL x;exact zwg
  ·rw[zkP];by_cases h2:zad oneX (flat e)=0
   ·rw[oG h2,h2];refine ya ?_;exact wkr
   ·rw[oH h2];simp only[];refine ya ?_;exact wkr
theorem zsK(k o t v:Int)(nm:Str)(n:Int)(hn:0≤n):oneI k o t v nm n=if 64<n then 3 else if zi6 k o t v nm n=false then 5 else if zph k=true/\ident nm=false then 6 else 0:=by
 unfold oneI;by_cases h64:64<n
 ·rw[oG h64,oG h64]
 rw[oH h64,oH h64];have hk:k=1\/k=2\/k=3\/k=4\/k=5\/k=6\/k=7\/k=8\/k=9\/k=10\/k=11\/(k<1\/11<k):=oA
 generalize ident nm=id;generalize hw:(zez nm).2=w;have hv:v=0\/v=1\/(v≠0/\v≠1):=oA
 rcases hk with rfl|rfl|rfl|rfl|rfl|rfl|rfl|rfl|rfl|rfl|rfl|hk
 case inr.inr.inr.inr.inr.inr.inr.inr.inr.inl=>rcases hv with rfl|rfl|hv <;> grind [ofF,zi6,zlj,zph,opdI,tagI,zkd]
 case inr.inr.inr.inr.inr.inr.inr.inr.inr.inr.inr=>
  have e1:ofF k o t v n=⟨false,false,false,false,false⟩:=by unfold ofF;repeat' (first|rw[oH oA]|fail)
  have e2:zi6 k o t v nm n=false:=by unfold zi6;rw[oG oA]
  rw[e1,e2];simp
 all_goals(clear hv;grind [ofF,zi6,zlj,zph,opdI,tagI,zkd])
end Go.Proofs.YtdicfgideclbdaaGreatDoor
