import Derived.Test.YtddaclniamlmbaaGreatDoorPk13
import Derived.Test.YtddaclniamlmbaaGreatDoorPk14
set_option linter.unusedSimpArgs false
set_option linter.unusedVariables false
namespace Go.Proofs.YtddaclniamlmbaaGreatDoor
open Go Go.TL
attribute [local irreducible] TR TO Then InBlock RetK Sound LoopK Kf GG ThenL
def lpB(fn n:Nat)(env:Env)(ps:Array Tmp)(assign body:Code)(st:LoopState)(pe:Option Code):Blk:=.loop fn st pe n env ps assign body
theorem Each_sound(e:Ex):Pure Tryz.prog 59 [.t (exT e)] (.fn 128 [.cp (exC e) 0]):=by
 rw[exT_eq]
 refine so Tryz.func59 ?_
 repeat' (first|refine wu ?_|exact wkc|intro hc|refine wk2 ?_ ?_|fail)
 exact wkr
def Each1R(S:EachS)(xs:List Ex)(r:Res)(H:Heap):Prop:=
 match scanO S.f [] xs with
 | .go=>r= .ret (.tup [])/\H=S.Hb xs++[S.lp .ready none]
 | .jump c H0=>r= .ret (.tup [])/\H=H0++[S.lp .done (some c)]
 | .panic v H0=>r= .panic v/\H=H0++[S.lp .busy none]
theorem each1_sound(S:EachS)(hS:S.ok)(e:Ex)(hW:wEx e≤1000000000)(hY:∀pre x post,flat e=pre++x::post->YSound Tryz.prog S.L0 (.t (exT x)) (S.Hb pre++[S.lp .ready none]) (EachR S pre [x])):
  Sound Tryz.prog 128 [.yl S.L0,.cp (exC e) 0] (S.Hb []++[S.lp .ready none]) (Each1R S (flat e)):=by
 have hs:=each_sound S hS (flat e) (by rw[flat_len];exact hW) hY (wEx e) e (Nat.le_refl _) [] [] (by simp)
 rw[exT_eq]at hs
 have hout:=scanO_out hS (flat e) []
 have hHb:=hS.1
 have hlp:=hS.2.1
 unfold exC at*
 refine so Tryz.func128 ?_
 repeat' (first|refine wu ?_|exact wkc|intro hc|refine wk2 ?_ ?_|fail)
 refine TO.callA hs rfl rfl rfl ⟨Le.refl _,Le.refl _,trivial⟩ ?_ ?_
 ·intro u H2 hr
  simp only[EachR]at hr
  cases ho:scanO S.f [] (flat e) with
  | panic v0 H0=>rw[ho]at hr;cases hr.1
  | jump c H0=>
    rw[ho]at hr hout
    obtain⟨h1,rfl⟩:=hr
    cases h1
    repeat' (first|refine wu ?_|exact wkc|intro hc|refine wk2 ?_ ?_|fail)
    refine RetK.atN (v:=.tup []) (S.L0+1) rfl (Le.of_eq rfl) (by simp[(hHb _).1]) (by simp[hout.1]) rfl (blksUnder_append hout.2 (by simp[blksUnder,hlp])) ?_
    simp only[Each1R,ho]
    (first|exact⟨trivial,rfl⟩|exact⟨trivial,trivial⟩)
  | go=>
    rw[ho]at hr
    obtain⟨h1,rfl⟩:=hr
    cases h1
    repeat' (first|refine wu ?_|exact wkc|intro hc|refine wk2 ?_ ?_|fail)
    refine RetK.atN (v:=.tup []) (S.L0+1) rfl (Le.of_eq rfl) (by simp[(hHb _).1]) (by simp[(hHb _).1]) rfl (blksUnder_append (hHb _).2 (by simp[blksUnder,hlp])) ?_
    simp only[Each1R,ho]
    (first|exact⟨trivial,rfl⟩|exact⟨trivial,trivial⟩)
 ·intro u H2 hr
  simp only[EachR]at hr
  cases ho:scanO S.f [] (flat e) with
  | panic v0 H0=>
    rw[ho]at hr hout
    obtain⟨h1,rfl⟩:=hr
    cases h1
    repeat' (first|refine wu ?_|exact wkc|intro hc|refine wk2 ?_ ?_|fail)
    refine RetK.atP (S.L0+1) ?_ ?_ hout.1 ?_ ?_
    ·simp[(hHb _).1]
    ·simp[hout.2.1]
    ·exact blksUnder_append hout.2.2 (by simp[blksUnder,hlp])
    simp only[Each1R,ho]
    (first|exact⟨trivial,rfl⟩|exact⟨trivial,trivial⟩)
  | jump c H0=>rw[ho]at hr;cases hr.1
  | go=>rw[ho]at hr;cases hr.1
def RoundK(L0:Nat)(lb:Blk)(Hb:List Ex->Heap)(f:List Ex->Ex->Out)(pre:List Ex)(x:Ex):TK
 | .normal,_,H=>f pre x= .go/\H.take L0=Hb (pre++[x])/\H[L0]?=some lb
 | .ret,_,H=>∃H0,f pre x= .jump .ret H0/\H.take L0=H0/\H[L0]?=some lb
 | .exit i,_,H=>∃H0,f pre x= .jump (.exit i) H0/\H.take L0=H0/\H[L0]?=some lb
 | .panic v,_,H=>∃H0,f pre x= .panic v H0/\H.take L0=H0/\H[L0]?=some lb
def AsgK(P:Program)(n L0:Nat)(lr lb:Blk)(body:Code)(Hb:List Ex->Heap)(f:List Ex->Ex->Out)(pre:List Ex)(x:Ex):TK
 | .normal,env,H=>H[L0]?=some lr/\TR P n body env (H.set L0 lb) (RoundK L0 lb Hb f pre x)
 | _,_,_=>False
theorem take_set_last{α:Type}{H:List α}{L:Nat}{a b:α}(h:H[L]?=some a):(H.set L b).take (L+1)=H.take L++[b]:=by
 have hl:=(List.getElem?_eq_some_iff.1 h).1
 rw[List.take_succ_eq_append_getElem (by simpa using hl),List.take_set,List.set_eq_of_length_le (by simp;omega)]
 simp
theorem TR.rangeEach{n:Nat}{g:Operand}{p:Tmp}{assign body:Code}{env:Env}{H:Heap}{K:TK}(e:Ex)(Hb:List Ex->Heap)(f:List Ex->Ex->Out)(hg:env.val g=some (.fn 128 [.cp (exC e) 0]))(hW:wEx e≤1000000000)
  (h0:Hb []=H)(hp:Nat.ble (p+1) n=true)(henv:(env.all fun x=>x.2.under (H.length+1))=true)(hHb:∀pre,(Hb pre).length=H.length/\blksUnder (H.length+1) (Hb pre)=true)
  (hf:∀pre x,match f pre x with
    | .go=>True
    | .jump c H1=>H1.length=H.length/\blksUnder (H.length+1) H1=true
    | .panic v H1=>v.under (H.length+1)=true/\H1.length=H.length/\blksUnder (H.length+1) H1=true)
  (round:∀fn pre x post,flat e=pre++x::post->TR Tryz.prog n assign ((p,.t (.ag (exC x)))::env) (Hb pre++[lpB fn n env #[p] assign body .ready none]) (AsgK Tryz.prog n H.length (lpB fn n env #[p] assign body .ready none) (lpB fn n env #[p] assign body .busy none) body Hb f pre x))
  (fin:∀fn,match scanO f [] (flat e) with
    | .go=>K .normal env (Hb (flat e)++[.dead])
    | .jump .ret H1=>K .ret env (H1++[.dead])
    | .jump (.exit i) H1=>K (.exit i) env (H1++[.dead])
    | .jump _ _=>False
    | .panic v H1=>K (.panic v) env (H1++[lpB fn n env #[p] assign body .busy none])):TR Tryz.prog n (.rangeFunc g #[p] assign body) env H K:=by
 refine TR.rangeFunc hg fun fn hfn=>?_
 have fin:=fin fn
 have hS:EachS.ok ⟨H.length,Hb,lpB fn n env #[p] assign body,f⟩:=by
  refine⟨hHb,fun st pe=>?_,fun pre x=>hf pre x⟩
  exact henv
 have hpl:∀pre:List Ex,(Hb pre).length=H.length:=fun pre=>(hHb pre).1
 have:=each1_sound ⟨H.length,Hb,lpB fn n env #[p] assign body,f⟩ hS e hW ?_
 ·simp only[h0]at this
  refine Sound.mono this fun r H' hr=>?_
  simp only[Each1R]at hr
  cases ho:scanO f [] (flat e) with
  | go=>
    rw[ho]at hr fin
    obtain⟨rfl,rfl⟩:=hr
    simp only[RangeK]
    refine⟨fn,.ready,none,n,env,#[p],assign,body,?_,by simp,?_⟩
    ·rw[<-hpl (flat e)];simp[lpB]
    ·have:(Hb (flat e)++[lpB fn n env #[p] assign body LoopState.ready none]).set H.length .dead=Hb (flat e)++[.dead]:=by rw[<-hpl (flat e)];simp
     rw[this];exact fin
  | jump c H1=>
    have hl:=scanO_out hS (flat e) []
    rw[ho]at hr fin
    simp only[ho]at hl
    obtain⟨rfl,rfl⟩:=hr
    simp only[RangeK]
    refine⟨fn,.done,some c,n,env,#[p],assign,body,?_,by simp,?_⟩
    ·rw[<-hl.1];simp[lpB]
    ·have:(H1++[lpB fn n env #[p] assign body LoopState.done (some c)]).set H.length .dead=H1++[.dead]:=by rw[<-hl.1];simp
     simp only[this]
     cases c <;> first|exact fin|exact fin.elim
  | panic v H1=>
    rw[ho]at hr fin
    obtain⟨rfl,rfl⟩:=hr
    exact fin
 ·intro pre x post hw
  have hid:(Hb pre++[lpB fn n env #[p] assign body .ready none])[H.length]?=some (.loop fn .ready none n env #[p] assign body):=by rw[<-hpl pre];simp[lpB]
  refine YSound.of hfn hid hp ?_
  have h1:=round fn pre x post hw
  rw[exT_eq]
  refine TR.mono h1 fun te env2 H2 h2=>?_
  cases te with
  | normal=>
    obtain⟨h3,h4⟩:=h2
    refine⟨fn,none,n,env,#[p],assign,body,h3,?_⟩
    refine TR.mono h4 fun te env3 H3 h5=>?_
    have hN:(Hb pre++[lpB fn n env #[p] assign body .ready none]).length=H.length+1:=by simp[hpl]
    have hun:∀st pe,blksUnder (H.length+1) [lpB fn n env #[p] assign body st pe]=true:=fun st pe=>by simp only[blksUnder,Bool.and_true];exact henv
    cases te with
    | normal=>
      obtain⟨g1,g2,g3⟩:=h5
      refine⟨fn,.busy,none,n,env,#[p],assign,body,g3,?_,?_,?_⟩
      ·rw[hN];exact(List.getElem?_eq_some_iff.1 g3).1
      ·rw[hN,take_set_last g3,g2];exact blksUnder_append (hHb _).2 (hun _ _)
      ·rw[hN,take_set_last g3,g2]
       simp only[EachR,scanO,g1]
       (first|exact⟨trivial,rfl⟩|exact⟨trivial,trivial⟩)
    | ret=>
      obtain⟨H0,g1,g2,g3⟩:=h5
      have g4:=hf pre x
      rw[g1]at g4
      refine⟨fn,.busy,none,n,env,#[p],assign,body,g3,?_,?_,?_⟩
      ·rw[hN];exact(List.getElem?_eq_some_iff.1 g3).1
      ·rw[hN,take_set_last g3,g2];exact blksUnder_append g4.2 (hun _ _)
      ·rw[hN,take_set_last g3,g2]
       simp only[EachR,scanO,g1]
       (first|exact⟨trivial,rfl⟩|exact⟨trivial,trivial⟩)
    | exit i=>
      obtain⟨H0,g1,g2,g3⟩:=h5
      have g4:=hf pre x
      rw[g1]at g4
      refine⟨fn,.busy,none,n,env,#[p],assign,body,g3,?_,?_,?_⟩
      ·rw[hN];exact(List.getElem?_eq_some_iff.1 g3).1
      ·rw[hN,take_set_last g3,g2];exact blksUnder_append g4.2 (hun _ _)
      ·rw[hN,take_set_last g3,g2]
       simp only[EachR,scanO,g1]
       (first|exact⟨trivial,rfl⟩|exact⟨trivial,trivial⟩)
    | panic v=>
      obtain⟨H0,g1,g2,g3⟩:=h5
      have g4:=hf pre x
      rw[g1]at g4
      have e3:H3.take (H.length+1)=H0++[lpB fn n env #[p] assign body .busy none]:=by
       have hl:=(List.getElem?_eq_some_iff.1 g3)
       rw[List.take_succ_eq_append_getElem hl.1,g2,hl.2]
      refine⟨?_,?_,?_,?_⟩
      ·rw[hN];exact g4.1
      ·rw[hN];exact(List.getElem?_eq_some_iff.1 g3).1
      ·rw[hN,e3];exact blksUnder_append g4.2.2 (hun _ _)
      ·rw[hN,e3]
       simp only[EachR,scanO,g1]
       (first|exact⟨trivial,rfl⟩|exact⟨trivial,trivial⟩)
  | ret=>exact h2.elim
  | exit i=>exact h2.elim
  | panic v=>exact h2.elim
def exDepth:Ex->Int
 | .mk _ _ _ _ _ l=>(l.attach.map fun x=>exDepth x.1).foldl max 0+1
decreasing_by
 have:=List.sizeOf_lt_of_mem x.2
 simp;omega
theorem exDepth_eq(e:Ex):exDepth e=(e.args.map exDepth).foldl max 0+1:=by cases e;rw[exDepth];simp[Ex.args]
theorem foldl_max_le(b:Int):∀(l:List Int) (a:Int),a≤b->(∀x∈l,x≤b)->l.foldl max a≤b
 | [],a,h,_=>h
 | x::l,a,h,h2=>foldl_max_le b l _ (by have:=h2 x List.mem_cons_self;omega) (fun y hy=>h2 y (List.mem_cons_of_mem _ hy))
theorem foldl_max_ge:∀(l:List Int) (a:Int),a≤l.foldl max a
 | [],a=>Int.le_refl _
 | x::l,a=>by have:=foldl_max_ge l (max a x);simp only[List.foldl_cons];omega
theorem exDepth_le(e:Ex):1≤exDepth e/\exDepth e≤wEx e:=by
 generalize hn:wEx e=n
 induction n using Nat.strongRecOn generalizing e with
 | ind n ih=>
   rw[exDepth_eq]
   have h1:=foldl_max_ge (e.args.map exDepth) 0
   have h2:(e.args.map exDepth).foldl max 0≤(n:Int)-1:=by
    refine foldl_max_le _ _ _ (by have:=wEx_pos e;omega) fun y hy=>?_
    obtain⟨x,hx,rfl⟩:=List.mem_map.1 hy
    have:=wEx_arg hx
    have:=(ih (wEx x) (by omega) x rfl).2
    omega
   omega
theorem take_at{α:Type}{l:List α}{k:Nat}(h:k<l.length):l.take (k+1)=l.take k++[l[k]]:=List.take_succ_eq_append_getElem h
theorem depth_sound':∀(m:Nat) (e:Ex),wEx e≤m->wEx e≤1000000000->Pure Tryz.prog 158 [.t (exT e)] (.i (exDepth e)):=by
 intro m
 induction m with
 | zero=>intro e he;have:=wEx_pos e;omega
 | succ m ih0=>
   intro e he hb
   have ih:∀x∈e.args,Pure Tryz.prog 158 [.t (exT x)] (.i (exDepth x)):=fun x hx=>ih0 x (by have:=wEx_arg hx;omega) (by have:=wEx_arg hx;omega)
   clear ih0
   have hll:=wEx_args e
   have hdl:∀x∈e.args,exDepth x≤1000000000:=fun x hx=>by have:=(exDepth_le x).2;have:=wEx_arg hx;omega
   rw[exDepth_eq,exT_eq]
   unfold exC
   generalize e.args=l at ih hll hdl⊢
   have hml:(l.map exT).length=l.length:=List.length_map _
   refine so Tryz.func158 ?_
   repeat' (first|refine wu ?_|exact wkc|intro hc|refine wk2 ?_ ?_|fail)
   refine TR.loopN l.length (fun _=>True) (fun j=>[(3,.i (((l.take j).map exDepth).foldl max 0)),(7,.t (.sl 6 (l.map exT))),(8,.i l.length),(9,.i j)]) (fun _=>[]) trivial (fun j hlt _=>?_) (fun _=>?_) ⟨rfl,rfl,by rw[<-hml];rfl,rfl,trivial⟩
   ·have hx:=at_exT hlt
    have hs:=ih l[j] (List.getElem_mem hlt)
    rw[exT_eq]at hs
    have hk:((l.take (j+1)).map exDepth).foldl max 0=max (((l.take j).map exDepth).foldl max 0) (exDepth l[j]):=by rw[take_at hlt];simp only[List.map_append,List.map_cons,List.map_nil,List.foldl_append,List.foldl_cons,List.foldl_nil]
    generalize l[j]=x at hx hs hk
    unfold exC at hx hs
    repeat' (first|refine wu ?_|exact wkc|intro hc|refine wk2 ?_ ?_|refine wv hs ?_|fail)
    exact LoopK.nextN hlt trivial (by(try dsimp only);rw[hk];exact⟨rfl,rfl,rfl,rfl,trivial⟩)
   ·rw[List.take_length]
    have h1:=foldl_max_le 1000000000 (l.map exDepth) 0 (by omega) (fun y hy=>by obtain⟨x,hx,rfl⟩:=List.mem_map.1 hy;exact hdl x hx)
    have h2:=foldl_max_ge (l.map exDepth) 0
    repeat' (first|refine wu ?_|exact wkc|intro hc|refine wk2 ?_ ?_|fail)
    exact wkr
theorem depth_sound(e:Ex)(h:wEx e≤1000000000):Pure Tryz.prog 158 [.t (exT e)] (.i (exDepth e)):=depth_sound' _ e (Nat.le_refl _) h
theorem sizeE_sound(e:Ex)(h:wEx e≤1000000000):Pure Tryz.prog 157 [.t (exT e)] (.i (wEx e)):=by
 have hs:=Each_sound e
 rw[exT_eq]at hs⊢
 have hc0:exC e=[T.n e.kind,T.n e.op,T.n e.t,T.n e.v,.s e.name,.sl 6 (e.args.map exT)]:=rfl
 have hfl:=flat_len e
 rw[hc0]at hs⊢
 refine so Tryz.func157 ?_
 repeat' (first|refine wkb ?_|refine wk ?_|exact wkc|intro hc|refine wk2 ?_ ?_|refine wv hs ?_|fail)
 refine TR.rangeEach e (fun pre=>[.cells [.i pre.length]]) (fun _ _=>.go) rfl h rfl rfl rfl (fun _=>⟨rfl,rfl⟩) (fun _ _=>trivial) (fun fn pre x post hw=>?_) (fun fn=>?_)
 ·have hl:pre.length<wEx e:=by rw[<-hfl,hw];simp
  refine TR.skip ⟨rfl,?_⟩
  repeat' (first|refine wkb ?_|refine wk ?_|exact wkc|intro hc|refine wk2 ?_ ?_|fail|fail)
  exact⟨rfl,by simp,rfl⟩
 ·have:∀(l pre:List Ex),scanO (fun _ _=>Out.go) pre l= .go:=by
   intro l
   induction l with
   | nil=>intro _;rfl
   | cons x l ih=>intro pre;simp[scanO,ih]
  rw[this,<-hfl]
  repeat' (first|refine wkb ?_|refine wk ?_|exact wkc|intro hc|refine wk2 ?_ ?_|fail|fail)
  exact wkr
def bit(c:UInt8):Bool:=decide ((c.toNat:Int)=48) || decide ((c.toNat:Int)=49)
abbrev bitT (c:UInt8):T:=.v (.bool (decide ((c.toNat:Int)=49)))
abbrev bitsT (l:Str):T:=.sl 1 (l.map bitT)
theorem tw_end(p:UInt8->Bool):∀(l:Str) (c:UInt8),l[(l.takeWhile p).length]?=some c->p c=false
 | [],c,h=>by simp at h
 | a::l,c,h=>by
   by_cases hp:p a=true
   ·simp only[List.takeWhile_cons,hp,if_true,List.length_cons,List.getElem?_cons_succ]at h
    exact tw_end p l c h
   ·simp only[List.takeWhile_cons,hp]at h
    simp at h
    subst h
    simpa using hp
theorem tw_len(p:UInt8->Bool):∀(l:Str),(l.takeWhile p).length≤l.length
 | []=>Nat.le_refl _
 | a::l=>by
   simp only[List.takeWhile_cons]
   split
   ·have:=tw_len p l;simp;omega
   ·simp
theorem checkW_sound(h l:Str)(hs:h.length≤1000)(hl:l.length≤1000):Pure Tryz.prog 303 [.t (.ag [bitsT h,bitsT l])] (.i (if l.length=0 then 5 else if 64<h.length+l.length then 3 else 0)):=by
 have h1:(h.map bitT).length=h.length:=List.length_map _
 have h2:(l.map bitT).length=l.length:=List.length_map _
 refine so Tryz.func303 ?_
 repeat' (first|refine wu ?_|exact wkc|intro hc|refine wk2 ?_ ?_|fail)
 ·rw[if_pos (by omega)];exact wkr
 ·rw[if_neg (by omega),if_pos (by omega)];exact wkr
 ·rw[if_neg (by omega),if_neg (by omega)];exact wkr
theorem letters_sound(s:Str)(hs:s.length≤1000):Pure Tryz.prog 302 [.s s] (.tup [.t (bitsT (if s.all bit then s else[])),.b (s.all bit)]):=by
 refine so Tryz.func302 ?_
 repeat' (first|refine wk ?_|exact wkc|intro hc|refine wk2 ?_ ?_|fail)
 refine TR.tail 1 4 rfl ?_
 refine TR.loopN s.length (fun k=>(s.take k).all bit=true) (fun k=>[(0,.s s),(7,.i s.length),(8,.i k),(4,.sl 1 ((s.take k).map bitT) 0)]) (fun k=>[.tail ((s.take k).map bitT).length]) rfl (fun k hlt ha=>?_) (fun ha=>?_)
 ·have hx:=List.getElem?_eq_getElem hlt
  have htk:=List.take_succ_eq_append_getElem hlt
  have hm:=List.getElem_mem hlt
  generalize s[k]=c at hx htk hm
  have hmk:((s.take k).map bitT).length≤1000:=by simp;omega
  repeat' (first|refine wk ?_|exact wkc|intro hc|refine wk2 ?_ ?_|fail)
  all_goals first
   | (refine LoopK.nextN hlt (by rw[htk,List.all_append,ha];simp[bit];omega) ?_ ?_
      ·rw[htk,List.map_append]
       simp only[List.map_cons,List.map_nil,bitT, *]
       exact⟨rfl,rfl,rfl,rfl,trivial⟩
      ·rw[htk,List.map_append,List.length_append];rfl)
   | (have h0:s.all bit=false:=List.all_eq_false.2 ⟨c,hm,by simp[bit];omega⟩
      rw[h0]
      simp only[Bool.false_eq_true,if_false,List.map_nil]
      exact wkr)
   | (exfalso;simp_all;done)
 ·rw[List.take_length]at ha⊢
  rw[ha]
  repeat' (first|refine wk ?_|exact wkc|intro hc|refine wk2 ?_ ?_|fail)
  exact wkr
def wordP(s:Str):(Str×Str)×Int:=
 if 66<s.length then(([],[]),3) else
 match s.drop (s.takeWhile bit).length with
 | 40::r=>if r.drop (r.takeWhile bit).length=[41]/\r.takeWhile bit≠ [] then((s.takeWhile bit,r.takeWhile bit),0) else(([],[]),5)
 | _=>(([],[]),5)
abbrev wordT (w:Str×Str):T:=.ag [bitsT w.1,bitsT w.2]
def cutS(s:Str)(c:UInt8):Str×Str×Bool:=
 if c∈s then(s.takeWhile (· != c),s.drop ((s.takeWhile (· != c)).length+1),true) else(s,[],false)
theorem indexByte_mem(c:UInt8):∀(s:Str),Lib.indexByte s c=if c∈s then((s.takeWhile (· != c)).length:Int) else -1
 | []=>by simp[Lib.indexByte]
 | b::l=>by
   have ih:=indexByte_mem c l
   unfold Lib.indexByte
   by_cases hb:b=c
   ·subst hb;simp
   ·have h1:(b == c)=false:=by simpa using hb
    have h2:(b != c)=true:=by simpa using hb
    rw[ih]
    by_cases hm:c∈l
    ·have:((l.takeWhile (· != c)).length:Int)≠ -1:=by omega
     simp[h1,h2,hm,this,List.takeWhile_cons]
    ·have hc:¬c=b:=fun e=>hb e.symm
     simp[h1,hm,hc]
theorem indexByteS_sound(s:Str)(c:UInt8):Pure Tryz.prog 363 [.s s,.t (.v (.int .u8 c.toNat))] (.i (Lib.indexByte s c)):=by
 refine so Tryz.func363 ?_
 repeat' (first|refine wk ?_|exact wkc|intro hc|refine wk2 ?_ ?_|(apply TO.extern_indexByte;exact rfl;exact Tryz.func369;kernel_rfl;kernel_rfl;kernel_rfl;kernel_rfl;exact rfl;exact rfl)|fail)
 refine RetK.pure rfl (Le.of_eq ?_) rfl
 simp[pack]
theorem index_sound(s:Str)(c:UInt8):Pure Tryz.prog 353 [.s s,.s [c]] (.i (Lib.indexByte s c)):=by
 refine so Tryz.func353 ?_
 repeat' (first|refine wk ?_|exact wkc|intro hc|refine wk2 ?_ ?_|refine wv (indexByteS_sound s c) ?_|fail)
 ·subst hc
  rw[show Lib.indexByte [c] c=0 from by simp[Lib.indexByte]]
  exact wkr
 ·exact wkr
theorem cut0_sound(s:Str)(c:UInt8)(hs:s.length≤1000000000):Pure Tryz.prog 336 [.s s,.s [c]] (.tup [.s (cutS s c).1,.s (cutS s c).2.1,.b (cutS s c).2.2]):=by
 have hi:=index_sound s c
 rw[indexByte_mem]at hi
 by_cases hm:c∈s
 ·rw[if_pos hm]at hi
  have hle:=tw_len (· != c) s
  have hlt:(s.takeWhile (· != c)).length<s.length:=by
   refine Nat.lt_of_le_of_ne hle fun e=>?_
   have:∀l:Str,(l.takeWhile (· != c)).length=l.length->c ∉ l:=by
    intro l
    induction l with
    | nil=>simp
    | cons a l ih=>
      intro h
      by_cases ha:(a != c)=true
      ·simp only[List.takeWhile_cons,ha,if_true,List.length_cons]at h
       have:=ih (by omega)
       simp at ha
       simp[this];exact fun e=>ha e.symm
      ·simp[List.takeWhile_cons,ha]at h
   exact this s e hm
  have htk:s.takeWhile (· != c)=s.take (s.takeWhile (· != c)).length:=by
   conv=>rhs;arg 2;rw[<-List.takeWhile_append_dropWhile (p:=(· != c)) (l:=s)]
   rw[List.take_left]
  simp only[cutS,hm,if_true]
  rw[htk]
  have hlen:(s.take (s.takeWhile (· != c)).length).length=(s.takeWhile (· != c)).length:=by rw[<-htk]
  rw[hlen]
  generalize (s.takeWhile (· != c)).length=k at hi hlt hle⊢
  clear htk hlen
  refine so Tryz.func336 ?_
  repeat' (first|refine wk ?_|exact wkc|intro hc|refine wk2 ?_ ?_|refine wv hi ?_|(apply TO.slice_lo (a:=k+1) tabOk;exact rfl;exact rfl;exact rfl;exact rfl;exact rfl;omega)|fail)
  exact wkr
 ·rw[if_neg hm]at hi
  simp only[cutS,hm,if_false]
  refine so Tryz.func336 ?_
  repeat' (first|refine wk ?_|exact wkc|intro hc|refine wk2 ?_ ?_|refine wv hi ?_|fail)
  exact wkr
theorem cut_sound(s:Str)(c:UInt8)(hs:s.length≤1000000000):Pure Tryz.prog 300 [.s s,.s [c]] (.tup [.s (cutS s c).1,.s (cutS s c).2.1,.b (cutS s c).2.2]):=by
 refine so Tryz.func300 ?_
 repeat' (first|refine wk ?_|exact wkc|intro hc|refine wk2 ?_ ?_|refine wv (cut0_sound s c hs) ?_|fail)
 exact wkr
def endsIn(s:Str)(c:UInt8):Bool:=decide (1≤s.length) && s.drop (s.length-1) == [c]
theorem hasSuf_sound(s:Str)(c:UInt8)(hs:s.length≤1000000000):Pure Tryz.prog 354 [.s s,.s [c]] (.b (endsIn s c)):=by
 by_cases h1:1≤s.length
 ·obtain⟨k,hk⟩:∃k,s.length=k+1:=⟨s.length-1,by omega⟩
  have hkk:s.length-1=k:=by omega
  have hki:(s.length:Int)-(([c]:Str).length:Int)=(k:Int):=by simp;omega
  refine so Tryz.func354 ?_
  repeat' (first|refine wk ?_|exact wkc|intro hc|refine wk2 ?_ ?_|(apply TO.slice_lo (a:=k) tabOk;exact rfl;exact rfl;exact rfl;exact rfl;exact congrArg (fun z=>some (SV.i z)) hki;omega)|fail)
  all_goals
   refine RetK.pure rfl (Le.of_eq ?_) rfl
   simp only[pack,endsIn,hkk,h1,decide_true,Bool.true_and,SV.t.injEq,T.v.injEq,Value.bool.injEq]
   simp[hc]
 ·refine so Tryz.func354 ?_
  repeat' (first|refine wk ?_|exact wkc|intro hc|refine wk2 ?_ ?_|fail)
  all_goals first
   | (exfalso;simp at hc;omega)
   | (refine RetK.pure rfl (Le.of_eq ?_) rfl
      simp[pack,endsIn,h1])
def cutE(s:Str)(c:UInt8):Str×Bool:=if endsIn s c then(s.take (s.length-1),true) else(s,false)
theorem cutE0_sound(s:Str)(c:UInt8)(hs:s.length≤1000000000):Pure Tryz.prog 337 [.s s,.s [c]] (.tup [.s (cutE s c).1,.b (cutE s c).2]):=by
 have hf:=hasSuf_sound s c hs
 cases he:endsIn s c with
 | true=>
   rw[he]at hf
   have h1:1≤s.length:=by simp[endsIn]at he;omega
   obtain⟨k,hk⟩:∃k,s.length=k+1:=⟨s.length-1,by omega⟩
   have hkk:s.length-1=k:=by omega
   have hki:(s.length:Int)-(([c]:Str).length:Int)=(k:Int):=by simp;omega
   simp only[cutE,he,if_true,hkk]
   refine so Tryz.func337 ?_
   repeat' (first|refine wk ?_|exact wkc|intro hc|refine wk2 ?_ ?_|refine wv hf ?_|(apply TO.slice_hi (b:=k) tabOk;exact rfl;exact rfl;exact rfl;exact rfl;exact congrArg (fun z=>some (SV.i z)) hki;omega)|fail)
   exact wkr
 | false=>
   rw[he]at hf
   simp only[cutE,he]
   refine so Tryz.func337 ?_
   repeat' (first|refine wk ?_|exact wkc|intro hc|refine wk2 ?_ ?_|refine wv hf ?_|fail)
   exact wkr
theorem cutE_sound(s:Str)(c:UInt8)(hs:s.length≤1000000000):Pure Tryz.prog 301 [.s s,.s [c]] (.tup [.s (cutE s c).1,.b (cutE s c).2]):=by
 refine so Tryz.func301 ?_
 repeat' (first|refine wk ?_|exact wkc|intro hc|refine wk2 ?_ ?_|refine wv (cutE0_sound s c hs) ?_|fail)
 exact wkr
theorem cutS_len(s:Str)(c:UInt8):(cutS s c).1.length≤s.length/\(cutS s c).2.1.length≤s.length:=by
 unfold cutS
 split
 ·exact⟨tw_len _ _,by simp⟩
 ·simp
theorem cutE_len(s:Str)(c:UInt8):(cutE s c).1.length≤s.length:=by
 unfold cutE;split <;> simp
def wordQ(s:Str):(Str×Str)×Int:=
 let a:=cutS s 40
 let b:=cutE a.2.1 41
 if 66<s.length then(([],[]),3)
 else if a.2.2=true/\b.2=true/\a.1.all bit=true/\b.1.all bit=true/\b.1.length≠0/\a.1.length+b.1.length≤64 then((a.1,b.1),0) else(([],[]),5)
theorem parseQ_sound(s:Str):Pure Tryz.prog 224 [.s s] (.tup [.t (wordT (wordQ s).1),.i (wordQ s).2]):=by
 by_cases h66:66<s.length
 ·rw[show wordQ s=(([],[]),3) from if_pos h66]
  refine so Tryz.func224 ?_
  repeat' (first|refine wk ?_|exact wkc|intro hc|refine wk2 ?_ ?_|fail)
  exact wkr
 ·have hs:s.length≤1000000000:=by omega
  have hq:wordQ s=if(cutS s 40).2.2=true/\(cutE (cutS s 40).2.1 41).2=true/\(cutS s 40).1.all bit=true/\(cutE (cutS s 40).2.1 41).1.all bit=true/\(cutE (cutS s 40).2.1 41).1.length≠0/\(cutS s 40).1.length+(cutE (cutS s 40).2.1 41).1.length≤64
    then(((cutS s 40).1,(cutE (cutS s 40).2.1 41).1),0) else(([],[]),5):=if_neg h66
  have c1:=cut_sound s 40 hs
  have l1:=cutS_len s 40
  generalize cutS s 40=a at hq c1 l1
  obtain⟨fr,re,is⟩:=a
  simp only at hq c1 l1
  have c2:=cutE_sound re 41 (by omega)
  have l2:=cutE_len re 41
  generalize cutE re 41=b at hq c2 l2
  obtain⟨bk,cl⟩:=b
  simp only at hq c2 l2
  have c3:=letters_sound fr (by omega)
  have c4:=letters_sound bk (by omega)
  have hW:∀ {x:Int},Pure Tryz.prog 224 [.s s] (.tup [.t (wordT ([],[])),.i 5])->wordQ s=(([],[]),5)->Pure Tryz.prog 224 [.s s] (.tup [.t (wordT (wordQ s).1),.i (wordQ s).2]):=fun h e=>by rw[e];exact h
  cases is with
  | false=>
    refine hW (x:=0) ?_ (by rw[hq,if_neg (by simp)])
    refine so Tryz.func224 ?_
    repeat' (first|refine wk ?_|exact wkc|intro hc|refine wk2 ?_ ?_|refine wv c1 ?_|refine wv c2 ?_|refine wv c3 ?_|refine wv c4 ?_|fail)
    all_goals exact wkr
  | true=>
    cases cl with
    | false=>
      refine hW (x:=0) ?_ (by rw[hq,if_neg (by simp)])
      refine so Tryz.func224 ?_
      repeat' (first|refine wk ?_|exact wkc|intro hc|refine wk2 ?_ ?_|refine wv c1 ?_|refine wv c2 ?_|refine wv c3 ?_|refine wv c4 ?_|fail)
      all_goals exact wkr
    | true=>
      cases h1:fr.all bit with
      | false=>
        rw[h1]at c3
        refine hW (x:=0) ?_ (by rw[hq,if_neg (by simp[h1])])
        refine so Tryz.func224 ?_
        repeat' (first|refine wk ?_|exact wkc|intro hc|refine wk2 ?_ ?_|refine wv c1 ?_|refine wv c2 ?_|refine wv c3 ?_|refine wv c4 ?_|fail)
        all_goals exact wkr
      | true=>
        rw[h1]at c3
        cases h2:bk.all bit with
        | false=>
          rw[h2]at c4
          refine hW (x:=0) ?_ (by rw[hq,if_neg (by simp[h2])])
          refine so Tryz.func224 ?_
          repeat' (first|refine wk ?_|exact wkc|intro hc|refine wk2 ?_ ?_|refine wv c1 ?_|refine wv c2 ?_|refine wv c3 ?_|refine wv c4 ?_|fail)
          all_goals exact wkr
        | true=>
          rw[if_pos rfl]at c3
          rw[h2,if_pos rfl]at c4
          have c5:=checkW_sound fr bk (by omega) (by omega)
          by_cases e1:bk.length=0
          ·rw[if_pos e1]at c5
           refine hW (x:=0) ?_ (by rw[hq,if_neg (by simp[e1])])
           refine so Tryz.func224 ?_
           repeat' (first|refine wk ?_|exact wkc|intro hc|refine wk2 ?_ ?_|refine wv c1 ?_|refine wv c2 ?_|refine wv c3 ?_|refine wv c4 ?_|refine wv c5 ?_|fail)
           all_goals exact wkr
          ·rw[if_neg e1]at c5
           by_cases e2:64<fr.length+bk.length
           ·rw[if_pos e2]at c5
            refine hW (x:=0) ?_ (by rw[hq,if_neg (by rintro⟨-,-,-,-,-,h⟩;omega)])
            refine so Tryz.func224 ?_
            repeat' (first|refine wk ?_|exact wkc|intro hc|refine wk2 ?_ ?_|refine wv c1 ?_|refine wv c2 ?_|refine wv c3 ?_|refine wv c4 ?_|refine wv c5 ?_|fail)
            all_goals exact wkr
           ·rw[if_neg e2]at c5
            rw[hq,if_pos ⟨rfl,rfl,h1,h2,e1,by omega⟩]
            refine so Tryz.func224 ?_
            repeat' (first|refine wk ?_|exact wkc|intro hc|refine wk2 ?_ ?_|refine wv c1 ?_|refine wv c2 ?_|refine wv c3 ?_|refine wv c4 ?_|refine wv c5 ?_|fail)
            all_goals exact wkr
theorem bit_not{c:UInt8}(h:bit c=true):c≠40/\c≠41:=by
 refine⟨fun e=>?_,fun e=>?_⟩ <;> (subst e;revert h;decide)
theorem drop_tw(p:UInt8->Bool)(l:Str):l=l.takeWhile p++l.drop (l.takeWhile p).length:=by
 conv=>lhs;rw[<-List.takeWhile_append_dropWhile (p:=p) (l:=l)]
 congr 1
 conv=>rhs;arg 2;rw[<-List.takeWhile_append_dropWhile (p:=p) (l:=l)]
 rw[List.drop_left]
theorem tw_append(p:UInt8->Bool):∀(a:Str) (c:UInt8) (b:Str),a.all p=true->p c=false->(a++c::b).takeWhile p=a
 | [],c,b,_,hc=>by simp[List.takeWhile_cons,hc]
 | x::a,c,b,h,hc=>by
   simp only[List.all_cons,Bool.and_eq_true]at h
   simp[List.takeWhile_cons,h.1,tw_append p a c b h.2 hc]
theorem tw_all(p:UInt8->Bool):∀(l:Str),(l.takeWhile p).all p=true
 | []=>rfl
 | a::l=>by
   by_cases h:p a=true
   ·simp only[List.takeWhile_cons,h,if_true,List.all_cons,Bool.true_and];exact tw_all p l
   ·simp[List.takeWhile_cons,h]
def wshape(s h l:Str):Prop:=s=h++40::(l++[41])/\h.all bit=true/\l.all bit=true/\l≠ []
theorem wordP_shape{s h l:Str}(hs:¬66<s.length)(w:wshape s h l):wordP s=((h,l),0):=by
 obtain⟨rfl,h1,h2,h3⟩:=w
 have e1:(h++40::(l++[41])).takeWhile bit=h:=tw_append bit h 40 _ h1 (by decide)
 have e2:(l++[41]).takeWhile bit=l:=tw_append bit l 41 [] h2 (by decide)
 unfold wordP
 rw[if_neg hs,e1,List.drop_left]
 simp only[e2,List.drop_left]
 rw[if_pos ⟨trivial,h3⟩]
theorem wordP_inv{s:Str}(hs:¬66<s.length):(∃h l,wshape s h l)\/wordP s=(([],[]),5):=by
 unfold wordP
 rw[if_neg hs]
 split
 ·rename_i r hr
  split
  ·rename_i h
   refine .inl ⟨s.takeWhile bit,r.takeWhile bit,?_,tw_all _ _,tw_all _ _,h.2⟩
   have e1:=drop_tw bit s
   have e2:=drop_tw bit r
   rw[hr]at e1
   rw[h.1]at e2
   rw[<-e2];exact e1
  ·exact .inr rfl
 ·exact .inr rfl
theorem wordQ_shape{s h l:Str}(hs:¬66<s.length)(w:wshape s h l):wordQ s=((h,l),0):=by
 obtain⟨rfl,h1,h2,h3⟩:=w
 have hne:∀(a:Str),a.all bit=true->a.all (· != 40)=true:=fun a ha=>List.all_eq_true.2 fun c hc=>by
  have:=(bit_not (List.all_eq_true.1 ha c hc)).1
  simpa using this
 have e1:(h++40::(l++[41])).takeWhile (· != 40)=h:=tw_append _ h 40 _ (hne h h1) (by decide)
 have e2:cutS (h++40::(l++[41])) 40=(h,l++[41],true):=by
  unfold cutS
  rw[if_pos (by simp),e1]
  have:(h++40::(l++[41])).drop (h.length+1)=l++[41]:=by
   rw[show h++40::(l++[41])=(h++[40])++(l++[41]) from by simp]
   exact List.drop_left' (by simp)
  rw[this]
 have e3:cutE (l++[41]) 41=(l,true):=by
  unfold cutE endsIn
  simp
 have e4:l.length≠0:=fun e=>h3 (List.eq_nil_of_length_eq_zero e)
 unfold wordQ
 simp only[if_neg hs,e2,e3]
 rw[if_pos]
 simp only[List.length_append,List.length_cons,List.length_nil]at hs
 exact⟨by trivial,by trivial,h1,h2,e4,by omega⟩
theorem wordQ_inv{s:Str}(hs:¬66<s.length):(∃h l,wshape s h l)\/wordQ s=(([],[]),5):=by
 unfold wordQ
 simp only[if_neg hs]
 split
 ·rename_i h
  obtain⟨h1,h2,h3,h4,h5,h6⟩:=h
  refine .inl ⟨(cutS s 40).1,(cutE (cutS s 40).2.1 41).1,?_,h3,h4,fun e=>h5 (by rw[e];rfl)⟩
  have g1:(cutE (cutS s 40).2.1 41).1++[41]=(cutS s 40).2.1:=by
   generalize (cutS s 40).2.1=r at h2⊢
   unfold cutE at h2⊢
   split
   ·rename_i he
    unfold endsIn at he
    simp only[Bool.and_eq_true,decide_eq_true_eq,beq_iff_eq]at he
    have:=List.take_append_drop (r.length-1) r
    rw[he.2]at this
    exact this
   ·rename_i he;rw[if_neg he]at h2;cases h2
  rw[g1]
  clear h2 h3 h4 h5 h6 g1
  unfold cutS at h1⊢
  split
  ·rename_i hm
   have e1:=drop_tw (· != 40) s
   have hend:∀c,s[(s.takeWhile (· != 40)).length]?=some c->c=40:=fun c hc=>by
    have:=tw_end (· != 40) s c hc
    simpa using this
   cases hd:s.drop (s.takeWhile (· != 40)).length with
   | nil=>
     rw[hd,List.append_nil]at e1
     rw[e1]at hm
     have:=List.all_eq_true.1 (tw_all (· != 40) s) 40 hm
     simp at this
   | cons c r=>
     have hx:s[(s.takeWhile (· != 40)).length]?=some c:=by
      have:=List.getElem?_drop (xs:=s) (i:=(s.takeWhile (· != 40)).length) (j:=0)
      rw[hd]at this
      simpa using this.symm
     have:=hend c hx
     subst this
     rw[<-List.tail_drop,hd,List.tail_cons,<-hd]
     exact e1
  ·rename_i hm;rw[if_neg hm]at h1;cases h1
 ·exact .inr rfl
theorem wordQ_eq(s:Str):wordQ s=wordP s:=by
 by_cases hs:66<s.length
 ·unfold wordQ wordP;rw[if_pos hs];simp[hs]
 ·rcases wordP_inv hs with ⟨h,l,w⟩|h
  ·rw[wordP_shape hs w,wordQ_shape hs w]
  ·rcases wordQ_inv hs with ⟨h',l,w⟩|h'
   ·rw[wordP_shape hs w,wordQ_shape hs w]
   ·rw[h,h']
theorem parseW_sound(s:Str):Pure Tryz.prog 224 [.s s] (.tup [.t (wordT (wordP s).1),.i (wordP s).2]):=by
 rw[<-wordQ_eq];exact parseQ_sound s
end Go.Proofs.YtddaclniamlmbaaGreatDoor
