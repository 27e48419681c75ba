import Derived.Test.YtcbhlhmebbkgnaaGreatPk14
import Derived.Test.YtcbhlhmebbkgnaaGreatPk15
set_option linter.unusedSimpArgs false
set_option linter.unusedVariables false
namespace Go.TL
open Go
section rules
variable {P:Program}{n:Nat}{env:Env}{H:Heap}{K:TK}{all:Array Oper}{rest:List Oper}{tab:Tab}{q:Bool}
variable {d:Nat}{ty:TypeId}{pos:String}{aft:Array Edge}
theorem TO.cap_nil(hT:TabOk P tab){t e:TypeId}{i:TyI}{x:Operand}(hd:Nat.ble (d+1) n=true)(ht:tab.get t=some i)(hk:i.k= .slice e)(hx:env.val x=some (.t (.v (.slice none 0 0))))
  (k:TO q P n all rest ((d,.t (.v (.int .i64 0)))::env) H K):TO q P n all (⟨some d,.call { callee:=.builtin .cap,args:=#[x],argTypes:=#[t] },ty,pos,aft,none⟩::rest) env H K:=
 TO.op hd (fun m ac h1 h2 h3=>⟨.int .i64 0,fun w' hw'=>by
  simp[execOp,resolve,invoke,builtin,Builtin.cap_,underlying,(hT t i ht).slice hk,(h3.val hx).v_eq,goInt],.t _ _ (.v _)⟩) k
theorem TO.slice_nil(hT:TabOk P tab){t e:TypeId}{i ie:TyI}{x z:Operand}{ik:IntKind}(hd:Nat.ble (d+1) n=true)(ht:tab.get t=some i)(hk:i.k= .slice e)(he:tab.get e=some ie)
  (hx:env.val x=some (.t (.v (.slice none 0 0))))(hz:env.val z=some (.t (.v (.int ik 0))))
  (k:TO q P n all rest ((d,.t (.v (.slice none 0 0)))::env) H K):TO q P n all (⟨some d,.slice t x none (some z) none,ty,pos,aft,none⟩::rest) env H K:=
 TO.op hd (fun m ac g1 g2 g3=>by
  refine⟨.slice none 0 0,fun w' hw'=>?_,.t _ _ (.v _)⟩
  have:=slice_sl_run (P:=P) hT ht hk he none 0 0 none (some (ac.eval z)) 0 0 w' (.inl ⟨rfl,rfl⟩) (.inr ⟨ik,by rw[(g3.val hz).v_eq];rfl⟩) (Nat.le_refl _) (Nat.le_refl _)
  simp only[Nat.sub_zero,Option.map_none,ite_self]at this
  simp[execOp,(g3.val hx).v_eq,this]) k
theorem TO.slice_ms0(hT:TabOk P tab){t e:TypeId}{i ie:TyI}{x z:Operand}{sz id off len:Nat}{ik:IntKind}(hd:Nat.ble (d+1) n=true)(ht:tab.get t=some i)(hk:i.k= .slice e)(he:tab.get e=some ie)
  (hx:env.val x=some (.ms sz id off len))(hz:env.val z=some (.t (.v (.int ik 0))))
  (k:TO q P n all rest ((d,.ms sz id off 0)::env) H K):TO q P n all (⟨some d,.slice t x none (some z) none,ty,pos,aft,none⟩::rest) env H K:=
 TO.slice_ms hT hd ht hk he hx (b:=0) hz (Nat.zero_le _) k
end rules
end Go.TL
namespace Go.TL
open Go
theorem under_ts(k:Nat)(ts:List T):blksUnder k [.cells (ts.map .t)]=true:=by
 simp[blksUnder,Blk.under,unders_t]
end Go.TL
namespace Go.Proofs.YtcbhlhmebbkgnaaGreat
open Go Go.TL
attribute [local irreducible] TR TO Then InBlock RetK Sound LoopK Kf GG ThenL
abbrev zD:List T:=[.v (str []),.v (.int .i64 0),.v (.slice none 0 0)]
theorem grow_sound(c:Nat)(h1:1≤c)(h2:c≤3000000000):Sound Tryz.prog 78 [.t (.v (.slice none 0 0)),.i c] [] (fun r H'=>r= .ret (.ms 3 0 0 0)/\H'=[.cells (zerosOf zD c)]):=by
 refine Sound.of tabOk Tryz.func78 (by kernel_rfl) rfl rfl ?_
 repeat' (first|refine wk ?_|exact wkc|intro hc|refine wk2 ?_ ?_|(apply TO.cap_nil tabOk;exact rfl;exact rfl;exact rfl;exact rfl)|(apply TO.slice_nil tabOk;exact rfl;exact rfl;exact rfl;exact rfl;exact rfl;exact rfl)|(apply TO.append_zeros tabOk (c:=c) (ik':=.i64);exact rfl;exact rfl;exact rfl;exact rfl;exact rfl;exact rfl;kernel_rfl;exact rfl;exact rfl;omega;omega;exact rfl)|(apply TO.slice_ms0 tabOk;exact rfl;exact rfl;exact rfl;exact rfl;exact rfl;exact rfl)|fail)
 exact RetK.at 1 rfl (Le.refl _) (Nat.zero_le _) rfl rfl (under_ts 1 _) ⟨rfl,rfl⟩
theorem grow0_sound:Pure Tryz.prog 78 [.t (.v (.slice none 0 0)),.i 0] (.t (.v (.slice none 0 0))):=by
 refine Sound.of tabOk Tryz.func78 (by kernel_rfl) rfl rfl ?_
 repeat' (first|refine wk ?_|exact wkc|intro hc|refine wk2 ?_ ?_|(apply TO.cap_nil tabOk;exact rfl;exact rfl;exact rfl;exact rfl)|fail)
 exact wkr
theorem declT_cells(d:Decl):(declT d).cells.length=3:=rfl
abbrev dls (l:List Decl):T:=.sl 3 (l.map declT)
def declCs(l:List Decl):List T:=((l.map declT).map T.cells).flatten
theorem declCs_len(l:List Decl):(declCs l).length=l.length*3:=by
 have:=(flat_cells (sz:=3) (l.map declT) (fun e he=>by obtain⟨d,_,rfl⟩:=List.mem_map.1 he;rfl)).1
 rw[List.length_map]at this
 exact this
theorem declCs_append(a b:List Decl):declCs (a++b)=declCs a++declCs b:=by simp[declCs]
theorem cat_len{α:Type}{ls:List (List α)}{k:Nat}(h:k<ls.length):(ls.take (k+1)).flatten.length=(ls.take k).flatten.length+ls[k].length/\(ls.take (k+1)).flatten.length≤ls.flatten.length:=by
 constructor
 ·rw[List.take_succ_eq_append_getElem h,List.flatten_append,List.length_append];simp
 ·conv=>rhs;rw[<-List.take_append_drop (k+1) ls]
  rw[List.flatten_append,List.length_append];omega
theorem cat_at{α:Type}{ls:List (List α)}{k:Nat}(h:k<ls.length):(ls.take (k+1)).flatten=(ls.take k).flatten++ls[k]:=by
 rw[List.take_succ_eq_append_getElem h,List.flatten_append];simp
theorem at_dls{ls:List (List Decl)}{k:Nat}(h:k<ls.length):(ls.map dls)[k]?=some (dls ls[k]):=by simp[h]
theorem concat_sound(ls:List (List Decl))(hl:ls.length≤1000000)(hn:ls.flatten.length≤3000000000)(h1:1≤ls.flatten.length):
  Sound Tryz.prog 52 [.t (.sl 1 (ls.map dls))] [] (fun r H'=>r= .ret (.ms 3 0 0 ls.flatten.length)/\H'=[.cells ((declCs ls.flatten).map .t)]):=by
 have hml:(ls.map dls).length=ls.length:=List.length_map _
 refine Sound.of tabOk Tryz.func52 (by kernel_rfl) rfl rfl ?_
 repeat' (first|refine wk ?_|exact wkc|intro hc|refine wk2 ?_ ?_|fail|fail)
 refine TR.loopN ls.length (fun _=>True) (fun k=>[(0,.t (.sl 1 (ls.map dls))),(3,.i ((ls.take k).flatten.length:Nat)),(9,.t (.sl 1 (ls.map dls))),(10,.i ls.length),(11,.i k)]) (fun _=>[]) trivial (fun k hlt _=>?_) (fun _=>?_) ⟨rfl,rfl,rfl,by rw[<-hml];rfl,rfl,trivial⟩
 ·obtain⟨f1,f2⟩:=cat_len hlt
  have hx:=at_dls hlt
  have hm2:(ls[k].map declT).length=ls[k].length:=List.length_map _
  generalize ls[k]=a at hx f1 hm2
  repeat' (first|refine wk ?_|exact wkc|intro hc|refine wk2 ?_ ?_|fail|fail)
  exact LoopK.nextN hlt trivial ⟨rfl,by rw[f1];simp only[List.length_map];rfl,rfl,rfl,rfl,trivial⟩
 ·rw[List.take_length]
  repeat' (first|refine wk ?_|exact wkc|intro hc|refine wk2 ?_ ?_|(apply TO.callMs (tl:=(List.replicate ls.flatten.length zD).flatten) (grow_sound ls.flatten.length h1 hn);exact rfl;exact rfl;exact rfl;exact Les.refl _;exact rfl)|fail)
  refine TR.loopN ls.length (fun _=>True) (fun k=>[(6,.ms 3 0 0 (ls.take k).flatten.length),(25,.t (.sl 1 (ls.map dls))),(26,.i ls.length),(27,.i k)]) (fun k=>[.cells (mixC (declCs (ls.take k).flatten) zD (ls.flatten.length-(ls.take k).flatten.length))]) trivial (fun k hlt _=>?_) (fun _=>?_) ⟨rfl,rfl,by rw[<-hml];rfl,rfl,trivial⟩
  ·obtain⟨f1,f2⟩:=cat_len hlt
   have f3:=cat_at hlt
   have hx:=at_dls hlt
   have hm2:(ls[k].map declT).length=ls[k].length:=List.length_map _
   have hfit:0+((ls.take k).flatten.length+(ls[k].map declT).length)*3≤(mixC (declCs (ls.take k).flatten) zD (ls.flatten.length-(ls.take k).flatten.length)).length:=by
    rw[mixC_len,declCs_len,hm2]
    show _≤_+_*3
    omega
   have hsp:[Blk.cells (mixC (declCs (ls.take k).flatten) zD (ls.flatten.length-(ls.take k).flatten.length))].set 0 (.cells (splice (mixC (declCs (ls.take k).flatten) zD (ls.flatten.length-(ls.take k).flatten.length)) (0+(ls.take k).flatten.length*3) ((((ls[k].map declT).map T.cells).flatten).map .t)))=
     [Blk.cells (mixC (declCs (ls.take (k+1)).flatten) zD (ls.flatten.length-(ls.take (k+1)).flatten.length))]:=by
    have e:=mixC_splice (declCs (ls.take k).flatten) (declCs ls[k]) zD (ls.flatten.length-(ls.take k).flatten.length) ls[k].length (0+(ls.take k).flatten.length*3) (by omega) (by rw[declCs_len];omega) (declCs_len _)
    refine congrArg (fun c=>[Blk.cells c]) (e.trans ?_)
    rw[f3,declCs_append,List.length_append]
    congr 1
    omega
   generalize hb1:(ls.take (k+1)).flatten=b1 at*
   generalize (ls.take k).flatten=b0 at*
   generalize ls[k]=a at*
   repeat' (first|refine wk ?_|exact wkc|intro hc|refine wk2 ?_ ?_|(apply TO.append_ms tabOk;exact rfl;exact rfl;exact rfl;exact rfl;exact rfl;exact rfl;exact rfl;exact rfl;exact rfl;exact rfl;exact rfl;exact rfl;exact hfit;exact hsp)|fail)
   exact LoopK.nextN hlt trivial ⟨by rw[hb1,f1,<-hm2];rfl,rfl,rfl,rfl,trivial⟩ (by rw[hb1])
  ·rw[List.take_length,Nat.sub_self,mixC_zero]
   repeat' (first|refine wk ?_|exact wkc|intro hc|refine wk2 ?_ ?_|fail|fail)
   exact RetK.at 1 rfl (Le.refl _) (Nat.zero_le _) rfl rfl (under_ts 1 _) ⟨rfl,rfl⟩
def flat:Ex->List Ex
 | .mk k o t v n l=>.mk k o t v n l::(l.attach.map fun x=>flat x.1).flatten
decreasing_by
 have:=List.sizeOf_lt_of_mem x.2
 simp;omega
def flats(l:List Ex):List Ex:=(l.map flat).flatten
theorem flat_eq(e:Ex):flat e=e::flats e.args:=by
 cases e
 rw[flat];simp[flats,Ex.args]
inductive Out where
 | go
 | jump (c:Code) (H:Heap)
 | panic (v:SV) (H:Heap)
def scanO(f:List Ex->Ex->Out):List Ex->List Ex->Out
 | _,[]=>.go
 | pre,x::l=>match f pre x with
   | .go=>scanO f (pre++[x]) l
   | o=>o
theorem scanO_append(f:List Ex->Ex->Out):∀(a b pre:List Ex),scanO f pre (a++b)=match scanO f pre a with
  | .go=>scanO f (pre++a) b
  | o=>o
 | [],b,pre=>by simp[scanO]
 | x::a,b,pre=>by
   simp only[List.cons_append,scanO]
   cases f pre x with
   | go=>simp only[];rw[scanO_append f a b (pre++[x])];simp
   | jump c H=>rfl
   | panic v H=>rfl
structure EachS where
 L0:Nat
 Hb:List Ex->Heap
 lp:LoopState->Option Code->Blk
 f:List Ex->Ex->Out
def EachS.ok(S:EachS):Prop:=
 (∀pre,(S.Hb pre).length=S.L0/\blksUnder (S.L0+1) (S.Hb pre)=true)/\(∀st pe,(S.lp st pe).under (S.L0+1)=true)/\
 ∀pre x,match S.f pre x with
  | .go=>True
  | .jump c H=>H.length=S.L0/\blksUnder (S.L0+1) H=true
  | .panic v H=>v.under (S.L0+1)=true/\H.length=S.L0/\blksUnder (S.L0+1) H=true
def EachR(S:EachS)(pre xs:List Ex)(r:Res)(H:Heap):Prop:=
 match scanO S.f pre xs with
 | .go=>r= .ret (.b true)/\H=S.Hb (pre++xs)++[S.lp .ready none]
 | .jump c H0=>r= .ret (.b false)/\H=H0++[S.lp .done (some c)]
 | .panic v H0=>r= .panic v/\H=H0++[S.lp .busy none]
theorem flats_append(a b:List Ex):flats (a++b)=flats a++flats b:=by simp[flats]
theorem flats_split(l:List Ex){j:Nat}(h:j<l.length):flats l=flats (l.take j)++(flat l[j]++flats (l.drop (j+1))):=by
 have:l=l.take j++([l[j]]++l.drop (j+1)):=by
  rw[List.singleton_append,<-List.drop_eq_getElem_cons h,List.take_append_drop]
 conv=>lhs;rw[this]
 rw[flats_append,flats_append]
 simp[flats]
theorem flats_take(l:List Ex){j:Nat}(h:j<l.length):flats (l.take (j+1))=flats (l.take j)++flat l[j]:=by
 rw[List.take_succ_eq_append_getElem h,flats_append];simp[flats]
theorem flat_pos(e:Ex):0<(flat e).length:=by rw[flat_eq];simp
theorem flats_len:∀l:List Ex,l.length≤(flats l).length
 | []=>Nat.zero_le _
 | x::l=>by
   have h1:=flats_len l
   have:=flat_pos x
   simp only[flats,List.map_cons,List.flatten_cons,List.length_append,List.length_cons]at h1⊢
   omega
theorem flat_len(e:Ex):(flat e).length=wEx e:=by
 generalize hn:wEx e=n
 induction n using Nat.strongRecOn generalizing e with
 | ind n ih=>
   have h:∀l:List Ex,(∀x∈l,wEx x<n)->(flats l).length=(l.map wEx).sum:=by
    intro l
    induction l with
    | nil=>intro _;rfl
    | cons x l ihl=>
      intro hx
      have h1:=ihl fun y hy=>hx y (List.mem_cons_of_mem _ hy)
      have h2:=ih (wEx x) (hx x List.mem_cons_self) x rfl
      simp only[flats,List.map_cons,List.flatten_cons,List.length_append,List.sum_cons]at h1⊢
      omega
   rw[flat_eq,List.length_cons,h e.args (fun x hx=>by have:=wEx_arg hx;omega)]
   rw[wEx_eq]at hn
   omega
theorem blksUnder_append{k:Nat}:∀ {a b:Heap},blksUnder k a=true->blksUnder k b=true->blksUnder k (a++b)=true
 | [],b,_,h=>h
 | x::a,b,h1,h2=>by
   simp only[blksUnder,Bool.and_eq_true]at h1
   simp[blksUnder,h1.1,blksUnder_append h1.2 h2]
theorem scanO_out{S:EachS}(h:S.ok):∀(xs pre:List Ex),match scanO S.f pre xs with
  | .go=>True
  | .jump c H=>H.length=S.L0/\blksUnder (S.L0+1) H=true
  | .panic v H=>v.under (S.L0+1)=true/\H.length=S.L0/\blksUnder (S.L0+1) H=true
 | [],pre=>by simp[scanO]
 | x::xs,pre=>by
   have h2:=h.2.2 pre x
   simp only[scanO]
   cases hq:S.f pre x with
   | go=>exact scanO_out h xs (pre++[x])
   | jump c H=>rw[hq]at h2;exact h2
   | panic v H=>rw[hq]at h2;exact h2
theorem eachR_within{S:EachS}(h:S.ok)(pre xs:List Ex):Within (S.L0+1) (EachR S pre xs):=by
 have ho:=scanO_out h xs pre
 have one:∀st pe,blksUnder (S.L0+1) [S.lp st pe]=true:=fun st pe=>by simp[blksUnder,h.2.1]
 constructor
 ·intro v H' hr
  unfold EachR at hr
  split at hr
  ·obtain⟨h1,rfl⟩:=hr
   cases h1
   exact⟨rfl,by simp[(h.1 _).1],blksUnder_append (h.1 _).2 (one _ _)⟩
  ·rename_i c H0 hq
   rw[hq]at ho
   obtain⟨h1,rfl⟩:=hr
   cases h1
   exact⟨rfl,by simp[ho.1],blksUnder_append ho.2 (one _ _)⟩
  ·obtain⟨h1,_⟩:=hr;cases h1
 ·intro v H' hr
  unfold EachR at hr
  split at hr
  ·obtain⟨h1,_⟩:=hr;cases h1
  ·obtain⟨h1,_⟩:=hr;cases h1
  ·rename_i u H0 hq
   rw[hq]at ho
   obtain⟨h1,rfl⟩:=hr
   cases h1
   exact⟨ho.1,by simp[ho.2.1],blksUnder_append ho.2.2 (one _ _)⟩
set_option maxHeartbeats 1000000 in
theorem each_sound (S:EachS) (hS:S.ok) (whole:List Ex) (hW:whole.length≤1000000000) (hY:∀pre x post,whole=pre++x::post->YSound Tryz.prog S.L0 (.t (exT x)) (S.Hb pre++[S.lp .ready none]) (EachR S pre [x])):
  ∀(m:Nat) (e:Ex),wEx e≤m->∀(pre post:List Ex),whole=pre++(flat e++post)->Sound Tryz.prog 110 [.t (exT e),.yl S.L0] (S.Hb pre++[S.lp .ready none]) (EachR S pre (flat e)):=by
 intro m
 induction m with
 | zero=>intro e he;have:=wEx_pos e;omega
 | succ m ih0=>
   intro e he pre post hw
   have ih:∀x∈e.args,∀(pre post:List Ex),whole=pre++(flat x++post)->Sound Tryz.prog 110 [.t (exT x),.yl S.L0] (S.Hb pre++[S.lp .ready none]) (EachR S pre (flat x)):=
    fun x hx=>ih0 x (by have:=wEx_arg hx;omega)
   clear ih0
   have hN:(S.Hb pre++[S.lp .ready none]).length=S.L0+1:=by simp[(hS.1 _).1]
   have hbu:∀pre,blksUnder (S.L0+1) (S.Hb pre++[S.lp .ready none])=true:=fun pre=>blksUnder_append (hS.1 _).2 (by simp[blksUnder,hS.2.1])
   have hy:=hY pre e (flats e.args++post) (by rw[hw,flat_eq];simp)
   have hflat:=flat_eq e
   rw[exT_eq]at hy⊢
   have hll:e.args.length≤1000000000:=by
    have h1:=flats_len e.args
    have h2:=congrArg List.length hw
    simp[hflat]at h2
    omega
   generalize hl:e.args=l at ih hflat hll
   have hC:exC e=[T.n e.kind,T.n e.op,T.n e.t,T.n e.v,.s e.name,.sl 6 (l.map exT)]:=by rw[<-hl];rfl
   rw[hC]at hy⊢
   have hml:(l.map exT).length=l.length:=List.length_map _
   generalize hG:S.Hb pre++[S.lp .ready none]=G at hy hN⊢
   have hGu:blksUnder (S.L0+1) G=true:=by rw[<-hG];exact hbu pre
   refine Sound.of tabOk Tryz.func110 (by kernel_rfl) rfl rfl ?_
   repeat' (first|refine wkt ?_|refine wk ?_|exact wkc|intro hc|refine wk2 ?_ ?_|fail)
   have hGt:G.take (S.L0+1)=G:=List.take_of_length_le (by omega)
   have hGd:G.drop (S.L0+1)=[]:=List.drop_of_length_le (by omega)
   refine TO.yieldT (S.L0+1) (arg:=.t (.ag [T.n e.kind,T.n e.op,T.n e.t,T.n e.v,.s e.name,.sl 6 (l.map exT)])) hy (eachR_within hS pre [_]) rfl rfl rfl rfl (Nat.lt_succ_self _) (by omega) hGt hGu ?_ ?_
   ·intro u H' hr
    simp only[EachR,scanO]at hr
    rw[hGd,List.append_nil]
    cases hf:S.f pre e with
    | panic v0 H0=>rw[hf]at hr;cases hr.1
    | jump c H0=>
      rw[hf]at hr
      obtain⟨h1,rfl⟩:=hr
      cases h1
      have ho:=hS.2.2 pre e
      rw[hf]at ho
      repeat' (first|refine wkt ?_|refine wk ?_|exact wkc|intro hc|refine wk2 ?_ ?_|fail)
      refine RetK.at (v:=.b false) (S.L0+1) rfl (Le.of_eq rfl) (by omega) (by simp[ho.1]) rfl (blksUnder_append ho.2 (by simp[blksUnder,hS.2.1])) ?_
      simp[EachR,hflat,scanO,hf]
    | go=>
      rw[hf]at hr
      obtain⟨h1,rfl⟩:=hr
      cases h1
      repeat' (first|refine wkt ?_|refine wk ?_|exact wkc|intro hc|refine wk2 ?_ ?_|fail)
      refine TR.loopN l.length (fun j=>scanO S.f (pre++[e]) (flats (l.take j))= .go) (fun j=>[(14,.i j),(13,.i l.length),(12,.t (.sl 6 (l.map exT))),(1,.yl S.L0),(4,.b false)])
       (fun j=>S.Hb (pre++[e]++flats (l.take j))++[S.lp .ready none]) (by simp[flats,scanO]) (fun j hlt hsc=>?_) (fun hsc=>?_) ⟨rfl,by rw[<-hml];rfl,rfl,rfl,rfl,trivial⟩ (by simp[flats])
      ·have hGj:(S.Hb (pre++[e]++flats (l.take j))++[S.lp .ready none]).length=S.L0+1:=by simp[(hS.1 _).1]
       have hGjd:(S.Hb (pre++[e]++flats (l.take j))++[S.lp .ready none]).drop (S.L0+1)=[]:=List.drop_of_length_le (by omega)
       have hx:=at_exT hlt
       have hw':whole=(pre++[e]++flats (l.take j))++(flat l[j]++(flats (l.drop (j+1))++post)):=by
        rw[hw,hflat,flats_split l hlt];simp
       have hs:=ih l[j] (List.getElem_mem hlt) _ _ hw'
       rw[exT_eq]at hs
       repeat' (first|refine wkt ?_|refine wk ?_|exact wkc|intro hc|refine wk2 ?_ ?_|fail)
       refine TO.callT (S.L0+1) hs (eachR_within hS _ _) rfl rfl rfl ⟨Le.of_eq rfl,Le.refl _,trivial⟩ (by simp[unders,SV.under,Nat.blt_eq]) (by omega) (List.take_of_length_le (by omega)) (hbu _) ?_ ?_
       ·intro u H2 hr2
        have hout:=scanO_out hS (flat l[j]) (pre++[e]++flats (l.take j))
        simp only[EachR]at hr2
        rw[hGjd,List.append_nil]
        cases ho:scanO S.f (pre++[e]++flats (l.take j)) (flat l[j]) with
        | panic v0 H0=>rw[ho]at hr2;cases hr2.1
        | jump c H0=>
          rw[ho]at hr2 hout
          obtain⟨h1,rfl⟩:=hr2
          cases h1
          repeat' (first|refine wkt ?_|refine wk ?_|exact wkc|intro hc|refine wk2 ?_ ?_|fail)
          refine RetK.at (v:=.b false) (S.L0+1) rfl (Le.of_eq rfl) (by omega) (by simp[hout.1]) rfl (blksUnder_append hout.2 (by simp[blksUnder,hS.2.1])) ?_
          have:scanO S.f pre (flat e)= .jump c H0:=by
           rw[hflat,scanO,hf]
           simp only[]
           rw[flats_split l hlt,scanO_append,hsc]
           simp only[]
           rw[scanO_append,ho]
          simp[EachR,this]
        | go=>
          rw[ho]at hr2
          obtain⟨h1,rfl⟩:=hr2
          cases h1
          repeat' (first|refine wkt ?_|refine wk ?_|exact wkc|intro hc|refine wk2 ?_ ?_|fail)
          refine LoopK.nextN hlt ?_ ⟨rfl,rfl,rfl,rfl,rfl,trivial⟩ (by rw[flats_take l hlt];simp)
          rw[flats_take l hlt,scanO_append,hsc]
          exact ho
       ·intro u H2 hr2
        have hout:=scanO_out hS (flat l[j]) (pre++[e]++flats (l.take j))
        simp only[EachR]at hr2
        rw[hGjd,List.append_nil]
        cases ho:scanO S.f (pre++[e]++flats (l.take j)) (flat l[j]) with
        | panic v0 H0=>
          rw[ho]at hr2 hout
          obtain⟨h1,rfl⟩:=hr2
          cases h1
          repeat' (first|refine wkt ?_|refine wk ?_|exact wkc|intro hc|refine wk2 ?_ ?_|fail)
          refine LoopK.panic ?_
          repeat' (first|refine wkt ?_|refine wk ?_|exact wkc|intro hc|refine wk2 ?_ ?_|fail)
          refine RetK.atP (S.L0+1) ?_ ?_ hout.1 ?_ ?_
          ·omega
          ·simp[hout.2.1]
          ·exact blksUnder_append hout.2.2 (by simp[blksUnder,hS.2.1])
          have:scanO S.f pre (flat e)= .panic u H0:=by
           rw[hflat,scanO,hf]
           simp only[]
           rw[flats_split l hlt,scanO_append,hsc]
           simp only[]
           rw[scanO_append,ho]
          simp[EachR,this]
        | jump c H0=>rw[ho]at hr2;cases hr2.1
        | go=>rw[ho]at hr2;cases hr2.1
      ·have hGj:(S.Hb (pre++[e]++flats (l.take l.length))++[S.lp .ready none]).length=S.L0+1:=by simp[(hS.1 _).1]
       repeat' (first|refine wkt ?_|refine wk ?_|exact wkc|intro hc|refine wk2 ?_ ?_|fail)
       refine RetK.at (v:=.b true) (S.L0+1) rfl (Le.of_eq rfl) (by omega) hGj rfl (hbu _) ?_
       have:scanO S.f pre (flat e)= .go:=by
        rw[hflat,scanO,hf]
        simp only[]
        rw[List.take_length]at hsc
        exact hsc
       simp only[EachR,this]
       exact⟨trivial,by rw[hflat];simp⟩
   ·intro u H' hr
    simp only[EachR,scanO]at hr
    rw[hGd,List.append_nil]
    cases hf:S.f pre e with
    | panic v0 H0=>
      have ho:=hS.2.2 pre e
      rw[hf]at hr ho
      obtain⟨h1,rfl⟩:=hr
      cases h1
      repeat' (first|refine wkt ?_|refine wk ?_|exact wkc|intro hc|refine wk2 ?_ ?_|fail)
      refine RetK.atP (S.L0+1) ?_ ?_ ho.1 ?_ ?_
      ·omega
      ·simp[ho.2.1]
      ·exact blksUnder_append ho.2.2 (by simp[blksUnder,hS.2.1])
      simp[EachR,hflat,scanO,hf]
    | jump c H0=>rw[hf]at hr;cases hr.1
    | go=>rw[hf]at hr;cases hr.1
def lpB(fn n:Nat)(env:Env)(ps:Array Tmp)(assign body:Code)(st:LoopState)(pe:Option Code):Blk:=.loop fn st pe n env ps assign body
theorem Each_sound(e:Ex):Pure Tryz.prog 71 [.t (exT e)] (.fn 109 [.cp (exC e) 0]):=by
 rw[exT_eq]
 refine Sound.of tabOk Tryz.func71 (by kernel_rfl) rfl rfl ?_
 repeat' (first|refine wkt ?_|refine wk ?_|exact wkc|intro hc|refine wk2 ?_ ?_|fail)
 exact wkr
def Each1R(S:EachS)(xs:List Ex)(r:Res)(H:Heap):Prop:=
 match scanO S.f [] xs with
 | .go=>r= .ret (.tup [])/\H=S.Hb xs++[S.lp .ready none]
 | .jump c H0=>r= .ret (.tup [])/\H=H0++[S.lp .done (some c)]
 | .panic v H0=>r= .panic v/\H=H0++[S.lp .busy none]
theorem each1_sound(S:EachS)(hS:S.ok)(e:Ex)(hW:wEx e≤1000000000)(hY:∀pre x post,flat e=pre++x::post->YSound Tryz.prog S.L0 (.t (exT x)) (S.Hb pre++[S.lp .ready none]) (EachR S pre [x])):
  Sound Tryz.prog 109 [.yl S.L0,.cp (exC e) 0] (S.Hb []++[S.lp .ready none]) (Each1R S (flat e)):=by
 have hs:=each_sound S hS (flat e) (by rw[flat_len];exact hW) hY (wEx e) e (Nat.le_refl _) [] [] (by simp)
 rw[exT_eq]at hs
 have hout:=scanO_out hS (flat e) []
 have hHb:=hS.1
 have hlp:=hS.2.1
 unfold exC at*
 refine Sound.of tabOk Tryz.func109 (by kernel_rfl) rfl rfl ?_
 repeat' (first|refine wkt ?_|refine wk ?_|exact wkc|intro hc|refine wk2 ?_ ?_|fail)
 refine TO.callA hs rfl rfl rfl ⟨Le.refl _,Le.refl _,trivial⟩ ?_ ?_
 ·intro u H2 hr
  simp only[EachR]at hr
  cases ho:scanO S.f [] (flat e) with
  | panic v0 H0=>rw[ho]at hr;cases hr.1
  | jump c H0=>
    rw[ho]at hr hout
    obtain⟨h1,rfl⟩:=hr
    cases h1
    repeat' (first|refine wkt ?_|refine wk ?_|exact wkc|intro hc|refine wk2 ?_ ?_|fail)
    refine RetK.atN (v:=.tup []) (S.L0+1) rfl (Le.of_eq rfl) (by simp[(hHb _).1]) (by simp[hout.1]) rfl (blksUnder_append hout.2 (by simp[blksUnder,hlp])) ?_
    simp only[Each1R,ho]
    (first|exact⟨trivial,rfl⟩|exact⟨trivial,trivial⟩)
  | go=>
    rw[ho]at hr
    obtain⟨h1,rfl⟩:=hr
    cases h1
    repeat' (first|refine wkt ?_|refine wk ?_|exact wkc|intro hc|refine wk2 ?_ ?_|fail)
    refine RetK.atN (v:=.tup []) (S.L0+1) rfl (Le.of_eq rfl) (by simp[(hHb _).1]) (by simp[(hHb _).1]) rfl (blksUnder_append (hHb _).2 (by simp[blksUnder,hlp])) ?_
    simp only[Each1R,ho]
    (first|exact⟨trivial,rfl⟩|exact⟨trivial,trivial⟩)
 ·intro u H2 hr
  simp only[EachR]at hr
  cases ho:scanO S.f [] (flat e) with
  | panic v0 H0=>
    rw[ho]at hr hout
    obtain⟨h1,rfl⟩:=hr
    cases h1
    repeat' (first|refine wkt ?_|refine wk ?_|exact wkc|intro hc|refine wk2 ?_ ?_|fail)
    refine RetK.atP (S.L0+1) ?_ ?_ hout.1 ?_ ?_
    ·simp[(hHb _).1]
    ·simp[hout.2.1]
    ·exact blksUnder_append hout.2.2 (by simp[blksUnder,hlp])
    simp only[Each1R,ho]
    (first|exact⟨trivial,rfl⟩|exact⟨trivial,trivial⟩)
  | jump c H0=>rw[ho]at hr;cases hr.1
  | go=>rw[ho]at hr;cases hr.1
def RoundK(L0:Nat)(lb:Blk)(Hb:List Ex->Heap)(f:List Ex->Ex->Out)(pre:List Ex)(x:Ex):TK
 | .normal,_,H=>f pre x= .go/\H.take L0=Hb (pre++[x])/\H[L0]?=some lb
 | .ret,_,H=>∃H0,f pre x= .jump .ret H0/\H.take L0=H0/\H[L0]?=some lb
 | .exit i,_,H=>∃H0,f pre x= .jump (.exit i) H0/\H.take L0=H0/\H[L0]?=some lb
 | .panic v,_,H=>∃H0,f pre x= .panic v H0/\H.take L0=H0/\H[L0]?=some lb
def AsgK(P:Program)(n L0:Nat)(lr lb:Blk)(body:Code)(Hb:List Ex->Heap)(f:List Ex->Ex->Out)(pre:List Ex)(x:Ex):TK
 | .normal,env,H=>H[L0]?=some lr/\TR P n body env (H.set L0 lb) (RoundK L0 lb Hb f pre x)
 | _,_,_=>False
theorem take_set_last{α:Type}{H:List α}{L:Nat}{a b:α}(h:H[L]?=some a):(H.set L b).take (L+1)=H.take L++[b]:=by
 have hl:=(List.getElem?_eq_some_iff.1 h).1
 rw[List.take_succ_eq_append_getElem (by simpa using hl),List.take_set,List.set_eq_of_length_le (by simp;omega)]
 simp
theorem TR.rangeEach{n:Nat}{g:Operand}{p:Tmp}{assign body:Code}{env:Env}{H:Heap}{K:TK}(e:Ex)(Hb:List Ex->Heap)(f:List Ex->Ex->Out)(hg:env.val g=some (.fn 109 [.cp (exC e) 0]))(hW:wEx e≤1000000000)
  (h0:Hb []=H)(hp:Nat.ble (p+1) n=true)(henv:(env.all fun x=>x.2.under (H.length+1))=true)(hHb:∀pre,(Hb pre).length=H.length/\blksUnder (H.length+1) (Hb pre)=true)
  (hf:∀pre x,match f pre x with
    | .go=>True
    | .jump c H1=>H1.length=H.length/\blksUnder (H.length+1) H1=true
    | .panic v H1=>v.under (H.length+1)=true/\H1.length=H.length/\blksUnder (H.length+1) H1=true)
  (round:∀fn pre x post,flat e=pre++x::post->TR Tryz.prog n assign ((p,.t (.ag (exC x)))::env) (Hb pre++[lpB fn n env #[p] assign body .ready none]) (AsgK Tryz.prog n H.length (lpB fn n env #[p] assign body .ready none) (lpB fn n env #[p] assign body .busy none) body Hb f pre x))
  (fin:∀fn,match scanO f [] (flat e) with
    | .go=>K .normal env (Hb (flat e)++[.dead])
    | .jump .ret H1=>K .ret env (H1++[.dead])
    | .jump (.exit i) H1=>K (.exit i) env (H1++[.dead])
    | .jump _ _=>False
    | .panic v H1=>K (.panic v) env (H1++[lpB fn n env #[p] assign body .busy none])):TR Tryz.prog n (.rangeFunc g #[p] assign body) env H K:=by
 refine TR.rangeFunc hg fun fn hfn=>?_
 have fin:=fin fn
 have hS:EachS.ok ⟨H.length,Hb,lpB fn n env #[p] assign body,f⟩:=by
  refine⟨hHb,fun st pe=>?_,fun pre x=>hf pre x⟩
  exact henv
 have hpl:∀pre:List Ex,(Hb pre).length=H.length:=fun pre=>(hHb pre).1
 have:=each1_sound ⟨H.length,Hb,lpB fn n env #[p] assign body,f⟩ hS e hW ?_
 ·simp only[h0]at this
  refine Sound.mono this fun r H' hr=>?_
  simp only[Each1R]at hr
  cases ho:scanO f [] (flat e) with
  | go=>
    rw[ho]at hr fin
    obtain⟨rfl,rfl⟩:=hr
    simp only[RangeK]
    refine⟨fn,.ready,none,n,env,#[p],assign,body,?_,by simp,?_⟩
    ·rw[<-hpl (flat e)];simp[lpB]
    ·have:(Hb (flat e)++[lpB fn n env #[p] assign body LoopState.ready none]).set H.length .dead=Hb (flat e)++[.dead]:=by rw[<-hpl (flat e)];simp
     rw[this];exact fin
  | jump c H1=>
    have hl:=scanO_out hS (flat e) []
    rw[ho]at hr fin
    simp only[ho]at hl
    obtain⟨rfl,rfl⟩:=hr
    simp only[RangeK]
    refine⟨fn,.done,some c,n,env,#[p],assign,body,?_,by simp,?_⟩
    ·rw[<-hl.1];simp[lpB]
    ·have:(H1++[lpB fn n env #[p] assign body LoopState.done (some c)]).set H.length .dead=H1++[.dead]:=by rw[<-hl.1];simp
     simp only[this]
     cases c <;> first|exact fin|exact fin.elim
  | panic v H1=>
    rw[ho]at hr fin
    obtain⟨rfl,rfl⟩:=hr
    exact fin
 ·intro pre x post hw
  have hid:(Hb pre++[lpB fn n env #[p] assign body .ready none])[H.length]?=some (.loop fn .ready none n env #[p] assign body):=by rw[<-hpl pre];simp[lpB]
  refine YSound.of hfn hid hp ?_
  have h1:=round fn pre x post hw
  rw[exT_eq]
  refine TR.mono h1 fun te env2 H2 h2=>?_
  cases te with
  | normal=>
    obtain⟨h3,h4⟩:=h2
    refine⟨fn,none,n,env,#[p],assign,body,h3,?_⟩
    refine TR.mono h4 fun te env3 H3 h5=>?_
    have hN:(Hb pre++[lpB fn n env #[p] assign body .ready none]).length=H.length+1:=by simp[hpl]
    have hun:∀st pe,blksUnder (H.length+1) [lpB fn n env #[p] assign body st pe]=true:=fun st pe=>by simp only[blksUnder,Bool.and_true];exact henv
    cases te with
    | normal=>
      obtain⟨g1,g2,g3⟩:=h5
      refine⟨fn,.busy,none,n,env,#[p],assign,body,g3,?_,?_,?_⟩
      ·rw[hN];exact(List.getElem?_eq_some_iff.1 g3).1
      ·rw[hN,take_set_last g3,g2];exact blksUnder_append (hHb _).2 (hun _ _)
      ·rw[hN,take_set_last g3,g2]
       simp only[EachR,scanO,g1]
       (first|exact⟨trivial,rfl⟩|exact⟨trivial,trivial⟩)
    | ret=>
      obtain⟨H0,g1,g2,g3⟩:=h5
      have g4:=hf pre x
      rw[g1]at g4
      refine⟨fn,.busy,none,n,env,#[p],assign,body,g3,?_,?_,?_⟩
      ·rw[hN];exact(List.getElem?_eq_some_iff.1 g3).1
      ·rw[hN,take_set_last g3,g2];exact blksUnder_append g4.2 (hun _ _)
      ·rw[hN,take_set_last g3,g2]
       simp only[EachR,scanO,g1]
       (first|exact⟨trivial,rfl⟩|exact⟨trivial,trivial⟩)
    | exit i=>
      obtain⟨H0,g1,g2,g3⟩:=h5
      have g4:=hf pre x
      rw[g1]at g4
      refine⟨fn,.busy,none,n,env,#[p],assign,body,g3,?_,?_,?_⟩
      ·rw[hN];exact(List.getElem?_eq_some_iff.1 g3).1
      ·rw[hN,take_set_last g3,g2];exact blksUnder_append g4.2 (hun _ _)
      ·rw[hN,take_set_last g3,g2]
       simp only[EachR,scanO,g1]
       (first|exact⟨trivial,rfl⟩|exact⟨trivial,trivial⟩)
    | panic v=>
      obtain⟨H0,g1,g2,g3⟩:=h5
      have g4:=hf pre x
      rw[g1]at g4
      have e3:H3.take (H.length+1)=H0++[lpB fn n env #[p] assign body .busy none]:=by
       have hl:=(List.getElem?_eq_some_iff.1 g3)
       rw[List.take_succ_eq_append_getElem hl.1,g2,hl.2]
      refine⟨?_,?_,?_,?_⟩
      ·rw[hN];exact g4.1
      ·rw[hN];exact(List.getElem?_eq_some_iff.1 g3).1
      ·rw[hN,e3];exact blksUnder_append g4.2.2 (hun _ _)
      ·rw[hN,e3]
       simp only[EachR,scanO,g1]
       (first|exact⟨trivial,rfl⟩|exact⟨trivial,trivial⟩)
  | ret=>exact h2.elim
  | exit i=>exact h2.elim
  | panic v=>exact h2.elim
end Go.Proofs.YtcbhlhmebbkgnaaGreat
