import Derived.Test.YtddaclniamlmbaaGreatDoorPk14
import Derived.Test.YtddaclniamlmbaaGreatDoorPk23
set_option linter.unusedSimpArgs false
set_option linter.unusedVariables false
namespace Go.Proofs.YtddaclniamlmbaaGreatDoor
open Go Go.TL
attribute [local irreducible] TR TO Then InBlock RetK Sound LoopK Kf GG ThenL
abbrev zE:List T:=[.v (.int .i64 0),.v (.int .i64 0),.v (.int .i64 0),.v (.int .i64 0),.v (str []),.v (.slice none 0 0)]
theorem cellE(e:Ex):(exT e).cells.length=6:=by rw[exT_eq];rfl
theorem growE_sound(c:Nat)(h1:1≤c)(h2:c≤3000000000):Sound Tryz.prog 218 [.t (.v (.slice none 0 0)),.i c] [] (fun r H'=>r= .ret (.ms 6 0 0 0)/\H'=[.cells (zerosOf zE c)]):=by
 refine so Tryz.func218 ?_
 repeat' (first|refine wk ?_|exact wkc|intro hc|refine wk2 ?_ ?_|(apply TO.cap_nil tabOk;exact rfl;exact rfl;exact rfl;exact rfl)|(apply TO.slice_nil tabOk;exact rfl;exact rfl;exact rfl;exact rfl;exact rfl;exact rfl)|(apply TO.append_zeros tabOk (c:=c) (ik':=.i64);exact rfl;exact rfl;exact rfl;exact rfl;exact rfl;exact rfl;kernel_rfl;exact rfl;exact rfl;omega;omega;exact rfl)|(apply TO.slice_ms0 tabOk;exact rfl;exact rfl;exact rfl;exact rfl;exact rfl;exact rfl)|fail)
 exact RetK.at 1 rfl (Le.refl _) (Nat.zero_le _) rfl rfl (under_ts 1 _) ⟨rfl,rfl⟩
theorem growE0_sound:Pure Tryz.prog 218 [.t (.v (.slice none 0 0)),.i 0] (.t (.v (.slice none 0 0))):=by
 refine so Tryz.func218 ?_
 repeat' (first|refine wk ?_|exact wkc|intro hc|refine wk2 ?_ ?_|(apply TO.cap_nil tabOk;exact rfl;exact rfl;exact rfl;exact rfl)|fail)
 exact wkr
abbrev lsE (l:List Ex):T:=.sl 6 (l.map exT)
def csE(l:List Ex):List T:=((l.map exT).map T.cells).flatten
theorem csE_len(l:List Ex):(csE l).length=l.length*6:=by
 have:=(flat_cells (sz:=6) (l.map exT) (fun e he=>by obtain⟨d,_,rfl⟩:=List.mem_map.1 he;exact cellE d)).1
 rw[List.length_map]at this
 exact this
theorem csE_append(a b:List Ex):csE (a++b)=csE a++csE b:=by simp[csE]
theorem atE{ls:List (List Ex)}{k:Nat}(h:k<ls.length):(ls.map lsE)[k]?=some (lsE ls[k]):=by simp[h]
theorem concatE_sound(ls:List (List Ex))(hl:ls.length≤1000000)(hn:ls.flatten.length≤3000000000):
  Pure Tryz.prog 155 [.t (.sl 1 (ls.map lsE))] (.t (lsE ls.flatten)):=by
 have hml:(ls.map lsE).length=ls.length:=List.length_map _
 refine so Tryz.func155 ?_
 repeat' (first|refine wk ?_|exact wkc|intro hc|refine wk2 ?_ ?_|fail|fail)
 refine TR.loopN ls.length (fun _=>True) (fun k=>[(0,.t (.sl 1 (ls.map lsE))),(3,.i ((ls.take k).flatten.length:Nat)),(9,.t (.sl 1 (ls.map lsE))),(10,.i ls.length),(11,.i k)]) (fun _=>[]) trivial (fun k hlt _=>?_) (fun _=>?_) ⟨rfl,rfl,rfl,by rw[<-hml];rfl,rfl,trivial⟩
 ·obtain⟨f1,f2⟩:=cat_len hlt
  have hx:=atE hlt
  have hm2:(ls[k].map exT).length=ls[k].length:=List.length_map _
  generalize ls[k]=a at hx f1 hm2
  repeat' (first|refine wk ?_|exact wkc|intro hc|refine wk2 ?_ ?_|fail|fail)
  exact LoopK.nextN hlt trivial ⟨rfl,by rw[f1];simp only[List.length_map];rfl,rfl,rfl,rfl,trivial⟩
 ·rw[List.take_length]
  by_cases h0:ls.flatten=[]
  ·rw[h0]
   have hg:=growE0_sound
   repeat' (first|refine wk ?_|exact wkc|intro hc|refine wk2 ?_ ?_|refine wv hg ?_|fail)
   refine TR.loopN ls.length (fun _=>True) (fun k=>[(6,.t (.v (.slice none 0 0))),(25,.t (.sl 1 (ls.map lsE))),(26,.i ls.length),(27,.i k)]) (fun k=>[]) trivial (fun k hlt _=>?_) (fun _=>?_) ⟨rfl,rfl,by rw[<-hml];rfl,rfl,trivial⟩ rfl
   ·have hx:=atE hlt
    have he:ls[k]=[]:=List.flatten_eq_nil_iff.1 h0 _ (List.getElem_mem hlt)
    rw[he]at hx
    repeat' (first|refine wk ?_|exact wkc|intro hc|refine wk2 ?_ ?_|(apply TO.append_none tabOk;exact rfl;exact rfl;exact rfl;exact rfl;exact rfl;exact rfl;exact rfl;exact rfl;exact rfl;exact rfl;exact rfl)|fail)
    exact LoopK.nextN hlt trivial ⟨rfl,rfl,rfl,rfl,trivial⟩ rfl
   ·repeat' (first|refine wu ?_|exact wkc|intro hc|refine wk2 ?_ ?_|fail)
    exact wkr
  ·have h1:1≤ls.flatten.length:=List.length_pos_iff.2 h0
   repeat' (first|refine wk ?_|exact wkc|intro hc|refine wk2 ?_ ?_|(apply TO.callMs (tl:=(List.replicate ls.flatten.length zE).flatten) (growE_sound ls.flatten.length h1 hn);exact rfl;exact rfl;exact rfl;exact Les.refl _;exact rfl)|fail)
   refine TR.loopN ls.length (fun _=>True) (fun k=>[(6,.ms 6 0 0 (ls.take k).flatten.length),(25,.t (.sl 1 (ls.map lsE))),(26,.i ls.length),(27,.i k)]) (fun k=>[.cells (mixC (csE (ls.take k).flatten) zE (ls.flatten.length-(ls.take k).flatten.length))]) trivial (fun k hlt _=>?_) (fun _=>?_) ⟨rfl,rfl,by rw[<-hml];rfl,rfl,trivial⟩
   ·obtain⟨f1,f2⟩:=cat_len hlt
    have f3:=cat_at hlt
    have hx:=atE hlt
    have hm2:(ls[k].map exT).length=ls[k].length:=List.length_map _
    have hfit:0+((ls.take k).flatten.length+(ls[k].map exT).length)*6≤(mixC (csE (ls.take k).flatten) zE (ls.flatten.length-(ls.take k).flatten.length)).length:=by
     rw[mixC_len,csE_len,hm2]
     show _≤_+_*6
     omega
    have hsp:[Blk.cells (mixC (csE (ls.take k).flatten) zE (ls.flatten.length-(ls.take k).flatten.length))].set 0 (.cells (splice (mixC (csE (ls.take k).flatten) zE (ls.flatten.length-(ls.take k).flatten.length)) (0+(ls.take k).flatten.length*6) ((((ls[k].map exT).map T.cells).flatten).map .t)))=
      [Blk.cells (mixC (csE (ls.take (k+1)).flatten) zE (ls.flatten.length-(ls.take (k+1)).flatten.length))]:=by
     have e:=mixC_splice (csE (ls.take k).flatten) (csE ls[k]) zE (ls.flatten.length-(ls.take k).flatten.length) ls[k].length (0+(ls.take k).flatten.length*6) (by omega) (by rw[csE_len];omega) (csE_len _)
     refine congrArg (fun c=>[Blk.cells c]) (e.trans ?_)
     rw[f3,csE_append,List.length_append]
     congr 1
     omega
    generalize hb1:(ls.take (k+1)).flatten=b1 at*
    generalize (ls.take k).flatten=b0 at*
    generalize ls[k]=a at*
    repeat' (first|refine wk ?_|exact wkc|intro hc|refine wk2 ?_ ?_|(apply TO.append_ms tabOk;exact rfl;exact rfl;exact rfl;exact rfl;exact rfl;exact rfl;exact rfl;exact rfl;exact rfl;exact rfl;exact rfl;exact rfl;exact hfit;exact hsp)|fail)
    exact LoopK.nextN hlt trivial ⟨by rw[hb1,f1,<-hm2];rfl,rfl,rfl,rfl,trivial⟩ (by rw[hb1])
   ·rw[List.take_length,Nat.sub_self,mixC_zero]
    repeat' (first|refine LoopK.exit ?_|fail)
    refine TR.freeze 6 6 0 ls.flatten.length (es:=ls.flatten.map exT) rfl rfl rfl (List.length_map _).symm (fun e he=>by obtain⟨d,_,rfl⟩:=List.mem_map.1 he;exact cellE d) rfl rfl ?_
    repeat' (first|refine wu ?_|exact wkc|intro hc|refine wk2 ?_ ?_|fail)
    exact wkr
abbrev zQ:List T:=[.v (.int .i64 0),.v (.int .i64 0),.v (.int .i64 0),.v (.int .i64 0),.v (str []),.v (.slice none 0 0),.v (.int .i64 0),.v (.bool false)]
theorem cellQ(t:Tran):(tranT t).cells.length=8:=rfl
theorem growQ_sound(c:Nat)(h1:1≤c)(h2:c≤3000000000):Sound Tryz.prog 291 [.t (.v (.slice none 0 0)),.i c] [] (fun r H'=>r= .ret (.ms 8 0 0 0)/\H'=[.cells (zerosOf zQ c)]):=by
 refine so Tryz.func291 ?_
 repeat' (first|refine wk ?_|exact wkc|intro hc|refine wk2 ?_ ?_|(apply TO.cap_nil tabOk;exact rfl;exact rfl;exact rfl;exact rfl)|(apply TO.slice_nil tabOk;exact rfl;exact rfl;exact rfl;exact rfl;exact rfl;exact rfl)|(apply TO.append_zeros tabOk (c:=c) (ik':=.i64);exact rfl;exact rfl;exact rfl;exact rfl;exact rfl;exact rfl;kernel_rfl;exact rfl;exact rfl;omega;omega;exact rfl)|(apply TO.slice_ms0 tabOk;exact rfl;exact rfl;exact rfl;exact rfl;exact rfl;exact rfl)|fail)
 exact RetK.at 1 rfl (Le.refl _) (Nat.zero_le _) rfl rfl (under_ts 1 _) ⟨rfl,rfl⟩
theorem growQ0_sound:Pure Tryz.prog 291 [.t (.v (.slice none 0 0)),.i 0] (.t (.v (.slice none 0 0))):=by
 refine so Tryz.func291 ?_
 repeat' (first|refine wk ?_|exact wkc|intro hc|refine wk2 ?_ ?_|(apply TO.cap_nil tabOk;exact rfl;exact rfl;exact rfl;exact rfl)|fail)
 exact wkr
abbrev lsQ (l:List Tran):T:=.sl 8 (l.map tranT)
def csQ(l:List Tran):List T:=((l.map tranT).map T.cells).flatten
theorem csQ_len(l:List Tran):(csQ l).length=l.length*8:=by
 have:=(flat_cells (sz:=8) (l.map tranT) (fun e he=>by obtain⟨d,_,rfl⟩:=List.mem_map.1 he;exact cellQ d)).1
 rw[List.length_map]at this
 exact this
theorem csQ_append(a b:List Tran):csQ (a++b)=csQ a++csQ b:=by simp[csQ]
theorem atQ{ls:List (List Tran)}{k:Nat}(h:k<ls.length):(ls.map lsQ)[k]?=some (lsQ ls[k]):=by simp[h]
theorem concatQ_sound(ls:List (List Tran))(hl:ls.length≤1000000)(hn:ls.flatten.length≤3000000000):
  Pure Tryz.prog 217 [.t (.sl 1 (ls.map lsQ))] (.t (lsQ ls.flatten)):=by
 have hml:(ls.map lsQ).length=ls.length:=List.length_map _
 refine so Tryz.func217 ?_
 repeat' (first|refine wk ?_|exact wkc|intro hc|refine wk2 ?_ ?_|fail|fail)
 refine TR.loopN ls.length (fun _=>True) (fun k=>[(0,.t (.sl 1 (ls.map lsQ))),(3,.i ((ls.take k).flatten.length:Nat)),(9,.t (.sl 1 (ls.map lsQ))),(10,.i ls.length),(11,.i k)]) (fun _=>[]) trivial (fun k hlt _=>?_) (fun _=>?_) ⟨rfl,rfl,rfl,by rw[<-hml];rfl,rfl,trivial⟩
 ·obtain⟨f1,f2⟩:=cat_len hlt
  have hx:=atQ hlt
  have hm2:(ls[k].map tranT).length=ls[k].length:=List.length_map _
  generalize ls[k]=a at hx f1 hm2
  repeat' (first|refine wk ?_|exact wkc|intro hc|refine wk2 ?_ ?_|fail|fail)
  exact LoopK.nextN hlt trivial ⟨rfl,by rw[f1];simp only[List.length_map];rfl,rfl,rfl,rfl,trivial⟩
 ·rw[List.take_length]
  by_cases h0:ls.flatten=[]
  ·rw[h0]
   have hg:=growQ0_sound
   repeat' (first|refine wk ?_|exact wkc|intro hc|refine wk2 ?_ ?_|refine wv hg ?_|fail)
   refine TR.loopN ls.length (fun _=>True) (fun k=>[(6,.t (.v (.slice none 0 0))),(25,.t (.sl 1 (ls.map lsQ))),(26,.i ls.length),(27,.i k)]) (fun k=>[]) trivial (fun k hlt _=>?_) (fun _=>?_) ⟨rfl,rfl,by rw[<-hml];rfl,rfl,trivial⟩ rfl
   ·have hx:=atQ hlt
    have he:ls[k]=[]:=List.flatten_eq_nil_iff.1 h0 _ (List.getElem_mem hlt)
    rw[he]at hx
    repeat' (first|refine wk ?_|exact wkc|intro hc|refine wk2 ?_ ?_|(apply TO.append_none tabOk;exact rfl;exact rfl;exact rfl;exact rfl;exact rfl;exact rfl;exact rfl;exact rfl;exact rfl;exact rfl;exact rfl)|fail)
    exact LoopK.nextN hlt trivial ⟨rfl,rfl,rfl,rfl,trivial⟩ rfl
   ·repeat' (first|refine wu ?_|exact wkc|intro hc|refine wk2 ?_ ?_|fail)
    exact wkr
  ·have h1:1≤ls.flatten.length:=List.length_pos_iff.2 h0
   repeat' (first|refine wk ?_|exact wkc|intro hc|refine wk2 ?_ ?_|(apply TO.callMs (tl:=(List.replicate ls.flatten.length zQ).flatten) (growQ_sound ls.flatten.length h1 hn);exact rfl;exact rfl;exact rfl;exact Les.refl _;exact rfl)|fail)
   refine TR.loopN ls.length (fun _=>True) (fun k=>[(6,.ms 8 0 0 (ls.take k).flatten.length),(25,.t (.sl 1 (ls.map lsQ))),(26,.i ls.length),(27,.i k)]) (fun k=>[.cells (mixC (csQ (ls.take k).flatten) zQ (ls.flatten.length-(ls.take k).flatten.length))]) trivial (fun k hlt _=>?_) (fun _=>?_) ⟨rfl,rfl,by rw[<-hml];rfl,rfl,trivial⟩
   ·obtain⟨f1,f2⟩:=cat_len hlt
    have f3:=cat_at hlt
    have hx:=atQ hlt
    have hm2:(ls[k].map tranT).length=ls[k].length:=List.length_map _
    have hfit:0+((ls.take k).flatten.length+(ls[k].map tranT).length)*8≤(mixC (csQ (ls.take k).flatten) zQ (ls.flatten.length-(ls.take k).flatten.length)).length:=by
     rw[mixC_len,csQ_len,hm2]
     show _≤_+_*8
     omega
    have hsp:[Blk.cells (mixC (csQ (ls.take k).flatten) zQ (ls.flatten.length-(ls.take k).flatten.length))].set 0 (.cells (splice (mixC (csQ (ls.take k).flatten) zQ (ls.flatten.length-(ls.take k).flatten.length)) (0+(ls.take k).flatten.length*8) ((((ls[k].map tranT).map T.cells).flatten).map .t)))=
      [Blk.cells (mixC (csQ (ls.take (k+1)).flatten) zQ (ls.flatten.length-(ls.take (k+1)).flatten.length))]:=by
     have e:=mixC_splice (csQ (ls.take k).flatten) (csQ ls[k]) zQ (ls.flatten.length-(ls.take k).flatten.length) ls[k].length (0+(ls.take k).flatten.length*8) (by omega) (by rw[csQ_len];omega) (csQ_len _)
     refine congrArg (fun c=>[Blk.cells c]) (e.trans ?_)
     rw[f3,csQ_append,List.length_append]
     congr 1
     omega
    generalize hb1:(ls.take (k+1)).flatten=b1 at*
    generalize (ls.take k).flatten=b0 at*
    generalize ls[k]=a at*
    repeat' (first|refine wk ?_|exact wkc|intro hc|refine wk2 ?_ ?_|(apply TO.append_ms tabOk;exact rfl;exact rfl;exact rfl;exact rfl;exact rfl;exact rfl;exact rfl;exact rfl;exact rfl;exact rfl;exact rfl;exact rfl;exact hfit;exact hsp)|fail)
    exact LoopK.nextN hlt trivial ⟨by rw[hb1,f1,<-hm2];rfl,rfl,rfl,rfl,trivial⟩ (by rw[hb1])
   ·rw[List.take_length,Nat.sub_self,mixC_zero]
    repeat' (first|refine LoopK.exit ?_|fail)
    refine TR.freeze 6 8 0 ls.flatten.length (es:=ls.flatten.map tranT) rfl rfl rfl (List.length_map _).symm (fun e he=>by obtain⟨d,_,rfl⟩:=List.mem_map.1 he;exact cellQ d) rfl rfl ?_
    repeat' (first|refine wu ?_|exact wkc|intro hc|refine wk2 ?_ ?_|fail)
    exact wkr
abbrev toF:SV:=.fn 81 [.ref 1 0]
abbrev knH (a:List Str):Heap:=[setB a,.cells [.mp 0]]
theorem scan_go:∀(l pre:List Ex),scanO (fun _ _=>Out.go) pre l= .go
 | [],_=>rfl
 | x::l,pre=>by simp[scanO,scan_go l]
set_option maxHeartbeats 4000000 in
theorem known1_sound (a:List Str) (ha:SetOk a) (e:Ex) (he:ShortE e) (hw:wEx e≤1000000000):Sound Tryz.prog 81 [.t (exT e),.ref 1 0] (knH a) (fun r H'=>r= .ret (.tup [])/\H'=knH (exprL a e)):=by
 have hs:=Each_sound e
 rw[exT_eq]at hs⊢
 have hc0:exC e=[T.n e.kind,T.n e.op,T.n e.t,T.n e.v,.s e.name,.sl 6 (e.args.map exT)]:=rfl
 unfold exprL
 rw[hc0]at hs⊢
 refine so Tryz.func81 ?_
 repeat' (first|refine wu ?_|exact wkc|intro hc|refine wk2 ?_ ?_|refine wv hs ?_|fail)
 refine TR.rangeEach e (fun pre=>knH (pre.foldl oneL a)) (fun _ _=>.go) rfl hw rfl rfl rfl (fun _=>⟨rfl,rfl⟩) (fun _ _=>trivial) (fun fn pre x post hf=>?_) (fun fn=>?_)
 ·have hxm:x∈flat e:=by rw[hf];simp
  have hnm:=he x hxm
  have hk:SetOk (pre.foldl oneL a):=ok_fold ha fun a y hy ha=>ok_one ha (he y (by rw[hf];exact List.mem_append_left _ hy))
  have hone:(pre++[x]).foldl oneL a=oneL (pre.foldl oneL a) x:=by rw[List.foldl_append];rfl
  generalize pre.foldl oneL a=acc at*
  have hol:oneL acc x=if keepK x.kind.1=true then ins acc x.name else acc:=rfl
  have hcx:exC x=[T.n x.kind,T.n x.op,T.n x.t,T.n x.v,.s x.name,.sl 6 (x.args.map exT)]:=rfl
  rw[hcx]
  clear hf hxm hs
  by_cases h0:x.kind.1=1\/x.kind.1=3\/x.kind.1=4\/x.kind.1=5\/x.kind.1=6\/x.kind.1=7\/x.kind.1=11
  ·rw[if_neg (by unfold keepK;simp only[decide_eq_true_eq];omega)]at hol
   repeat' (first|refine wu ?_|exact wkc|intro hc|refine wk2 ?_ ?_|fail)
   refine⟨rfl,?_⟩
   repeat' (first|refine wu ?_|exact wkc|intro hc|refine wk2 ?_ ?_|fail)
   all_goals first
    | exact⟨rfl,by(try dsimp only);rw[hone,hol];rfl,rfl⟩
    | (exfalso;omega)
  ·rw[if_pos (by unfold keepK;simp only[decide_eq_true_eq];omega)]at hol
   repeat' (first|refine wu ?_|exact wkc|intro hc|refine wk2 ?_ ?_|fail)
   refine⟨rfl,?_⟩
   repeat' (first|refine wu ?_|exact wkc|intro hc|refine wk2 ?_ ?_|(apply TO.setPut;exact rfl;exact rfl;exact rfl;exact rfl;exact hk;exact hnm;exact rfl)|fail)
   all_goals first
    | exact⟨rfl,by(try dsimp only);rw[hone,hol];rfl,rfl⟩
    | (exfalso;omega)
 ·rw[scan_go]
  repeat' (first|refine wu ?_|exact wkc|intro hc|refine wk2 ?_ ?_|fail)
  exact RetK.keepN 2 rfl (Le.refl _) rfl rfl rfl rfl rfl ⟨rfl,rfl⟩
theorem trans_lists(s:Sta):[s.unl,s.unt].flatten=s.unl++s.unt:=by simp
set_option maxHeartbeats 8000000 in
theorem exprs_sound:∀(m:Nat) (a:List Str) (qs:List Equ) (l:List Auto),SetOk a->(T.sl 7 (qs.map equT)).w≤100000000->(T.sl 1 (l.map autoT)).w≤100000000->(T.sl 1 (l.map autoT)).w≤m->
  Sound Tryz.prog 154 [.t (.sl 7 (qs.map equT)),.t (.sl 1 (l.map autoT)),toF] (knH a) (fun r H'=>r= .ret (.tup [])/\H'=knH (exprsL m a qs l))
 | 0,_,_,l,_,_,_,hm=>by have:=w_pos (T.sl 1 (l.map autoT));omega
 | m+1,a,qs,l,ha,hq,hl,hm=>by
   have ih:=exprs_sound m
   have hmq:(qs.map equT).length=qs.length:=List.length_map _
   have hml:(l.map autoT).length=l.length:=List.length_map _
   have hqb:=w_lenM equT 7 qs
   have hlb:=w_lenM autoT 1 l
   have hqe:=fun q hh=>(equ_in (l:=qs) (q:=q) hh).2.1
   unfold exprsL
   obtain⟨f,hf⟩:∃f:List Str->Equ->List Str,f=fun a q=>exprL a q.right:=⟨_,rfl⟩
   obtain⟨fs,hfs⟩:∃fs:List Str->Sta->List Str,fs=fun a s=>(s.unl++s.unt).foldl (fun a t=>exprL a t.cond) (exprsL m a s.eqs s.autos):=⟨_,rfl⟩
   obtain⟨g,hg⟩:∃g:List Str->Auto->List Str,g=fun a x=>x.states.foldl fs a:=⟨_,rfl⟩
   rw[<-hf]
   rw[show(fun(a:List Str) (x:Auto)=>x.states.foldl (fun a s=>(s.unl++s.unt).foldl (fun a t=>exprL a t.cond) (exprsL m a s.eqs s.autos)) a)=g by rw[hg,hfs]]
   have hok:=ok_take (f:=f) (l:=qs) ha (fun a q hh ha=>by rw[hf];exact ok_expr ha (shortE_of (by have:=hqe q hh;omega)))
   have hokS:∀x∈l,∀s∈x.states,∀a,SetOk a->SetOk (fs a s):=fun x hx s hs a ha=>by
    have h1:=sta_in hx hs
    rw[hfs]
    refine ok_fold (ok_exprs m _ _ _ ha (by omega) (by omega)) fun a t ht ha=>ok_expr ha (shortE_of ?_)
    rcases List.mem_append.1 ht with ht|ht
    ·have:=tran_in ht;omega
    ·have:=tran_in ht;omega
   have hok1:=hok qs.length
   rw[List.take_length]at hok1
   have hokA:=ok_take (f:=g) (l:=l) hok1 (fun a x hx ha=>by rw[hg];exact ok_fold ha fun a s hs ha=>hokS x hx s hs a ha)
   refine so Tryz.func154 ?_
   repeat' (first|refine wkt ?_|fail)
   refine TR.loopN qs.length (fun _=>True) (fun j=>[(1,.t (.sl 1 (l.map autoT))),(2,toF),(14,.t (.sl 7 (qs.map equT))),(15,.i qs.length),(16,.i j)]) (fun j=>knH ((qs.take j).foldl f a)) trivial (fun j hlt _=>?_) (fun _=>?_) ⟨rfl,rfl,rfl,by rw[<-hmq];rfl,rfl,trivial⟩ rfl
   ·have hx:(qs.map equT)[j]?=some (.ag [T.sl 1 (qs[j].left.map T.s),T.n qs[j].right.kind,T.n qs[j].right.op,T.n qs[j].right.t,T.n qs[j].right.v,T.s qs[j].right.name,T.sl 6 (qs[j].right.args.map exT)]):=at_map equT hlt
    have hn:=foldl_at f a hlt
    have hk:=hok j
    have hwq:=hqe _ (List.getElem_mem hlt)
    generalize (qs.take j).foldl f a=acc at*
    have hfe:f acc qs[j]=exprL acc qs[j].right:=by rw[hf]
    rw[hfe]at hn
    have c1:=known1_sound acc hk qs[j].right (shortE_of (by omega)) (by have:=wEx_le qs[j].right;omega)
    rw[exT_eq]at c1
    unfold exC at c1
    clear hfe ih hokA hokS hok
    generalize exprL acc qs[j].right=a2 at*
    generalize qs[j]=q at*
    repeat' (first|refine wkt ?_|(apply TO.indexAddr tabOk;(iterate 8 exact rfl);omega;exact hx)|(apply TO.callD 2 c1;exact rfl;exact rfl;exact rfl;exact Les.refl _;exact rfl;exact rfl;exact rfl;exact rfl;exact rfl;exact rfl;exact rfl;exact rfl)|refine LoopK.exit ?_|exact wkc|intro hc|refine wk2 ?_ ?_|refine wk ?_|fail)
    exact LoopK.nextN hlt trivial (by(try dsimp only);exact⟨rfl,rfl,rfl,rfl,rfl,trivial⟩) (by(try dsimp only);rw[hn])
   rw[List.take_length]
   clear hok hqe
   generalize qs.foldl f a=a1 at*
   repeat' (first|refine wkt ?_|refine LoopK.exit ?_|exact wkc|intro hc|refine wk2 ?_ ?_|fail)
   refine TR.loopN l.length (fun _=>True) (fun j=>[(2,toF),(25,.t (.sl 1 (l.map autoT))),(26,.i l.length),(27,.i j)]) (fun j=>knH ((l.take j).foldl g a1)) trivial (fun j hlt _=>?_) (fun _=>?_) ⟨rfl,rfl,by rw[<-hml];rfl,rfl,trivial⟩ rfl
   ·have hx:=at_map autoT hlt
    rw[autoT_eq]at hx
    have hn:=foldl_at g a1 hlt
    have hk:=hokA j
    have hoS:=hokS _ (List.getElem_mem hlt)
    have hsi:=fun s hs=>sta_in (List.getElem_mem hlt) (s:=s) hs
    have hsb:l[j].states.length≤100000000:=by
     have h1:=w_inM (f:=autoT) (sz:=1) (List.getElem_mem hlt)
     have h2:=w_auto l[j]
     have h3:=w_lenM staT 6 l[j].states
     omega
    generalize (l.take j).foldl g a1=acc at*
    have hge:g acc l[j]=l[j].states.foldl fs acc:=by rw[hg]
    rw[hge]at hn
    have hok2:=ok_take (f:=fs) (l:=l[j].states) hk (fun a s hs ha=>hoS s hs a ha)
    clear hge hokA hokS
    generalize l[j]=x at*
    obtain⟨sts⟩:=x
    simp only[Auto.states]at hx hn hoS hsi hok2 hsb
    have hmc:(sts.map staT).length=sts.length:=List.length_map _
    repeat' (first|refine wkt ?_|(apply TO.indexAddr tabOk;(iterate 8 exact rfl);omega;exact hx)|refine LoopK.exit ?_|exact wkc|intro hc|refine wk2 ?_ ?_|fail)
    refine TR.loopN sts.length (fun _=>True) (fun k=>[(2,toF),(25,.t (.sl 1 (l.map autoT))),(26,.i l.length),(27,.i j),(32,.t (.sl 6 (sts.map staT))),(33,.i sts.length),(34,.i k)]) (fun k=>knH ((sts.take k).foldl fs acc)) trivial (fun k hlk _=>?_) (fun _=>?_) ⟨rfl,rfl,rfl,rfl,rfl,by rw[<-hmc];rfl,rfl,trivial⟩ rfl
    ·have hy:=at_map staT hlk
     rw[staT_eq]at hy
     have hn2:=foldl_at fs acc hlk
     have hk2:=hok2 k
     have hw:=hsi _ (List.getElem_mem hlk)
     generalize (sts.take k).foldl fs acc=acc2 at*
     have hfse:fs acc2 sts[k]=(sts[k].unl++sts[k].unt).foldl (fun a t=>exprL a t.cond) (exprsL m acc2 sts[k].eqs sts[k].autos):=by rw[hfs]
     rw[hfse]at hn2
     have c2:=ih acc2 sts[k].eqs sts[k].autos hk2 (by omega) (by omega) (by omega)
     have hk3:=ok_exprs m acc2 sts[k].eqs sts[k].autos hk2 (by omega) (by omega)
     have hu1:=w_lenM tranT 8 sts[k].unl
     have hu2:=w_lenM tranT 8 sts[k].unt
     have c3:=concatQ_sound [sts[k].unl,sts[k].unt] (by show 2≤_;decide) (by rw[trans_lists,List.length_append];omega)
     rw[trans_lists]at c3
     dsimp only[List.map]at c3
     have htr:∀t∈sts[k].unl++sts[k].unt,(exT t.cond).w≤100000000:=fun t ht=>by
      rcases List.mem_append.1 ht with ht|ht
      ·have:=tran_in ht;omega
      ·have:=tran_in ht;omega
     have hub:(sts[k].unl++sts[k].unt).length≤1000000000:=by rw[List.length_append];omega
     clear hfse hw hoS hsi hok2 ih
     generalize exprsL m acc2 sts[k].eqs sts[k].autos=a3 at*
     unfold lsQ at c3
     generalize hTL:sts[k].unl++sts[k].unt=tl at*
     generalize sts[k]=s at*
     have hok4:=ok_take (f:=fun a (t:Tran)=>exprL a t.cond) (l:=tl) hk3 (fun a t ht ha=>ok_expr ha (shortE_of (by have:=htr t ht;omega)))
     have hmt:(tl.map tranT).length=tl.length:=List.length_map _
     repeat' (first|refine wkt ?_|(apply TO.indexAddr tabOk;(iterate 8 exact rfl);omega;exact hy)|(apply TO.callD 2 c2;exact rfl;exact rfl;exact rfl;exact Les.refl _;exact rfl;exact rfl;exact rfl;exact rfl;exact rfl;exact rfl;exact rfl;exact rfl)|refine wv c3 ?_|refine LoopK.exit ?_|exact wkc|intro hc|refine wk2 ?_ ?_|fail)
     refine TR.loopN tl.length (fun _=>True) (fun i=>[(2,toF),(25,.t (.sl 1 (l.map autoT))),(26,.i l.length),(27,.i j),(32,.t (.sl 6 (sts.map staT))),(33,.i sts.length),(34,.i k),(49,.t (.sl 8 (tl.map tranT))),(50,.i tl.length),(51,.i i)]) (fun i=>knH ((tl.take i).foldl (fun a t=>exprL a t.cond) a3)) trivial (fun i hli _=>?_) (fun _=>?_) ⟨rfl,rfl,rfl,rfl,rfl,rfl,rfl,rfl,by rw[<-hmt];rfl,rfl,trivial⟩ rfl
     ·have hz:(tl.map tranT)[i]?=some (.ag [T.n tl[i].cond.kind,T.n tl[i].cond.op,T.n tl[i].cond.t,T.n tl[i].cond.v,.s tl[i].cond.name,.sl 6 (tl[i].cond.args.map exT),T.n tl[i].to,.b tl[i].resume]):=at_map tranT hli
      have hn3:=foldl_at (fun a (t:Tran)=>exprL a t.cond) a3 hli
      have hk4:=hok4 i
      have hwt:=htr _ (List.getElem_mem hli)
      generalize (tl.take i).foldl (fun a (t:Tran)=>exprL a t.cond) a3=acc3 at*
      have c1:=known1_sound acc3 hk4 tl[i].cond (shortE_of (by omega)) (by have:=wEx_le tl[i].cond;omega)
      rw[exT_eq]at c1
      unfold exC at c1
      generalize exprL acc3 tl[i].cond=a4 at*
      generalize tl[i]=t at*
      repeat' (first|refine wkt ?_|(apply TO.indexAddr tabOk;(iterate 8 exact rfl);omega;exact hz)|(apply TO.callD 2 c1;exact rfl;exact rfl;exact rfl;exact Les.refl _;exact rfl;exact rfl;exact rfl;exact rfl;exact rfl;exact rfl;exact rfl;exact rfl)|refine LoopK.exit ?_|exact wkc|intro hc|refine wk2 ?_ ?_|refine wk ?_|fail)
      exact LoopK.nextN hli trivial (by(try dsimp only);exact⟨rfl,rfl,rfl,rfl,rfl,rfl,rfl,rfl,rfl,rfl,trivial⟩) (by(try dsimp only);rw[hn3])
     ·rw[List.take_length,<-hn2]
      repeat' (first|refine wkt ?_|refine LoopK.exit ?_|exact wkc|intro hc|refine wk2 ?_ ?_|refine wk ?_|fail)
      exact LoopK.nextN hlk trivial (by(try dsimp only);exact⟨rfl,rfl,rfl,rfl,rfl,rfl,rfl,trivial⟩) rfl
    ·rw[List.take_length,<-hn]
     repeat' (first|refine wkt ?_|refine LoopK.exit ?_|exact wkc|intro hc|refine wk2 ?_ ?_|refine wk ?_|fail)
     exact LoopK.nextN hlt trivial (by(try dsimp only);exact⟨rfl,rfl,rfl,rfl,trivial⟩) rfl
   ·rw[List.take_length]
    repeat' (first|refine wu ?_|exact wkc|intro hc|refine wk2 ?_ ?_|fail)
    exact RetK.keepN 2 rfl (Le.refl _) rfl rfl rfl rfl rfl ⟨rfl,rfl⟩
theorem claim_lists(n:Nod):[n.assume,n.ensure].flatten=n.assume++n.ensure:=by simp
set_option maxHeartbeats 4000000 in
theorem every_sound (a:List Str) (n:Nod) (ha:SetOk a) (hw:(nodT n).w≤100000000):Sound Tryz.prog 80 [.t (.ag (nodC n)),toF] (knH a) (fun r H'=>r= .ret (.tup [])/\H'=knH (everyL 100000000 a n)):=by
 have hwn:=w_nod n
 have c1:=exprs_sound 100000000 a n.eqs n.autos ha (by omega) (by omega) (by omega)
 have hk1:=ok_exprs 100000000 a n.eqs n.autos ha (by omega) (by omega)
 have hu1:=w_lenM exT 6 n.assume
 have hu2:=w_lenM exT 6 n.ensure
 have c3:=concatE_sound [n.assume,n.ensure] (by show 2≤_;decide) (by rw[claim_lists,List.length_append];omega)
 rw[claim_lists]at c3
 dsimp only[List.map]at c3
 have htr:∀e∈n.assume++n.ensure,(exT e).w≤100000000:=fun t ht=>by
  rcases List.mem_append.1 ht with ht|ht
  ·have:=w_inM (f:=exT) (sz:=6) ht;omega
  ·have:=w_inM (f:=exT) (sz:=6) ht;omega
 have hub:(n.assume++n.ensure).length≤1000000000:=by rw[List.length_append];omega
 unfold everyL
 generalize exprsL 100000000 a n.eqs n.autos=a1 at*
 unfold lsE at c3
 unfold nodC declsT
 generalize n.assume++n.ensure=tl at*
 have hok4:=ok_take (f:=exprL) (l:=tl) hk1 (fun a t ht ha=>ok_expr ha (shortE_of (by have:=htr t ht;omega)))
 have hmt:(tl.map exT).length=tl.length:=List.length_map _
 clear hwn hw
 refine so Tryz.func80 ?_
 repeat' (first|refine wkt ?_|(apply TO.callD 2 c1;exact rfl;exact rfl;exact rfl;exact Les.refl _;exact rfl;exact rfl;exact rfl;exact rfl;exact rfl;exact rfl;exact rfl;exact rfl)|refine wv c3 ?_|refine LoopK.exit ?_|exact wkc|intro hc|refine wk2 ?_ ?_|fail)
 refine TR.loopN tl.length (fun _=>True) (fun i=>[(1,toF),(17,.t (.sl 6 (tl.map exT))),(18,.i tl.length),(19,.i i)]) (fun i=>knH ((tl.take i).foldl exprL a1)) trivial (fun i hli _=>?_) (fun _=>?_) ⟨rfl,rfl,by rw[<-hmt];rfl,rfl,trivial⟩ rfl
 ·have hz:=at_map exT hli
  rw[exT_eq]at hz
  have hn3:=foldl_at exprL a1 hli
  have hk4:=hok4 i
  have hwt:=htr _ (List.getElem_mem hli)
  generalize (tl.take i).foldl exprL a1=acc3 at*
  have c1:=known1_sound acc3 hk4 tl[i] (shortE_of (by omega)) (by have:=wEx_le tl[i];omega)
  rw[exT_eq]at c1
  generalize exprL acc3 tl[i]=a4 at*
  generalize tl[i]=t at*
  have hc0:exC t=[T.n t.kind,T.n t.op,T.n t.t,T.n t.v,.s t.name,.sl 6 (t.args.map exT)]:=rfl
  rw[hc0]at hz c1
  repeat' (first|refine wkt ?_|(apply TO.indexAddr tabOk;(iterate 8 exact rfl);omega;exact hz)|(apply TO.callD 2 c1;exact rfl;exact rfl;exact rfl;exact Les.refl _;exact rfl;exact rfl;exact rfl;exact rfl;exact rfl;exact rfl;exact rfl;exact rfl)|refine LoopK.exit ?_|exact wkc|intro hc|refine wk2 ?_ ?_|refine wk ?_|fail)
  exact LoopK.nextN hli trivial (by(try dsimp only);exact⟨rfl,rfl,rfl,rfl,trivial⟩) (by(try dsimp only);rw[hn3])
 ·rw[List.take_length]
  repeat' (first|refine wu ?_|exact wkc|intro hc|refine wk2 ?_ ?_|fail)
  exact RetK.keepN 2 rfl (Le.refl _) rfl rfl rfl rfl rfl ⟨rfl,rfl⟩
end Go.Proofs.YtddaclniamlmbaaGreatDoor
