import Derived.Test.YtcbhlhmebbkgnaaGreatPk25
import Derived.Test.YtcbhlhmebbkgnaaGreatPk27
set_option linter.unusedSimpArgs false
set_option linter.unusedVariables false
namespace Go.Proofs.YtcbhlhmebbkgnaaGreat
open Go Go.TL
attribute [local irreducible] TR TO Then InBlock RetK Sound LoopK Kf GG ThenL
abbrev cellS (l:List Str):Blk:=.cells ((l.map T.s).map .t)
theorem cell_at{l:List Str}{k:Nat}(h:k<l.length):((l.map T.s).map SV.t)[0+k*1]?=some (.s l[k]):=by simp[h]
def keepS(own:List Str)(l:List Str):List Str:=l.filter fun x=>!decide (x∈own)
theorem keepS_le(own l:List Str):(keepS own l).length≤l.length:=List.length_filter_le _ _
theorem keepS_take{own l:List Str}{k:Nat}(h:k<l.length):keepS own (l.take (k+1))=keepS own (l.take k)++(if l[k]∈own then[] else[l[k]]):=by
 unfold keepS
 rw[List.take_succ_eq_append_getElem h,List.filter_append]
 by_cases hm:l[k]∈own <;> simp[hm]
theorem keepS_all{own l:List Str}(h:l.all (fun x=>!decide (x∈own))=true):keepS own l=l:=by
 unfold keepS
 rw[List.filter_eq_self]
 intro x hx
 exact List.all_eq_true.1 h x hx
def midS(own l:List Str)(k:Nat):List Str:=keepS own (l.take k)++l.drop (keepS own (l.take k)).length
theorem midS_len(own l:List Str)(k:Nat):(midS own l k).length=l.length:=by
 unfold midS
 have h1:=keepS_le own (l.take k)
 have h2:(l.take k).length≤l.length:=by simp;omega
 simp;omega
theorem midS_at{own l:List Str}{k:Nat}(h:k<l.length):(midS own l k)[k]?=some l[k]:=by
 unfold midS
 have h1:=keepS_le own (l.take k)
 have h2:(l.take k).length=k:=by simp;omega
 rw[List.getElem?_append_right (by omega),List.getElem?_drop,show(keepS own (l.take k)).length+(k-(keepS own (l.take k)).length)=k from by omega]
 exact List.getElem?_eq_getElem h
theorem midS_in{own l:List Str}{k:Nat}(h:k<l.length)(hm:l[k]∈own):midS own l (k+1)=midS own l k:=by
 unfold midS
 rw[keepS_take h,if_pos hm,List.append_nil]
theorem midS_out{own l:List Str}{k:Nat}(h:k<l.length)(hm:l[k] ∉ own):midS own l (k+1)=(midS own l k).set (keepS own (l.take k)).length l[k]:=by
 have h1:=keepS_le own (l.take k)
 have h2:(l.take k).length=k:=by simp;omega
 unfold midS
 rw[keepS_take h,if_neg hm]
 generalize keepS own (l.take k)=K at*
 rw[List.set_append_right _ _ (Nat.le_refl _),Nat.sub_self]
 cases hd:l.drop K.length with
 | nil=>
   have:=congrArg List.length hd
   simp at this;omega
 | cons y r=>
   rw[List.set_cons_zero]
   have hr:l.drop (K.length+1)=r:=by
    have:=congrArg (List.drop 1) hd
    rw[List.drop_drop]at this
    simpa using this
   rw[List.length_append,List.length_singleton,hr]
   simp
theorem midS_first{own l:List Str}{k:Nat}(hk:k<l.length)(ha:(l.take k).all (fun x=>!decide (x∈own))=true)(hm:l[k]∈own):midS own l (k+1)=l/\(keepS own (l.take (k+1))).length=k:=by
 have h2:(l.take k).length=k:=by simp;omega
 unfold midS
 rw[keepS_take hk,if_pos hm,List.append_nil,keepS_all ha,h2]
 exact⟨List.take_append_drop k l,rfl⟩
theorem cellU{k:Nat}{H0:Heap}(h:blksUnder k H0=true)(ts:List T):blksUnder k (H0++[.cells (ts.map .t)])=true:=blksUnder_append h (under_ts k ts)
theorem keepS_lt{own l:List Str}{k:Nat}(hk:k<l.length)(hm:l[k]∈own):(keepS own l).length<l.length:=by
 unfold keepS
 refine List.length_filter_lt_length_iff_exists.2 ⟨l[k],List.getElem_mem hk,by simpa using hm⟩
theorem splice_mid(own l:List Str):splice (((midS own l l.length).map T.s).map SV.t) (0+(keepS own l).length*1) (List.replicate (l.length-(keepS own l).length) (.t (T.s [])))=((keepS own l++List.replicate (l.length-(keepS own l).length) []).map T.s).map .t:=by
 have h1:=keepS_le own l
 unfold splice midS
 rw[List.take_length]
 simp only[Nat.zero_add,Nat.mul_one,List.length_replicate]
 rw[<-List.map_take,<-List.map_take,List.take_left,List.drop_of_length_le (by simp),List.append_nil]
 simp
abbrev outH (p:Prog)(n q:Int)(seen:List (Int×Str×Int))(h:Ch):Heap:=lkB p n q::seenB seen::(h.heap.dropLast++[.dead,.cells [.ref h.id 0]])
theorem del1_sound(p:Prog)(n q:Int)(seen:List (Int×Str×Int))(h:Ch)(hne:8≤h.N)(hk:SetOk h.top.own)(x:Str)(hx:x.length≤1000000000):
  Sound Tryz.prog 215 [.s x,.ref h.N 0] (outH p n q seen h) (fun r H'=>r= .ret (.b (decide (x∈h.top.own)))/\H'=outH p n q seen h):=by
 revert hne hk
 revert h
 refine Ch.lt fun h=>?_
 cases h
 case one=>intro g hne;exact absurd hne (show ¬8≤5 by decide)
 case c1=>intro g hne;exact absurd hne (show ¬8≤7 by decide)
 all_goals
  intro g hne hk
  refine Sound.of tabOk Tryz.func215 (by kernel_rfl) rfl rfl ?_
  repeat' (first|refine wkt ?_|refine wka ?_|refine wk ?_|exact wkc|intro hc|refine wk2 ?_ ?_|(apply TO.setGet;exact rfl;exact rfl;exact rfl;exact rfl;assumption;assumption)|(apply TO.nilGet;exact rfl;exact rfl;exact rfl;assumption)|fail|fail)
  all_goals exact retV rfl (bsv (by simp_all [g,Ch.top])) rfl rfl
theorem didx_sound(p:Prog)(n q:Int)(seen:List (Int×Str×Int))(h:Ch)(hne:8≤h.N)(hk:SetOk h.top.own)(l:List Str)(hl:l.length≤2000000000)(hs:∀x∈l,x.length≤1000000000):
  Sound Tryz.prog 226 [.ms 1 (h.N+1) 0 l.length,.fn 215 [.ref h.N 0]] (outH p n q seen h++[cellS l]) (fun r H'=>r= .ret (.i (idxI (fun x=>decide (x∈h.top.own)) l))/\H'=outH p n q seen h++[cellS l]):=by
 revert hne hk
 revert h
 refine Ch.lt fun h=>?_
 cases h
 case one=>intro g hne;exact absurd hne (show ¬8≤5 by decide)
 case c1=>intro g hne;exact absurd hne (show ¬8≤7 by decide)
 all_goals
  intro g hne hk
  refine Sound.of tabOk Tryz.func226 (by kernel_rfl) rfl rfl ?_
  repeat' (first|refine wk ?_|exact wkc|intro hc|refine wk2 ?_ ?_|fail)
  refine TR.loopN l.length (fun k=>(l.take k).all (fun x=>!decide (x∈g.top.own))=true) (fun k=>[(0,.ms 1 (g.N+1) 0 l.length),(1,.fn 215 [.ref g.N 0]),(7,.i l.length),(8,.i k)]) (fun _=>outH p n q seen g++[cellS l]) rfl (fun k hlt ha=>?_) (fun ha=>?_)
  ·have hx:=cell_at hlt
   have htk:=take_at hlt
   have hat:=idxI_at (fun x=>decide (x∈g.top.own)) l k hlt ha
   have hd:=del1_sound p n q seen g hne hk l[k] (hs _ (List.getElem_mem hlt))
   generalize l[k]=d at hx htk hat hd
   repeat' (first|refine wk ?_|exact wkc|intro hc|refine wk2 ?_ ?_|(apply TO.indexAddr_ms tabOk;exact rfl;exact rfl;exact rfl;exact rfl;exact rfl;exact rfl;exact rfl;omega;omega)|(apply TO.load_ref tabOk;exact rfl;exact rfl;exact rfl;exact rfl;exact rfl;exact hx)|(apply TO.callDb (g.N+1) hd;exact rfl;exact rfl;exact rfl;exact Les.refl _;exact Nat.le_of_ble_eq_true rfl;exact rfl;exact rfl;exact rfl)|fail)
   ·rw[hat hc];exact retV rfl rfl rfl (cellU rfl _)
   ·refine LoopK.nextN hlt ?_
    rw[htk,List.all_append,ha]
    simpa using hc
  ·rw[List.take_length]at ha
   rw[idxI_none _ l ha]
   repeat' (first|refine wk ?_|exact wkc|intro hc|refine wk2 ?_ ?_|fail)
   exact retV rfl rfl rfl (cellU rfl _)
theorem del_sound(p:Prog)(n q:Int)(seen:List (Int×Str×Int))(h:Ch)(hne:8≤h.N)(hk:SetOk h.top.own)(l:List Str)(hl:l.length≤2000000000)(hs:∀x∈l,x.length≤1000000000):
  Sound Tryz.prog 214 [.ms 1 (h.N+1) 0 l.length,.fn 215 [.ref h.N 0]] (outH p n q seen h++[cellS l])
   (fun r H'=>r= .ret (.ms 1 (h.N+1) 0 (keepS h.top.own l).length)/\H'=outH p n q seen h++[.cells (((keepS h.top.own l++List.replicate (l.length-(keepS h.top.own l).length) []).map T.s).map .t)]):=by
 revert hne hk
 revert h
 refine Ch.lt fun h=>?_
 cases h
 case one=>intro g hne;exact absurd hne (show ¬8≤5 by decide)
 case c1=>intro g hne;exact absurd hne (show ¬8≤7 by decide)
 all_goals
  intro g hne hk
  have hd0:=didx_sound p n q seen g hne hk l hl hs
  rcases idxI_range (fun x=>decide (x∈g.top.own)) l with h|⟨k0,hk0,h,hp⟩
  ·rw[h]at hd0
   have hall:l.all (fun x=>!decide (x∈g.top.own))=true:=by
    have:=idxI_any (fun x=>decide (x∈g.top.own)) l
    rw[h]at this
    rw[List.all_eq_not_any_not]
    simpa using this
   rw[keepS_all hall,Nat.sub_self]
   simp only[List.replicate_zero,List.append_nil]
   refine Sound.of tabOk Tryz.func214 (by kernel_rfl) rfl rfl ?_
   repeat' (first|refine wk ?_|exact wkc|intro hc|refine wk2 ?_ ?_|(apply TO.callD (g.N+2) hd0;exact rfl;exact rfl;exact rfl;exact Les.refl _;exact rfl;exact rfl;exact rfl;exact cellU rfl _;exact rfl;exact rfl;exact cellU rfl _;exact forceL_self _)|fail)
   exact retV rfl rfl rfl (cellU rfl _)
  ·rw[h]at hd0
   have hin:l[k0]∈g.top.own:=by simpa using hp
   have hall:(l.take k0).all (fun x=>!decide (x∈g.top.own))=true:=by
    have:∀(l:List Str) (k:Nat),idxI (fun x=>decide (x∈g.top.own)) l=k->(l.take k).all (fun x=>!decide (x∈g.top.own))=true:=by
     intro l
     induction l with
     | nil=>intro k _;simp
     | cons y l ih=>
       intro k hk
       unfold idxI at hk
       by_cases hy:decide (y∈g.top.own)=true
       ·rw[if_pos hy]at hk
        have:k=0:=by omega
        subst this;rfl
       ·rw[if_neg hy]at hk
        split at hk
        ·omega
        ·obtain⟨k',rfl⟩:∃k',k=k'+1:=⟨k-1,by omega⟩
         rw[List.take_succ_cons,List.all_cons,ih k' (by omega)]
         simpa using hy
    exact this l k0 h
   obtain⟨f1,f2⟩:=midS_first hk0 hall hin
   have hlt1:=keepS_lt hk0 hin
   refine Sound.of tabOk Tryz.func214 (by kernel_rfl) rfl rfl ?_
   repeat' (first|refine wk ?_|exact wkc|intro hc|refine wk2 ?_ ?_|(apply TO.callD (g.N+2) hd0;exact rfl;exact rfl;exact rfl;exact Les.refl _;exact rfl;exact rfl;exact rfl;exact cellU rfl _;exact rfl;exact rfl;exact cellU rfl _;exact forceL_self _)|fail)
   refine TR.loopN (l.length-(k0+1)) (fun _=>True) (fun k=>[(0,.ms 1 (g.N+1) 0 l.length),(1,.fn 215 [.ref g.N 0]),(5,.i (keepS g.top.own (l.take (k0+1+k))).length),(6,.i ((k0+1+k:Nat):Int))]) (fun k=>outH p n q seen g++[cellS (midS g.top.own l (k0+1+k))]) trivial (fun k hlt _=>?_) (fun _=>?_) ⟨rfl,rfl,by rw[Nat.add_zero,f2];rfl,rfl,trivial⟩ (by rw[Nat.add_zero,f1];rfl)
   ·have hj:k0+1+k<l.length:=by omega
    have hkl:=keepS_le g.top.own (l.take (k0+1+k))
    have htl:(l.take (k0+1+k)).length=k0+1+k:=by simp;omega
    have hml:(((midS g.top.own l (k0+1+k)).map T.s).map SV.t).length=l.length:=by rw[List.length_map,List.length_map,midS_len]
    have hx:(((midS g.top.own l (k0+1+k)).map T.s).map SV.t)[0+(k0+1+k)*1]?=some (.s l[k0+1+k]):=by
     rw[Nat.zero_add,Nat.mul_one,List.getElem?_map,List.getElem?_map,midS_at hj];rfl
    have hd:=del1_sound p n q seen g hne hk l[k0+1+k] (hs _ (List.getElem_mem hj))
    have g1:=midS_in (own:=g.top.own) hj
    have g2:=midS_out (own:=g.top.own) hj
    have g3:=keepS_take (own:=g.top.own) hj
    generalize l[k0+1+k]=x at*
    generalize keepS g.top.own (l.take (k0+1+k))=KS at*
    generalize midS g.top.own l (k0+1+k)=MS at*
    repeat' (first|refine wk ?_|exact wkc|intro hc|refine wk2 ?_ ?_|(apply TO.indexAddr_ms tabOk;exact rfl;exact rfl;exact rfl;exact rfl;exact rfl;exact rfl;exact rfl;omega;omega)|(apply TO.load_ref tabOk;exact rfl;exact rfl;exact rfl;exact rfl;exact rfl;exact hx)|(apply TO.callDb (g.N+1) hd;exact rfl;exact rfl;exact rfl;exact Les.refl _;exact Nat.le_of_ble_eq_true rfl;exact rfl;exact rfl;exact rfl)|(apply TO.store1 tabOk;exact rfl;exact rfl;exact rfl;exact rfl;exact rfl;exact rfl;exact rfl;(show 0+KS.length*1<_;rw[hml];omega);exact rfl)|fail)
    ·have hxo:x∈g.top.own:=by simpa using hc
     rw[if_pos hxo,List.append_nil]at g3
     refine LoopK.nextN hlt trivial ⟨rfl,rfl,?_,rfl,trivial⟩ ?_
     ·rw[show keepS g.top.own (l.take (k0+1+(k+1)))=KS from g3];rfl
     ·rw[show midS g.top.own l (k0+1+(k+1))=MS from g1 hxo]
    ·have hxo:x ∉ g.top.own:=by simpa using hc
     rw[if_neg hxo]at g3
     refine LoopK.nextN hlt trivial ⟨rfl,rfl,?_,rfl,trivial⟩ ?_
     ·rw[show keepS g.top.own (l.take (k0+1+(k+1)))=KS++[x] from g3,List.length_append];rfl
     ·rw[show midS g.top.own l (k0+1+(k+1))=MS.set KS.length x from g2 hxo]
      show _=outH p n q seen g++[cellS (MS.set KS.length x)]
      unfold cellS
      rw[List.map_set,List.map_set]
      show _=outH p n q seen g++[Blk.cells (((MS.map T.s).map SV.t).set KS.length (.s x))]
      conv=>rhs;rw[show KS.length=0+KS.length*1 from by omega]
      rfl
   ·have hll:k0+1+(l.length-(k0+1))=l.length:=by omega
    have hsp:=splice_mid g.top.own l
    have hml:(((midS g.top.own l l.length).map T.s).map SV.t).length=l.length:=by rw[List.length_map,List.length_map,midS_len]
    rw[hll,List.take_length]
    generalize keepS g.top.own l=KS at*
    generalize midS g.top.own l l.length=MS at*
    repeat' (first|refine wk ?_|exact wkc|intro hc|refine wk2 ?_ ?_|(apply TO.slice_mslo tabOk;exact rfl;exact rfl;exact rfl;exact rfl;exact rfl;exact rfl;exact rfl;omega)|(apply TO.slice_ms tabOk;exact rfl;exact rfl;exact rfl;exact rfl;exact rfl;exact rfl;omega)|(apply TO.clear1 tabOk;exact rfl;exact rfl;exact rfl;exact rfl;exact rfl;exact rfl;exact rfl;omega;(show 0+KS.length*1+(l.length-KS.length)≤_;rw[hml];omega);exact rfl)|fail)
    refine RetK.keep (g.N+2) (v:=.ms 1 (g.N+1) 0 KS.length) rfl (Le.refl _) rfl rfl rfl (H':=outH p n q seen g++[.cells (((KS++List.replicate (l.length-KS.length) []).map T.s).map .t)]) ?_ (cellU rfl _) ⟨rfl,rfl⟩
    rw[<-hsp];rfl
def dupE:List Str->List Str->Int
 | _,[]=>0
 | pre,s::l=>if s∈pre then 7 else dupE (pre++[s]) l
def lv0:Lv:=⟨[],[],[]⟩
def stS(p:Prog)(seen:List (Int×Str×Int))(node:Int)(F:List Str->List Str->Lv->Auto->Lv×Int)(vis low:List Str)(s:Sta):List Str×Int:=
 let r1:=foldS (declF seen vis) lv0 s.locals
 let r2:=foldS (equS p seen node vis low) r1.1 s.eqs
 let r3:=foldS (F vis low) r2.1 s.autos
 (keepS r3.1.own r3.1.defs,
   orE r1.2 (orE (samplE (vis++r1.1.own) s.locals) (orE r2.2 (orE r3.2 (orE (condS p seen node vis s.unl) (orE (condS p seen node (vis++r3.1.own) s.unt) (firstE (fun d:Decl=>if d.name∈r3.1.done then 0 else 8) s.locals)))))))
def firstOf(l:List (List Str×Int)):List Str:=(l.headD ([],0)).1
def sameAll(l:List (List Str×Int)):Bool:=l.all fun r=>alikeB r.1 (firstOf l)
def autoS(p:Prog)(seen:List (Int×Str×Int))(node:Int):Nat->List Str->List Str->Lv->Auto->Lv×Int
 | 0,_,_,t,_=>(t,0)
 | k+1,vis0,low,t,a=>
   let rs:=a.states.map (stS p seen node (autoS p seen node k) (vis0++t.own) (low++t.done))
   (⟨t.own,(firstOf rs).foldl ins t.done,t.defs++firstOf rs⟩,orE (dupE [] (a.states.map Sta.name)) (orE (firstE Prod.snd rs) (if sameAll rs=true then 0 else 8)))
def nestOk:Nat->Auto->Prop
 | 0,_=>False
 | k+1,a=>∀s∈a.states,∀b∈s.autos,nestOk k b
structure Good (own:List Str) (B:Nat) (a:Lv):Prop where
 ok:a.ok
 own:a.own=own
 len:a.defs.length≤B
 short:∀s∈a.defs,s.length≤1000000000
theorem Good.mono{own:List Str}{B B':Nat}{a:Lv}(h:Good own B a)(hb:B≤B'):Good own B' a:=⟨h.ok,h.own,Nat.le_trans h.len hb,h.short⟩
theorem fold_goodM{α β:Type}{f:β->α->β×Int}{G:Nat->β->Prop}{w:α->Nat}(l:List α)(step:∀B a x,x∈l->G B a->(f a x).2=0->G (B+w x) (f a x).1):∀(B:Nat) (a:β),G B a->(foldS f a l).2=0->G (B+(l.map w).sum) (foldS f a l).1:=by
 induction l with
 | nil=>intro B a h _;simpa [foldS]using h
 | cons x l ih=>
   intro B a h hz
   unfold foldS at hz⊢
   split at hz
   ·rename_i h0
    rw[if_pos h0]
    have:=ih (fun B a y hy=>step B a y (by simp[hy])) _ _ (step B a x (by simp) h h0) hz
    rw[List.map_cons,List.sum_cons,<-Nat.add_assoc]
    exact this
   ·rename_i h0;exact absurd hz h0
theorem fold_takeM{α β:Type}{f:β->α->β×Int}{G:Nat->β->Prop}{w:α->Nat}(l:List α)(step:∀B a x,x∈l->G B a->(f a x).2=0->G (B+w x) (f a x).1)(B:Nat)(a:β)(h:G B a){k:Nat}(hz:(foldS f a (l.take k)).2=0):G (B+((l.take k).map w).sum) (foldS f a (l.take k)).1:=
 fold_goodM (l.take k) (fun B a x hx=>step B a x (List.mem_of_mem_take hx)) B a h hz
theorem sum_one{α:Type}:∀(l:List α),(l.map fun _=>1).sum=l.length
 | []=>rfl
 | x::l=>by simp[sum_one l];omega
theorem left_good{vis low own:List Str}{B:Nat}{a:Lv}{s:Str}(hs:s.length≤1000000000)(h:Good own B a):Good own (B+1) (leftF vis low a s).1:=by
 refine⟨h.ok.addDone hs,h.own,?_,fun x hx=>?_⟩
 ·have:=h.len
  simp[leftF,Lv.addDone];omega
 ·simp[leftF,Lv.addDone]at hx
  rcases hx with hx|rfl
  ·exact h.short x hx
  ·exact hs
theorem equ_good{p:Prog}{seen:List (Int×Str×Int)}{node:Int}{vis0 low own:List Str}{B:Nat}{a:Lv}{u:Equ}(hw:(equT u).w≤1000000000)(h:Good own B a)(hz:(equS p seen node vis0 low a u).2=0):Good own (B+(equT u).w) (equS p seen node vis0 low a u).1:=by
 unfold equS at hz⊢
 simp only[orE]at hz
 have h1:(foldS (leftF (vis0++a.own) low) a u.left).2=0:=by
  split at hz
  ·assumption
  ·exact hz
 have:=fold_goodM (G:=Good own) (w:=fun _=>1) u.left (fun B a x hx h _=>left_good (Nat.le_trans (left_w hx) hw) h) B a h h1
 refine this.mono ?_
 have:=left_equ (q:=u)
 rw[sum_one];omega
theorem st_good{p:Prog}{seen:List (Int×Str×Int)}{node:Int}{F:List Str->List Str->Lv->Auto->Lv×Int}{vis low:List Str}{s:Sta}(hw:(staT s).w≤1000000000)
  (hF:∀own B t b,b∈s.autos->Good own B t->(F vis low t b).2=0->Good own (B+(autoT b).w) (F vis low t b).1)(hz:(stS p seen node F vis low s).2=0):
  (stS p seen node F vis low s).1.length≤(staT s).w/\∀x∈(stS p seen node F vis low s).1,x.length≤1000000000:=by
 have hws:=w_sta s
 unfold stS at hz⊢
 simp only[orE]at hz⊢
 have z1:(foldS (declF seen vis) lv0 s.locals).2=0:=by grind
 have z2:(foldS (equS p seen node vis low) (foldS (declF seen vis) lv0 s.locals).1 s.eqs).2=0:=by grind
 have z3:(foldS (F vis low) (foldS (equS p seen node vis low) (foldS (declF seen vis) lv0 s.locals).1 s.eqs).1 s.autos).2=0:=by grind
 have g0:(fun(B:Nat) (a:Lv)=>a.ok/\a.defs=[]) 0 lv0:=⟨⟨SetOk.nil,SetOk.nil⟩,rfl⟩
 have g1:=fold_goodM (f:=declF seen vis) (G:=fun(B:Nat) (a:Lv)=>a.ok/\a.defs=[]) (w:=fun _=>0) s.locals (fun B a x hx h _=>⟨h.1.addOwn (by have:=(name_decl hx).1;omega),h.2⟩) 0 lv0 g0 z1
 have g2:=fold_goodM (f:=equS p seen node vis low) (G:=Good (foldS (declF seen vis) lv0 s.locals).1.own) (w:=fun u=>(equT u).w) s.eqs (fun B a x hx h hz=>equ_good (by have:=w_inM (f:=equT) (sz:=7) hx;omega) h hz) 0 _ ⟨g1.1,rfl,by rw[g1.2];exact Nat.le_refl _,by rw[g1.2];simp⟩ z2
 have g3:=fold_goodM (f:=F vis low) (G:=Good (foldS (declF seen vis) lv0 s.locals).1.own) (w:=fun b=>(autoT b).w) s.autos (fun B a x hx h hz=>hF _ B a x hx h hz) _ _ g2 z3
 refine⟨?_,fun x hx=>g3.short x ((List.mem_filter.1 hx).1)⟩
 refine Nat.le_trans (keepS_le _ _) ?_
 have h3:=g3.len
 have e1:((s.eqs.map fun u=>(equT u).w)).sum≤(T.sl 7 (s.eqs.map equT)).w:=by
  rw[w_sl,List.map_map];simp only[Function.comp_def];omega
 have e2:((s.autos.map fun u=>(autoT u).w)).sum≤(T.sl 1 (s.autos.map autoT)).w:=by
  rw[w_sl,List.map_map];simp only[Function.comp_def];omega
 omega
theorem auto_good{p:Prog}{seen:List (Int×Str×Int)}{node:Int}:∀(k:Nat) {vis0 low own:List Str} {B:Nat} {t:Lv} {a:Auto},(autoT a).w≤1000000000->Good own B t->(autoS p seen node k vis0 low t a).2=0->Good own (B+(autoT a).w) (autoS p seen node k vis0 low t a).1
 | 0,vis0,low,own,B,t,a,hw,h,hz=>h.mono (by omega)
 | k+1,vis0,low,own,B,t,a,hw,h,hz=>by
   have hwa:=w_auto a
   unfold autoS at hz⊢
   simp only[orE]at hz⊢
   have z1:firstE Prod.snd (a.states.map (stS p seen node (autoS p seen node k) (vis0++t.own) (low++t.done)))=0:=by grind
   have hfs:(firstOf (a.states.map (stS p seen node (autoS p seen node k) (vis0++t.own) (low++t.done)))).length≤(autoT a).w/\∀x∈firstOf (a.states.map (stS p seen node (autoS p seen node k) (vis0++t.own) (low++t.done))),x.length≤1000000000:=by
    cases hs:a.states with
    | nil=>simp[firstOf]
    | cons s l=>
      have hm:s∈a.states:=by rw[hs];simp
      have hws:=w_inM (f:=staT) (sz:=6) hm
      have z2:(stS p seen node (autoS p seen node k) (vis0++t.own) (low++t.done) s).2=0:=by
       rw[hs,List.map_cons,firstE]at z1
       split at z1
       ·assumption
       ·exact z1
      have:=st_good (by omega) (fun own B t b hb hg hz=>auto_good k (by have:=w_inM (f:=autoT) (sz:=1) hb;have:=w_sta s;omega) hg hz) z2
      simp only[firstOf,List.map_cons,List.headD_cons]
      exact⟨by omega,this.2⟩
   generalize firstOf (a.states.map (stS p seen node (autoS p seen node k) (vis0++t.own) (low++t.done)))=fs at*
   refine⟨⟨h.ok.own,?_⟩,h.own,?_,fun x hx=>?_⟩
   ·have:∀(l:List Str) (d:List Str),SetOk d->(∀x∈l,x.length≤1000000000)->SetOk (l.foldl ins d):=by
     intro l
     induction l with
     | nil=>intro d hd _;exact hd
     | cons y l ih=>intro d hd hl;exact ih _ (hd.ins (hl y (by simp))) (fun x hx=>hl x (by simp[hx]))
    exact this fs t.done h.ok.done hfs.2
   ·have:=h.len
    simp;omega
   ·simp at hx
    rcases hx with hx|hx
    ·exact h.short x hx
    ·exact hfs.2 x hx
theorem declS_one(seen:List (Int×Str×Int))(vis0:List Str)(a:Lv)(d:Decl):declS seen vis0 a [d]=declF seen vis0 a d:=by
 unfold declS
 simp only[foldS]
 split
 ·rename_i h
  generalize declF seen vis0 a d=z at*
  obtain⟨z1,z2⟩:=z
  simp only at h;subst h;rfl
 ·rfl
theorem retSR{env:Env}{H H1:Heap}{n q c:Int}{N:Nat}{rs:List ResultVar}{vs:List SV}{v:SV}(hc:c=0)(hr:resAll tab env H rs=some vs)(hl:Le (pack vs) v)(hN:Nat.ble N H1.length=true)(hk:Nat.ble H1.length H.length=true)(hu:v.under H1.length=true)(ht:H.take H1.length=H1)(hb:blksUnder H1.length H1=true):
  DeadK (RetK tab rs N (Err0 c v (failS n q c) H1 N)) .ret env H:=RetK.errV hc hr hl hN hk hu ht hb
theorem del_none:Pure Tryz.prog 214 [.t (.sl 1 []),.any] (.t (.sl 1 [])):=by
 have hi:Pure Tryz.prog 226 [.t (.sl 1 []),.any] (.i (-1)):=by
  refine Sound.of tabOk Tryz.func226 (by kernel_rfl) rfl rfl ?_
  repeat' (first|refine wk ?_|exact wkc|intro hc|refine wk2 ?_ ?_|fail)
  refine TR.loopN 0 (fun _=>True) (fun k=>[(0,.t (.sl 1 [])),(7,.i 0),(8,.i k)]) (fun _=>[]) trivial (fun k hlt _=>?_) (fun _=>?_) ⟨rfl,rfl,rfl,trivial⟩
  ·omega
  ·repeat' (first|refine wk ?_|exact wkc|intro hc|refine wk2 ?_ ?_|fail)
   exact wkr
 refine Sound.of tabOk Tryz.func214 (by kernel_rfl) rfl rfl ?_
 repeat' (first|refine wkt ?_|refine wk ?_|exact wkc|intro hc|refine wk2 ?_ ?_|refine wv hi ?_|fail)
 exact wkr
theorem sum_w{α:Type}(f:α->T)(sz:Nat)(l:List α):(l.map fun x=>(f x).w).sum<(T.sl sz (l.map f)).w:=by
 rw[w_sl,List.map_map];simp only[Function.comp_def];omega
theorem sum_take_le'{α:Type}(w:α->Nat):∀(l:List α) (k:Nat),((l.take k).map w).sum≤(l.map w).sum
 | [],k=>by simp
 | x::l,0=>by simp
 | x::l,k+1=>by
   have:=sum_take_le' w l k
   simp only[List.take_succ_cons,List.map_cons,List.sum_cons];omega
set_option maxHeartbeats 4000000 in
theorem st_sound (p:Prog) (hp:SmallC p) (n q:Int) (seen:List (Int×Str×Int)) (hse:SeenOk seen) (hsn:SeenN p seen) (node:Int) (h:Ch) (hn1:h.N≠5) (hn2:h.N≠19) (hk0:h.ok) (F:List Str->List Str->Lv->Auto->Lv×Int) (s:Sta) (hw:(staT s).w≤1000000000)
  (hF:∀own B tt bb,bb∈s.autos->Good own B tt->(F h.vis (h.low++h.top.done) tt bb).2=0->Good own (B+(autoT bb).w) (F h.vis (h.low++h.top.done) tt bb).1)
  (hau:∀bb,bb∈s.autos->∀x:Lv,x.ok->x.defs.length≤1000000000->(∀y∈x.defs,y.length≤1000000000)->SS 148 [.i node,.ref (h.push x).id 0,.t (.ag (autoC bb))] p n q seen (h.push x) (h.push (F h.vis (h.low++h.top.done) x bb).1) (F h.vis (h.low++h.top.done) x bb).2)
  (hxe:∀u∈s.eqs,∀x∈flat u.right,ExOk x) (hxu:∀t∈s.unl,∀x∈flat t.cond,ExOk x) (hxv:∀t∈s.unt,∀x∈flat t.cond,ExOk x):
  Sound Tryz.prog 190 [.ref 0 0,.i node,.ref h.id 0,.t (.ag (staC s))] (full p n q seen h)
   (Err (stS p seen node F h.vis (h.low++h.top.done) s).2 (.t (.sl 1 ((stS p seen node F h.vis (h.low++h.top.done) s).1.map T.s))) (failS n q (stS p seen node F h.vis (h.low++h.top.done) s).2) (full p n q seen h)):=by
 revert hn1 hn2 hk0 hF hau
 revert h
 refine Ch.lt fun h=>?_
 cases h
 case one=>intro g hn1;exact absurd rfl hn1
 case c4=>intro g hn1 hn2;exact absurd rfl hn2
 all_goals
  intro g hn1 hn2 hk0 hF hau
  clear hn1 hn2
  have pv:∀x,(g.push x).vis0=g.vis:=fun _=>rfl
  have pl:∀x,(g.push x).low=g.low++g.top.done:=fun _=>rfl
  have pt:∀x,(g.push x).top=x:=fun _=>rfl
  have pw:∀x,(g.push x).vis=g.vis++x.own:=fun _=>rfl
  have ps:∀x y,(g.push x).set y=g.push y:=fun _ _=>rfl
  have pn:∀x,(g.push x).N≠5:=fun _=>Nat.ne_of_beq_eq_false rfl
  have pm:∀x,8≤(g.push x).N:=fun x=>Nat.le_of_ble_eq_true rfl
  have hpush:∀x:Lv,x.ok->(g.push x).ok:=by
   first
   | exact fun x hx=>⟨hk0.1,hk0.2,hx⟩
   | exact fun x hx=>⟨hk0.1,hk0.2.1,hk0.2.2,hx⟩
   | exact fun x hx=>⟨hk0.1,hk0.2.1,hk0.2.2.1,hk0.2.2.2,hx⟩
  have hws:=w_sta s
  have m1:(s.locals.map declT).length=s.locals.length:=List.length_map _
  have m2:(s.eqs.map equT).length=s.eqs.length:=List.length_map _
  have m3:(s.autos.map autoT).length=s.autos.length:=List.length_map _
  have b1:=w_lenM declT 3 s.locals
  have b2:=w_lenM equT 7 s.eqs
  have b3:=w_lenM autoT 1 s.autos
  have hdT:(declsT s.locals).w=(T.sl 3 (s.locals.map declT)).w:=rfl
  have e1:=sum_w equT 7 s.eqs
  have e2:=sum_w autoT 1 s.autos
  have ek1:=fun k=>sum_take_le' (fun u=>(equT u).w) s.eqs k
  have ek2:=fun k=>sum_take_le' (fun u=>(autoT u).w) s.autos k
  have hz:(stS p seen node F g.vis (g.low++g.top.done) s).2=(stS p seen node F g.vis (g.low++g.top.done) s).2:=rfl
  conv at hz=>rhs;unfold stS
  have hz1:(stS p seen node F g.vis (g.low++g.top.done) s).1=(stS p seen node F g.vis (g.low++g.top.done) s).1:=rfl
  conv at hz1=>rhs;unfold stS
  simp only at hz hz1
  generalize stS p seen node F g.vis (g.low++g.top.done) s=Z at*
  unfold staC
  refine Sound.err rfl (fun _=>rfl) ?_
  refine Sound.of tabOk Tryz.func190 (by kernel_rfl) rfl rfl ?_
  refine TR.dead ?_
  repeat' (first|refine wkt ?_|(apply TO.callW (inner_ref p n q seen g);exact rfl;exact rfl;exact rfl;exact Les.refl _;apply TO.row_cell 9 (g.N+2) 4;exact rfl;exact rfl;exact rfl)|refine wk ?_|fail)
  refine TR.loopN s.locals.length (fun k=>(foldS (declF seen g.vis) lv0 (s.locals.take k)).2=0/\(foldS (declF seen g.vis) lv0 (s.locals.take k)).1.ok/\(foldS (declF seen g.vis) lv0 (s.locals.take k)).1.defs=[]) (fun k=>[(0,.ref 0 0),(1,.i node),(2,.ref g.id 0),(7,.cp [.s s.name,declsT s.locals,.sl 7 (s.eqs.map equT),.sl 1 (s.autos.map autoT),.sl 8 (s.unl.map tranT),.sl 8 (s.unt.map tranT)] 0),(9,.ref (g.N+4) 0),(21,.t (declsT s.locals)),(22,.i (s.locals.map declT).length),(23,.i k)]) (fun k=>full p n q seen (g.push (foldS (declF seen g.vis) lv0 (s.locals.take k)).1)++[.cells [.ref (g.N+2) 0]]) ⟨rfl,⟨SetOk.nil,SetOk.nil⟩,rfl⟩ (fun k hlt ha=>?_) (fun ha=>?_)
  ·have hx:=at_decl hlt
   have hno:s.locals[k].name.length≤1000000000:=by have:=(name_decl (List.getElem_mem hlt)).1;omega
   have hwd:(declsT [s.locals[k]]).w≤1000000000:=by
    have:=w_inM (f:=declT) (sz:=3) (List.getElem_mem hlt)
    rw[show declsT [s.locals[k]]= .sl 3 [declT s.locals[k]] from rfl,w_sl]
    simp only[List.map_cons,List.map_nil,List.sum_cons,List.sum_nil];omega
   have g1:=foldS_at (f:=declF seen g.vis) hlt ha.1
   have g2:=foldS_next (f:=declF seen g.vis) hlt ha.1
   obtain⟨ha1,ha2,ha3⟩:=ha
   generalize (foldS (declF seen g.vis) lv0 (s.locals.take k)).1=st at*
   generalize s.locals[k]=x at*
   have hs:=declare_sound p n q seen hse (g.push st) (hpush st ha2) [x] hwd
   simp only[pv,pt,ps,declS_one]at hs
   have hok:(declF seen g.vis st x).1.ok:=ha2.addOwn hno
   have hdf:(declF seen g.vis st x).1.defs=[]:=ha3
   generalize declF seen g.vis st x=fx at*
   rw[show declsT [x]= .sl 3 [.ag (declC x)] from rfl]at hs
   unfold declC at hx hs
   clear hau hF
   repeat' (first|refine wkt ?_|refine wka ?_|refine wkD ?_|refine wk ?_|exact wkc|intro hc|refine wk2 ?_ ?_|refine wsx ?_|refine wms ?_|refine wsy ?_ ?_|refine wss hs ?_ ?_|fail)
   ·refine LoopK.nextN hlt ⟨by rw[g2];exact hc,by rw[g2];exact hok,by rw[g2];exact hdf⟩ ?_ (by rw[g2];rfl)
    repeat' (first|exact trivial|refine And.intro rfl ?_|fail)
   ·((repeat' (first|refine LoopK.panic ?_|refine wk ?_|fail));apply retS;(first|assumption|decide);(clear hs hx;first|grind|grind [orE]);(first|exact Nat.le_of_ble_eq_true rfl|exact Nat.le_refl _|(simp[Ch.len];done)|(simp[Ch.len];omega)))
  obtain⟨hd1,hd2,hd3⟩:=ha
  rw[List.take_length]at hd1 hd2 hd3
  rw[List.take_length]
  rw[hd1]at hz
  generalize hL1:(foldS (declF seen g.vis) lv0 s.locals).1=L1 at*
  have hsm:=sampl_sound p n q seen (g.push L1) (hpush L1 hd2) s.locals (by omega)
  simp only[pw]at hsm
  repeat' (first|refine wkt ?_|refine wka ?_|refine wkD ?_|refine wk ?_|exact wkc|intro hc|refine wk2 ?_ ?_|refine wsx ?_|refine wms ?_|refine wsy ?_ ?_|refine wss hsm ?_ ?_|fail)
  all_goals first
   | ((repeat' (first|refine LoopK.panic ?_|refine wk ?_|fail));apply retS;(first|assumption|decide);(clear hsm hau hF;first|grind|grind [orE]);(first|exact Nat.le_of_ble_eq_true rfl|exact Nat.le_refl _|(simp[Ch.len];done)|(simp[Ch.len];omega)))
   | skip
  clear hsm
  have G1:Good L1.own 0 L1:=⟨hd2,rfl,by rw[hd3];exact Nat.le_refl _,by rw[hd3];simp⟩
  have ge:=fun k hz=>fold_takeM (f:=equS p seen node g.vis (g.low++g.top.done)) (G:=Good L1.own) (w:=fun u=>(equT u).w) s.eqs (fun B a x hx h hz=>equ_good (by have:=w_inM (f:=equT) (sz:=7) hx;omega) h hz) 0 L1 G1 (k:=k) hz
  refine TR.loopN s.eqs.length (fun k=>(foldS (equS p seen node g.vis (g.low++g.top.done)) L1 (s.eqs.take k)).2=0) (fun k=>[(0,.ref 0 0),(1,.i node),(2,.ref g.id 0),(7,.cp [.s s.name,declsT s.locals,.sl 7 (s.eqs.map equT),.sl 1 (s.autos.map autoT),.sl 8 (s.unl.map tranT),.sl 8 (s.unt.map tranT)] 0),(9,.ref (g.N+4) 0),(39,.t (.sl 7 (s.eqs.map equT))),(40,.i (s.eqs.map equT).length),(41,.i k)]) (fun k=>full p n q seen (g.push (foldS (equS p seen node g.vis (g.low++g.top.done)) L1 (s.eqs.take k)).1)++[.cells [.ref (g.N+2) 0]]) rfl (fun k hlt ha=>?_) (fun ha=>?_)
  ·have hx:=at_equ hlt
   have g1:=foldS_at (f:=equS p seen node g.vis (g.low++g.top.done)) hlt ha
   have g2:=foldS_next (f:=equS p seen node g.vis (g.low++g.top.done)) hlt ha
   have hwu:(equT s.eqs[k]).w≤1000000000:=by have:=w_inM (f:=equT) (sz:=7) (List.getElem_mem hlt);omega
   have gk:=ge k ha
   have gk2:=ek1 k
   have hxk:=hxe _ (List.getElem_mem hlt)
   have hlw:=left_equ (q:=s.eqs[k])
   generalize (foldS (equS p seen node g.vis (g.low++g.top.done)) L1 (s.eqs.take k)).1=st at*
   generalize s.eqs[k]=x at*
   have hs:=equ_sound p hp n q seen hse hsn node (g.push st) (pn st) (hpush st gk.ok) x hwu (by have:=gk.len;simp only[pt];omega) hxk
   simp only[pv,pl,pt,ps]at hs
   generalize equS p seen node g.vis (g.low++g.top.done) st x=fx at*
   unfold equC at hx hs
   clear hau hF ge
   repeat' (first|refine wkt ?_|refine wka ?_|refine wkD ?_|refine wk ?_|exact wkc|intro hc|refine wk2 ?_ ?_|refine wsx ?_|refine wms ?_|refine wsy ?_ ?_|refine wss hs ?_ ?_|fail)
   ·refine LoopK.nextN hlt (by rw[g2];exact hc) ?_ (by rw[g2];rfl)
    repeat' (first|exact trivial|refine And.intro rfl ?_|fail)
   ·((repeat' (first|refine LoopK.panic ?_|refine wk ?_|fail));apply retS;(first|assumption|decide);(clear hs hx;first|grind|grind [orE]);(first|exact Nat.le_of_ble_eq_true rfl|exact Nat.le_refl _|(simp[Ch.len];done)|(simp[Ch.len];omega)))
  have ge1:=ge s.eqs.length ha
  rw[List.take_length]at ha ge1
  rw[List.take_length]
  rw[ha]at hz
  generalize (foldS (equS p seen node g.vis (g.low++g.top.done)) L1 s.eqs).1=L2 at*
  clear ge
  refine wk ?_
  repeat' (first|refine wkt ?_|refine wk ?_|exact wkc|intro hc|refine wk2 ?_ ?_|fail)
  have ga:=fun k hz=>fold_takeM (f:=F g.vis (g.low++g.top.done)) (G:=Good L1.own) (w:=fun b=>(autoT b).w) s.autos (fun B a x hx h hz=>hF _ B a x hx h hz) _ L2 ge1 (k:=k) hz
  refine TR.loopN s.autos.length (fun k=>(foldS (F g.vis (g.low++g.top.done)) L2 (s.autos.take k)).2=0) (fun k=>[(0,.ref 0 0),(1,.i node),(2,.ref g.id 0),(7,.cp [.s s.name,declsT s.locals,.sl 7 (s.eqs.map equT),.sl 1 (s.autos.map autoT),.sl 8 (s.unl.map tranT),.sl 8 (s.unt.map tranT)] 0),(9,.ref (g.N+4) 0),(52,.t (.sl 1 (s.autos.map autoT))),(53,.i (s.autos.map autoT).length),(54,.i k)]) (fun k=>full p n q seen (g.push (foldS (F g.vis (g.low++g.top.done)) L2 (s.autos.take k)).1)++[.cells [.ref (g.N+2) 0]]) rfl (fun k hlt ha=>?_) (fun ha=>?_)
  ·have hx:=at_auto hlt
   have g1:=foldS_at (f:=F g.vis (g.low++g.top.done)) hlt ha
   have g2:=foldS_next (f:=F g.vis (g.low++g.top.done)) hlt ha
   have gk:=ga k ha
   have gk2:=ek2 k
   have gk3:=sum_take_le' (fun u=>(equT u).w) s.eqs s.eqs.length
   generalize (foldS (F g.vis (g.low++g.top.done)) L2 (s.autos.take k)).1=st at*
   have hs:=hau _ (List.getElem_mem hlt) st gk.ok (by have:=gk.len;omega) gk.short
   generalize s.autos[k]=x at*
   generalize F g.vis (g.low++g.top.done) st x=fx at*
   unfold autoC at hx hs
   clear hau hF ga
   repeat' (first|refine wkt ?_|refine wka ?_|refine wkD ?_|refine wk ?_|exact wkc|intro hc|refine wk2 ?_ ?_|refine wsx ?_|refine wms ?_|refine wsy ?_ ?_|refine wss hs ?_ ?_|fail)
   ·refine LoopK.nextN hlt (by rw[g2];exact hc) ?_ (by rw[g2];rfl)
    repeat' (first|exact trivial|refine And.intro rfl ?_|fail)
   ·((repeat' (first|refine LoopK.panic ?_|refine wk ?_|fail));apply retS;(first|assumption|decide);(clear hs hx;first|grind|grind [orE]);(first|exact Nat.le_of_ble_eq_true rfl|exact Nat.le_refl _|(simp[Ch.len];done)|(simp[Ch.len];omega)))
  have ga1:=ga s.autos.length ha
  rw[List.take_length]at ha ga1
  rw[List.take_length]
  rw[ha]at hz
  have gk2:=ek2 s.autos.length
  have gk3:=sum_take_le' (fun u=>(equT u).w) s.eqs s.eqs.length
  rw[List.take_length]at gk2 gk3
  generalize (foldS (F g.vis (g.low++g.top.done)) L2 s.autos).1=L3 at*
  clear ga hau hF
  refine wk ?_
  repeat' (first|refine wkt ?_|refine wk ?_|exact wkc|intro hc|refine wk2 ?_ ?_|fail)
  have hcu:=cond_sound p hp n q seen hse hsn node g hk0 s.unl (by omega) hxu
  have hcv:=cond_sound p hp n q seen hse hsn node (g.push L3) (hpush L3 ga1.ok) s.unt (by omega) hxv
  simp only[pw]at hcv
  repeat' (first|refine wkt ?_|refine wka ?_|refine wkD ?_|refine wk ?_|exact wkc|intro hc|refine wk2 ?_ ?_|refine wsx ?_|refine wms ?_|refine wsy ?_ ?_|refine wss hcu ?_ ?_|refine wss hcv ?_ ?_|fail)
  all_goals first
   | ((repeat' (first|refine LoopK.panic ?_|refine wk ?_|fail));apply retS;(first|assumption|decide);(clear hcu hcv;first|grind|grind [orE]);(first|exact Nat.le_of_ble_eq_true rfl|exact Nat.le_refl _|(simp[Ch.len];done)|(simp[Ch.len];omega)))
   | skip
  clear hcu hcv
  refine TR.loopN s.locals.length (fun k=>firstE (fun d:Decl=>if d.name∈L3.done then 0 else 8) (s.locals.take k)=0) (fun k=>[(0,.ref 0 0),(1,.i node),(2,.ref g.id 0),(7,.cp [.s s.name,declsT s.locals,.sl 7 (s.eqs.map equT),.sl 1 (s.autos.map autoT),.sl 8 (s.unl.map tranT),.sl 8 (s.unt.map tranT)] 0),(9,.ref (g.N+4) 0),(77,.t (declsT s.locals)),(78,.i (s.locals.map declT).length),(79,.i k)]) (fun k=>full p n q seen (g.push L3)++[.cells [.ref (g.N+2) 0]]) rfl (fun k hlt ha=>?_) (fun ha=>?_)
  ·have hx:=at_decl hlt
   have hno:s.locals[k].name.length≤1000000000:=by have:=(name_decl (List.getElem_mem hlt)).1;omega
   have g1:=firstE_at (f:=fun d:Decl=>if d.name∈L3.done then 0 else 8) hlt ha
   have g2:=firstE_next (f:=fun d:Decl=>if d.name∈L3.done then 0 else 8) hlt ha
   have hdn:=ga1.ok.done
   generalize s.locals[k]=x at*
   unfold declC at hx
   repeat' (first|refine wkt ?_|refine wka ?_|refine wkD ?_|refine wk ?_|exact wkc|intro hc|refine wk2 ?_ ?_|refine wsx ?_|refine wms ?_|refine wsy ?_ ?_|fail|fail)
   ·exact LoopK.nextN hlt (g2 (by rw[if_pos hc]))
   ·((repeat' (first|refine LoopK.panic ?_|refine wk ?_|fail));apply retS;(first|assumption|decide);(clear hx;first|grind|grind [orE]);(first|exact Nat.le_of_ble_eq_true rfl|exact Nat.le_refl _|(simp[Ch.len];done)|(simp[Ch.len];omega)))
  have el:=firstE_all ha
  rw[el]at hz
  refine wk ?_
  repeat' (first|refine wkt ?_|refine wk ?_|exact wkc|intro hc|refine wk2 ?_ ?_|fail)
  have hz2:Z.2=0:=by rw[hz];simp only[orE];grind
  have hdl:=ga1.len
  have hsh:=ga1.short
  have hown:=ga1.ok.own
  obtain⟨z1,z2⟩:=Z
  simp only at hz1 hz2
  subst hz1 hz2
  by_cases hnil:L3.defs=[]
  ·have hk:keepS L3.own L3.defs=[]:=by rw[hnil];rfl
   have hr:(L3.defs.map T.s)=[]:=by rw[hnil];rfl
   rw[hk]
   refine TO.rw_nil 96 1 (R:=g.N+3) (e:=9) ?_ ?_ ?_
   ·show some (SV.rw (g.N+3) (L3.defs.map T.s).length)=_
    rw[hr];rfl
   ·show some (Blk.row 9 (L3.defs.map T.s))=_
    rw[hr]
   repeat' (first|refine wkt ?_|refine wk ?_|exact wkc|intro hc|refine wk2 ?_ ?_|(apply TO.callV del_none;exact rfl;exact rfl;exact rfl;exact⟨Le.refl _,Le.any _,trivial⟩;exact rfl;exact rfl)|fail)
   exact retSR rfl rfl (Le.refl _) rfl rfl rfl rfl rfl
  ·have hml:(L3.defs.map T.s).length=L3.defs.length:=List.length_map _
   have hdel:=del_sound p n q seen (g.push L3) (pm L3) (by rw[pt];exact hown) L3.defs (by omega) hsh
   rw[<-hml]at hdel
   simp only[pt]at hdel
   refine TO.fix 96 (R:=g.N+3) (e:=9) (ts:=L3.defs.map T.s) rfl rfl rfl (by rw[hml];exact List.length_pos_iff.2 hnil) rfl ?_
   have hkl:=keepS_le L3.own L3.defs
   have hlen2:((keepS L3.own L3.defs).map T.s).length=(keepS L3.own L3.defs).length:=List.length_map _
   refine TO.callD (g.N+6) hdel rfl rfl rfl (Les.refl _) rfl rfl rfl (cellU rfl _) rfl rfl (cellU rfl _) (forceL_self _) ?_
   refine TO.freezeP 98 1 (g.N+5) (keepS L3.own L3.defs).length (es:=(keepS L3.own L3.defs).map T.s) rfl rfl ?_ ?_ hlen2.symm (fun e he=>by obtain⟨x,_,rfl⟩:=List.mem_map.1 he;rfl) rfl rfl ?_
   ·simp only[List.length_map,List.length_append,List.length_replicate];omega
   ·intro j c hj
    have hfl:((keepS L3.own L3.defs).map T.s).map T.cells=((keepS L3.own L3.defs).map T.s).map fun t=>[t]:=by
     rw[List.map_map,List.map_map];rfl
    have hfl2:∀l:List T,(l.map fun t=>[t]).flatten=l:=by
     intro l
     induction l with
     | nil=>rfl
     | cons a l ih=>simp[ih]
    rw[hfl,hfl2]at hj
    rw[List.map_append,List.map_append,List.getElem?_append_left (List.getElem?_eq_some_iff.1 hj).1]
    exact hj
   repeat' (first|refine wkt ?_|refine wk ?_|exact wkc|intro hc|refine wk2 ?_ ?_|fail)
   exact retSR rfl rfl (Le.refl _) rfl rfl rfl rfl rfl
end Go.Proofs.YtcbhlhmebbkgnaaGreat
