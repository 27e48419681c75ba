import Derived.Test.YtddaclniamlmbaaGreatDoorPk12
import Derived.Test.YtddaclniamlmbaaGreatDoorPk19
import Derived.Test.YtddaclniamlmbaaGreatDoorPk21
import Derived.Test.YtddaclniamlmbaaGreatDoorPk23
import Derived.Test.YtddaclniamlmbaaGreatDoorPk28
set_option linter.unusedSimpArgs false
set_option linter.unusedVariables false
namespace Go.Proofs.YtddaclniamlmbaaGreatDoor
open Go Go.TL
attribute [local irreducible] TR TO Then InBlock RetK Sound LoopK Kf GG ThenL
theorem wbd{G Q:Prop}{f:FuncId}{cargs:List SV}{v:SV}(hs:Pure Tryz.prog f cargs v)(k:Q)(h:Pure Tryz.prog f cargs v->Hold Q->G:=by
  intro hs k
  (apply Go.TL.TO.callBnd hs;exact rfl;exact rfl;exact rfl;exact Go.TL.Les.refl _;exact rfl;exact rfl;exact k.p)):G:=h hs ⟨k⟩
theorem wmb{G Q:Prop}(k:Q)(h:Hold Q->G:=by
  intro k
  (apply Go.TL.TO.makeBound;exact rfl;exact rfl;exact k.p)):G:=h ⟨k⟩
theorem wvb{G Q:Prop}{f:FuncId}{cargs:List SV}{v:SV}(hs:Pure Tryz.prog f cargs v)(k:Q)(h:Pure Tryz.prog f cargs v->Hold Q->G:=by
  intro hs k
  (apply Go.TL.TO.callV hs;exact rfl;exact rfl;exact rfl;(repeat' (first|exact trivial|exact Go.TL.Le.refl _|refine And.intro ?_ ?_|refine Go.TL.Le.tree rfl ?_|refine Go.TL.Le.bnd ?_|exact Go.TL.TLe.refl _|fail));exact rfl;exact rfl;exact k.p)):G:=h hs ⟨k⟩
def ExT(e:Ex):Prop:=wEx e≤1000000000/\∀x∈flat e,Arity x
def condT(w:Plc)(c:Ex):Int:=if(resT w false c).2≠0 then(resT w false c).2 else if(resT w false c).1.length≠1 then 9 else if(resT w false c).1.headD 0≠1 then 10 else 0
theorem condT_sound(w:Plc)(hw:SmallW w)(c:Ex)(hc:ExT c):Pure Tryz.prog 73 [.t (plcT w),.t (exT c)] (.i (condT w c)):=by
 have hs:=results_sound w hw c hc.1 hc.2 false
 unfold condT
 generalize resT w false c=r at*
 obtain⟨l,f⟩:=r
 simp only at*
 have hml:(l.map T.i).length=l.length:=List.length_map _
 have hx0:0<l.length->(l.map T.i)[(0:Int).toNat]?=some (T.i (l.headD 0)):=by cases l with|nil=>simp|cons a l=>intro _;rfl
 generalize l.headD 0=t0 at*
 rw[exT_eq]at hs⊢
 unfold exC at*
 unfold plcT plcC at*
 clear hc
 by_cases hl:l.length=1
 ·have hx:=hx0 (by omega)
  refine so Tryz.func73 ?_
  repeat' (first|refine wu ?_|exact wkc|intro hc|refine wk2 ?_ ?_|refine wv hs ?_|fail)
  all_goals(refine RetK.pure rfl (Le.of_eq ?_) rfl;refine congrArg (fun z=>SV.t (T.v (Value.int IntKind.i64 z))) ?_;clear hs;grind)
 ·refine so Tryz.func73 ?_
  repeat' (first|refine wu ?_|exact wkc|intro hc|refine wk2 ?_ ?_|refine wv hs ?_|fail)
  all_goals(refine RetK.pure rfl (Le.of_eq ?_) rfl;refine congrArg (fun z=>SV.t (T.v (Value.int IntKind.i64 z))) ?_;clear hs;grind)
theorem tranTy_sound(w:Plc)(hw:SmallW w)(t:Tran)(hc:ExT t.cond):Pure Tryz.prog 211 [.t (plcT w),.t (tranT t)] (.i (condT w t.cond)):=by
 have hs:=condT_sound w hw t.cond hc
 generalize condT w t.cond=z at*
 rw[exT_eq]at hs
 rw[show tranT t= .ag (tranC t) from rfl]
 unfold exC at hs
 unfold tranC
 unfold plcT plcC at*
 refine so Tryz.func211 ?_
 repeat' (first|refine wu ?_|exact wkc|intro hc|refine wk2 ?_ ?_|refine wv hs ?_|fail)
 exact wkr
def eqnT(w:Plc)(q:Equ):Int:=if(resT w false q.right).2≠0 then(resT w false q.right).2 else if(resT w false q.right).1.length≠q.left.length then 9 else if q.left.map (fun s=>(lookT w.env s).1)=(resT w false q.right).1 then 0 else 10
theorem eqnT_sound(w:Plc)(hw:SmallW w)(q:Equ)(hq:q.left.length≤1000000000)(hc:ExT q.right):Pure Tryz.prog 69 [.t (plcT w),.t (equT q)] (.i (eqnT w q)):=by
 have hs:=results_sound w hw q.right hc.1 hc.2 false
 have hz:eqnT w q=eqnT w q:=rfl
 conv at hz=>rhs;unfold eqnT
 generalize eqnT w q=z at hz⊢
 generalize resT w false q.right=r at*
 obtain⟨l,f⟩:=r
 simp only at*
 have hml:(l.map T.i).length=l.length:=List.length_map _
 have hmq:(q.left.map T.s).length=q.left.length:=List.length_map _
 have hty:=fun s=>typeOf_sound w s hw.env
 rw[exT_eq]at hs
 rw[show equT q= .ag (equC q) from rfl]
 unfold exC at hs
 unfold equC
 unfold plcT plcC at*
 clear hc
 refine so Tryz.func69 ?_
 repeat' (first|refine wu ?_|exact wkc|intro hc|refine wk2 ?_ ?_|refine wv hs ?_|fail)
 ·rw[if_pos hc]at hz;subst hz;exact wkr
 ·have hlq:=hc
  clear hc
  have hf:=hc
  rw[if_neg hf,if_pos (by rw[hml,hmq]at hlq;omega)]at hz;subst hz;exact wkr
 have hlq:=hc
 clear hc
 have hf:=hc
 rw[if_neg hf,if_neg (by rw[hml,hmq]at hlq;omega)]at hz
 have hll:l.length=q.left.length:=by rw[hml,hmq]at hlq;omega
 clear hs hlq
 refine TR.loopN q.left.length (fun k=>(q.left.take k).map (fun s=>(lookT w.env s).1)=l.take k) (fun k=>[(2,.cp [.sl 2 (w.p.enums.map enT),nodesT w.p.nodes,T.n w.node,declsT w.env] 0),(5,.t (intsT l)),(28,.t (.sl 1 (q.left.map T.s))),(29,.i (q.left.map T.s).length),(30,.i k)]) (fun _=>[]) rfl (fun k hlt ha=>?_) (fun ha=>?_)
 ·have hx:(q.left.map T.s)[k]?=some (T.s q.left[k]):=at_map T.s hlt
  have hy:(l.map T.i)[k]?=some (T.i (l[k]'(by omega))):=at_ints (by omega)
  have hs:=hty q.left[k]
  have t1:(q.left.take (k+1)).map (fun s=>(lookT w.env s).1)=(q.left.take k).map (fun s=>(lookT w.env s).1)++[(lookT w.env q.left[k]).1]:=by rw[List.take_succ_eq_append_getElem hlt,List.map_append];rfl
  have t2:l.take (k+1)=l.take k++[l[k]'(by omega)]:=List.take_succ_eq_append_getElem (by omega)
  have hne:(lookT w.env q.left[k]).1≠l[k]'(by omega)->¬q.left.map (fun s=>(lookT w.env s).1)=l:=fun h e=>h (by
   have:=congrArg (fun z=>z[k]?) e
   simp only[List.getElem?_map,List.getElem?_eq_getElem hlt,List.getElem?_eq_getElem (show k<l.length by omega),Option.map_some]at this
   exact Option.some.inj this)
  generalize (lookT w.env q.left[k])=u at*
  generalize l[k]'(by omega)=y at*
  generalize q.left[k]=x at*
  obtain⟨u1,u2⟩:=u
  clear hty
  repeat' (first|refine wu ?_|exact wkc|intro hc|refine wk2 ?_ ?_|refine wv hs ?_|fail)
  ·rw[if_neg (hne hc)]at hz
   subst hz;exact wkr
  ·refine LoopK.nextN hlt ?_
   rw[t1,t2,ha,Decidable.not_not.1 hc]
 ·rw[show q.left.length=q.left.length from rfl,List.take_length,<-hll,List.take_length]at ha
  rw[if_pos ha]at hz;subst hz
  repeat' (first|refine wu ?_|exact wkc|intro hc|refine wk2 ?_ ?_|fail)
  exact wkr
theorem firstEx_sound(fid:FuncId)(b:T)(f:Ex->Int)(l:List Ex)(hl:l.length≤1000000000)(hp:∀x∈l,Pure Tryz.prog fid [.t b,.t (exT x)] (.i (f x))):
  Pure Tryz.prog 72 [.t (.sl 6 (l.map exT)),.bnd fid [.t b]] (.i (firstE f l)):=by
 have hml:(l.map exT).length=l.length:=List.length_map _
 refine so Tryz.func72 ?_
 repeat' (first|refine wk ?_|exact wkc|intro hc|refine wk2 ?_ ?_|fail)
 refine TR.loopN l.length (fun k=>firstE f (l.take k)=0) (fun k=>[(1,.bnd fid [.t b]),(8,.t (.sl 6 (l.map exT))),(9,.i (l.map exT).length),(10,.i k)]) (fun _=>[]) rfl (fun k hlt ha=>?_) (fun ha=>?_)
 ·have hx:=at_map exT hlt
  have g1:=firstE_at (f:=f) hlt ha
  have g2:=firstE_next (f:=f) hlt ha
  have hd:=hp _ (List.getElem_mem hlt)
  generalize l[k]=x at*
  generalize f x=fx at*
  rw[exT_eq x]at hx hd
  unfold exC at*
  repeat' (first|refine wkt ?_|refine wka ?_|refine wk ?_|exact wkc|intro hc|refine wk2 ?_ ?_|refine wbd hd ?_|fail)
  ·rw[g1 hc];exact wkr
  ·exact LoopK.nextN hlt (g2 (Decidable.not_not.1 hc))
 ·rw[firstE_all ha]
  repeat' (first|refine wk ?_|exact wkc|intro hc|refine wk2 ?_ ?_|fail)
  exact wkr
theorem firstTr_sound(fid:FuncId)(b:T)(f:Tran->Int)(l:List Tran)(hl:l.length≤1000000000)(hp:∀x∈l,Pure Tryz.prog fid [.t b,.t (tranT x)] (.i (f x))):
  Pure Tryz.prog 210 [.t (.sl 8 (l.map tranT)),.bnd fid [.t b]] (.i (firstE f l)):=by
 have hml:(l.map tranT).length=l.length:=List.length_map _
 refine so Tryz.func210 ?_
 repeat' (first|refine wk ?_|exact wkc|intro hc|refine wk2 ?_ ?_|fail)
 refine TR.loopN l.length (fun k=>firstE f (l.take k)=0) (fun k=>[(1,.bnd fid [.t b]),(8,.t (.sl 8 (l.map tranT))),(9,.i (l.map tranT).length),(10,.i k)]) (fun _=>[]) rfl (fun k hlt ha=>?_) (fun ha=>?_)
 ·have hx:=at_map tranT hlt
  have g1:=firstE_at (f:=f) hlt ha
  have g2:=firstE_next (f:=f) hlt ha
  have hd:=hp _ (List.getElem_mem hlt)
  generalize l[k]=x at*
  generalize f x=fx at*
  rw[(show ∀t:Tran,tranT t= .ag (tranC t) from fun _=>rfl) x]at hx hd
  unfold tranC at*
  repeat' (first|refine wkt ?_|refine wka ?_|refine wk ?_|exact wkc|intro hc|refine wk2 ?_ ?_|refine wbd hd ?_|fail)
  ·rw[g1 hc];exact wkr
  ·exact LoopK.nextN hlt (g2 (Decidable.not_not.1 hc))
 ·rw[firstE_all ha]
  repeat' (first|refine wk ?_|exact wkc|intro hc|refine wk2 ?_ ?_|fail)
  exact wkr
theorem firstEq_sound(fid:FuncId)(b:T)(f:Equ->Int)(l:List Equ)(hl:l.length≤1000000000)(hp:∀x∈l,Pure Tryz.prog fid [.t b,.t (equT x)] (.i (f x))):
  Pure Tryz.prog 213 [.t (.sl 7 (l.map equT)),.bnd fid [.t b]] (.i (firstE f l)):=by
 have hml:(l.map equT).length=l.length:=List.length_map _
 refine so Tryz.func213 ?_
 repeat' (first|refine wk ?_|exact wkc|intro hc|refine wk2 ?_ ?_|fail)
 refine TR.loopN l.length (fun k=>firstE f (l.take k)=0) (fun k=>[(1,.bnd fid [.t b]),(8,.t (.sl 7 (l.map equT))),(9,.i (l.map equT).length),(10,.i k)]) (fun _=>[]) rfl (fun k hlt ha=>?_) (fun ha=>?_)
 ·have hx:=at_map equT hlt
  have g1:=firstE_at (f:=f) hlt ha
  have g2:=firstE_next (f:=f) hlt ha
  have hd:=hp _ (List.getElem_mem hlt)
  generalize l[k]=x at*
  generalize f x=fx at*
  rw[(show ∀t:Equ,equT t= .ag (equC t) from fun _=>rfl) x]at hx hd
  unfold equC at*
  repeat' (first|refine wkt ?_|refine wka ?_|refine wk ?_|exact wkc|intro hc|refine wk2 ?_ ?_|refine wbd hd ?_|fail)
  ·rw[g1 hc];exact wkr
  ·exact LoopK.nextN hlt (g2 (Decidable.not_not.1 hc))
 ·rw[firstE_all ha]
  repeat' (first|refine wk ?_|exact wkc|intro hc|refine wk2 ?_ ?_|fail)
  exact wkr
theorem firstSt_sound(fid:FuncId)(b:T)(f:Sta->Int)(l:List Sta)(hl:l.length≤1000000000)(hp:∀x∈l,Pure Tryz.prog fid [.t b,.t (staT x)] (.i (f x))):
  Pure Tryz.prog 143 [.t (.sl 6 (l.map staT)),.bnd fid [.t b]] (.i (firstE f l)):=by
 have hml:(l.map staT).length=l.length:=List.length_map _
 refine so Tryz.func143 ?_
 repeat' (first|refine wk ?_|exact wkc|intro hc|refine wk2 ?_ ?_|fail)
 refine TR.loopN l.length (fun k=>firstE f (l.take k)=0) (fun k=>[(1,.bnd fid [.t b]),(8,.t (.sl 6 (l.map staT))),(9,.i (l.map staT).length),(10,.i k)]) (fun _=>[]) rfl (fun k hlt ha=>?_) (fun ha=>?_)
 ·have hx:=at_map staT hlt
  have g1:=firstE_at (f:=f) hlt ha
  have g2:=firstE_next (f:=f) hlt ha
  have hd:=hp _ (List.getElem_mem hlt)
  generalize l[k]=x at*
  generalize f x=fx at*
  rw[staT_C x]at hx hd
  unfold staC at*
  repeat' (first|refine wkt ?_|refine wka ?_|refine wk ?_|exact wkc|intro hc|refine wk2 ?_ ?_|refine wbd hd ?_|fail)
  ·rw[g1 hc];exact wkr
  ·exact LoopK.nextN hlt (g2 (Decidable.not_not.1 hc))
 ·rw[firstE_all ha]
  repeat' (first|refine wk ?_|exact wkc|intro hc|refine wk2 ?_ ?_|fail)
  exact wkr
theorem firstAu_sound(fid:FuncId)(b:T)(f:Auto->Int)(l:List Auto)(hl:l.length≤1000000000)(hp:∀x∈l,Pure Tryz.prog fid [.t b,.t (autoT x)] (.i (f x))):
  Pure Tryz.prog 70 [.t (.sl 1 (l.map autoT)),.bnd fid [.t b]] (.i (firstE f l)):=by
 have hml:(l.map autoT).length=l.length:=List.length_map _
 refine so Tryz.func70 ?_
 repeat' (first|refine wk ?_|exact wkc|intro hc|refine wk2 ?_ ?_|fail)
 refine TR.loopN l.length (fun k=>firstE f (l.take k)=0) (fun k=>[(1,.bnd fid [.t b]),(8,.t (.sl 1 (l.map autoT))),(9,.i (l.map autoT).length),(10,.i k)]) (fun _=>[]) rfl (fun k hlt ha=>?_) (fun ha=>?_)
 ·have hx:=at_map autoT hlt
  have g1:=firstE_at (f:=f) hlt ha
  have g2:=firstE_next (f:=f) hlt ha
  have hd:=hp _ (List.getElem_mem hlt)
  generalize l[k]=x at*
  generalize f x=fx at*
  rw[autoT_C x]at hx hd
  unfold autoC at*
  repeat' (first|refine wkt ?_|refine wka ?_|refine wk ?_|exact wkc|intro hc|refine wk2 ?_ ?_|refine wbd hd ?_|fail)
  ·rw[g1 hc];exact wkr
  ·exact LoopK.nextN hlt (g2 (Decidable.not_not.1 hc))
 ·rw[firstE_all ha]
  repeat' (first|refine wk ?_|exact wkc|intro hc|refine wk2 ?_ ?_|fail)
  exact wkr
def foldS{α β:Type}(f:β->α->β×Int):β->List α->β×Int
 | a,[]=>(a,0)
 | a,x::l=>if(f a x).2=0 then foldS f (f a x).1 l else f a x
theorem foldS_append{α β:Type}(f:β->α->β×Int):∀(l r:List α) (a:β),foldS f a (l++r)=if(foldS f a l).2=0 then foldS f (foldS f a l).1 r else foldS f a l
 | [],r,a=>by simp[foldS]
 | x::l,r,a=>by
   simp only[List.cons_append,foldS]
   by_cases h:(f a x).2=0
   ·simp only[h,if_true];exact foldS_append f l r _
   ·simp[h]
theorem foldS_next{α β:Type}{f:β->α->β×Int}{a:β}{l:List α}{k:Nat}(hk:k<l.length)(h:(foldS f a (l.take k)).2=0):foldS f a (l.take (k+1))=f (foldS f a (l.take k)).1 l[k]:=by
 rw[List.take_succ_eq_append_getElem hk,foldS_append,if_pos h,foldS]
 split
 ·rename_i h2
  generalize f (foldS f a (l.take k)).1 l[k]=z at*
  obtain⟨z1,z2⟩:=z
  simp only at h2;subst h2;rfl
 ·rfl
theorem foldS_at{α β:Type}{f:β->α->β×Int}{a:β}{l:List α}{k:Nat}(hk:k<l.length)(h:(foldS f a (l.take k)).2=0)(hn:(f (foldS f a (l.take k)).1 l[k]).2≠0):foldS f a l=f (foldS f a (l.take k)).1 l[k]:=by
 conv=>lhs;rw[<-List.take_append_drop k l]
 rw[foldS_append,if_pos h,List.drop_eq_getElem_cons hk,foldS,if_neg hn]
def Lv.addOwn(a:Lv)(s:Str):Lv:={ a with own:=ins a.own s }
theorem Lv.ok.addOwn{a:Lv}(h:a.ok){s:Str}(hs:s.length≤1000000000):(a.addOwn s).ok:=⟨h.own.ins hs,h.done⟩
def declF(seen:List (Int×Str×Int))(vis0:List Str)(a:Lv)(d:Decl):Lv×Int:=(a.addOwn d.name,if(seenGet seen 0 d.name).isSome=true\/d.name∈vis0++a.own then 7 else 0)
def declS(seen:List (Int×Str×Int))(vis0:List Str)(a:Lv)(l:List Decl):Lv×Int:=foldS (declF seen vis0) a l
theorem Ch.ok_top{h:Ch}(hk:h.ok):h.top.ok:=by
 cases h
 case one=>exact hk
 case c1=>exact hk.2
 case c2=>exact hk.2.2
 case c3=>exact hk.2.2.2
 case c4=>exact hk.2.2.2.2
theorem Ch.ok_set{h:Ch}(hk:h.ok){x:Lv}(hx:x.ok):(h.set x).ok:=by
 cases h
 case one=>exact hx
 case c1=>exact⟨hk.1,hx⟩
 case c2=>exact⟨hk.1,hk.2.1,hx⟩
 case c3=>exact⟨hk.1,hk.2.1,hk.2.2.1,hx⟩
 case c4=>exact⟨hk.1,hk.2.1,hk.2.2.1,hk.2.2.2.1,hx⟩
@[simp] theorem Ch.set_top (h:Ch) (x:Lv):(h.set x).top=x:=by cases h <;> rfl
@[simp] theorem Ch.set_vis0 (h:Ch) (x:Lv):(h.set x).vis0=h.vis0:=by cases h <;> rfl
@[simp] theorem Ch.set_low (h:Ch) (x:Lv):(h.set x).low=h.low:=by cases h <;> rfl
@[simp] theorem Ch.set_set (h:Ch) (x y:Lv):(h.set x).set y=h.set y:=by cases h <;> rfl
theorem declare_sound(p:Prog)(n q:Int)(seen:List (Int×Str×Int))(hse:SeenOk seen)(h:Ch)(hk0:h.ok)(l:List Decl)(hw:(declsT l).w≤1000000000):
  SS 138 [.ref h.id 0,.t (declsT l)] p n q seen h (h.set (declS seen h.vis0 h.top l).1) (declS seen h.vis0 h.top l).2:=by
 have hml:(l.map declT).length=l.length:=List.length_map _
 have hlb:l.length≤1000000000:=Nat.le_trans (Nat.le_of_lt (w_lenM declT 3 l)) hw
 unfold declS
 have ht0:=Ch.ok_top hk0
 have hset:=fun{x:Lv} (hx:x.ok)=>Ch.ok_set hk0 hx
 clear hk0
 revert ht0 hset
 revert h
 refine Ch.lt fun h=>?_
 cases h
 all_goals
  intro g ht0 hset
  refine Sound.err rfl (fun _=>rfl) ?_
  refine so Tryz.func138 ?_
  refine TR.dead ?_
  repeat' (first|refine wu ?_|exact wkc|intro hc|refine wk2 ?_ ?_|fail)
  refine TR.loopN l.length (fun k=>(foldS (declF seen g.vis0) g.top (l.take k)).2=0/\(foldS (declF seen g.vis0) g.top (l.take k)).1.ok) (fun k=>[(0,.ref 0 0),(1,.ref g.id 0),(10,.t (declsT l)),(11,.i (l.map declT).length),(12,.i k)]) (fun k=>full p n q seen (g.set (foldS (declF seen g.vis0) g.top (l.take k)).1)) ⟨rfl,ht0⟩ (fun k hlt ha=>?_) (fun ha=>?_)
  ·have hx:=at_decl hlt
   have hno:l[k].name.length≤1000000000:=by have:=(name_decl (List.getElem_mem hlt)).1;omega
   have g1:=foldS_at (f:=(declF seen g.vis0)) hlt ha.1
   have g2:=foldS_next (f:=(declF seen g.vis0)) hlt ha.1
   obtain⟨ha1,ha2⟩:=ha
   generalize (foldS (declF seen g.vis0) g.top (l.take k)).1=st at*
   generalize l[k]=x at*
   have hk:=hset ha2
   have hown:=ha2.own
   have hz:((declF seen g.vis0) st x).2=if(seenGet seen 0 x.name).isSome=true\/x.name∈g.vis0++st.own then 7 else 0:=rfl
   have hz1:((declF seen g.vis0) st x).1=st.addOwn x.name:=rfl
   have hok:=ha2.addOwn hno
   generalize (declF seen g.vis0) st x=fx at*
   unfold declC at hx
   repeat' (first|refine wkt ?_|refine wka ?_|refine wkD ?_|refine wk ?_|exact wkc|intro hc|refine wk2 ?_ ?_|(apply TO.setGet;exact rfl;exact rfl;exact rfl;exact rfl;assumption;assumption)|(apply TO.nilGet;exact rfl;exact rfl;exact rfl;assumption)|(apply TO.setPut;exact rfl;exact rfl;exact rfl;exact rfl;assumption;assumption;exact rfl)|refine wms ?_|(apply TO.sees hk;exact rfl;exact rfl;(first|exact rfl|exact Ch.tk _ _ _ _ _);assumption)|(apply TO.defined hk;exact rfl;exact rfl;(first|exact rfl|exact Ch.tk _ _ _ _ _);assumption)|(apply TO.seenLook;exact rfl;exact rfl;exact rfl;exact rfl;assumption;decide;assumption)|fail)
   all_goals simp only[Ch.vis,Ch.set_vis0,Ch.set_top]at*
   all_goals first
    | ((repeat' (first|refine LoopK.panic ?_|refine wk ?_|fail));apply retS;(first|assumption|decide);(clear hx;first|grind|grind [orE]);(first|exact Nat.le_of_ble_eq_true rfl|exact Nat.le_refl _|(simp[Ch.len];done)|(simp[Ch.len];omega)))
    | (refine LoopK.nextN hlt ⟨by rw[g2];clear hx;grind,by rw[g2,hz1];exact hok⟩ ?_ (by rw[g2,hz1];rfl)
       repeat' (first|exact trivial|refine And.intro rfl ?_|fail))
  ·obtain⟨ha1,ha2⟩:=ha
   rw[List.take_length]at*
   repeat' (first|refine wu ?_|exact wkc|intro hc|refine wk2 ?_ ?_|fail)
   exact retSN ha1 rfl rfl rfl rfl
end Go.Proofs.YtddaclniamlmbaaGreatDoor
namespace Go.TL
open Go
def forcedBD(ops:Array Oper)(k:Nat):Bool:=(List.range ops.size).all fun j=>Nat.blt j k || (List.range j).all fun i=>(cov ops 40 (afterOf ops j)).contains i
theorem forcedD{ops:Array Oper}{L:Array Bool}{k j:Nat}(hs:L.size=ops.size)(hf:forcedBD ops k=true)(hdc:DC ops L)(hj:j∈Region.ready .any ops L)(hk:k≤j):∀i,i<j->L[i]?=some true:=by
 intro i hi
 obtain⟨h1,h2⟩:=(ready_iff hs).1 hj
 have hlt:=(Array.getElem?_eq_some_iff.1 h1).1
 have:=List.all_eq_true.1 hf j (by simp;omega)
 simp only[Bool.or_eq_true]at this
 rcases this with h|h
 ·simp at h;omega
 ·have:=List.all_eq_true.1 h i (by simpa using hi)
  exact cov_listed hdc 40 _ h2 i (by simpa using this)
section rules
variable {P:Program}{all:Array Oper}
theorem any_preD{r:Option Nat}{C:World->Prop}{Q:Act->Prop}{Q':Exit->Act->World->Prop}{k n2:Nat}(hd:downB all=true)(hf:forcedBD all k=true)(hp:∀(i:Nat) o,i<k->all[i]?=some o->Op.plain o.op=true)
  (hQ:∀(L:Array Bool) a w,L.size=all.size->(∀(i:Nat),i<k->i<all.size->L[i]?=some true)->(∀(i:Nat),k≤i->i<all.size->L[i]?=some false)->C w->Q a->wpAnyIn (Fr r) 0 P .any all Q' n2 L a w):
  ∀(u:Nat) (L M:Array Bool) (a:Act) (w:World),L.size=all.size->M.size=all.size->(∀(i:Nat),i<k->M[i]?=L[i]?)->(∀(i:Nat),k≤i->i<all.size->M[i]?=some true)->(∀(i:Nat),k≤i->i<all.size->L[i]?=some false)->
   DC all L->C w->wpAnyQIn (Fr r) 0 P .any all C Q u M a->wpAnyIn (Fr r) 0 P .any all Q' (u+n2) L a w:=by
 intro u
 have full:∀(L M:Array Bool),L.size=all.size->M.size=all.size->(∀(i:Nat),i<k->M[i]?=L[i]?)->(∀(i:Nat),k≤i->i<all.size->M[i]?=some true)->DC all L->Region.ready .any all M=[]->∀(i:Nat),i<k->i<all.size->L[i]?=some true:=by
  intro L M hL hM h1 h2 hdc hr i hi hia
  refine Classical.byContradiction fun hne=>?_
  have hMi:M[i]?=some false:=by
   rw[h1 i hi]
   have:L[i]?=some (L[i]'(by omega)):=Array.getElem?_eq_getElem (by omega)
   rw[this]at hne⊢
   cases h:L[i]'(by omega)
   ·rfl
   ·rw[h]at hne;exact absurd rfl hne
  obtain⟨m,_,hm,_⟩:=first_ready hM hd hMi
  rw[hr]at hm;cases hm
 induction u with
 | zero=>
   intro L M a w hL hM h1 h2 h3 hdc hC h
   rw[Nat.zero_add]
   exact hQ L a w hL (full L M hL hM h1 h2 hdc h.1) h3 hC h.2
 | succ u ih=>
   intro L M a w hL hM h1 h2 h3 hdc hC h
   by_cases hr:Region.ready .any all M=[]
   ·exact any_monoN _ _ _ _ (hQ L a w hL (full L M hL hM h1 h2 hdc hr) h3 hC (h.1 hr)) (u+1)
   ·
    obtain⟨x,hx⟩:=List.exists_mem_of_ne_nil _ hr
    have hx1:=((ready_iff hM).1 hx).1
    have hxl:=(Array.getElem?_eq_some_iff.1 hx1).1
    have hxk:x<k:=Nat.lt_of_not_le fun hle=>by rw[h2 x hle (by omega)]at hx1;cases hx1
    have hLx:L[x]?=some false:=by rw[<-h1 x hxk];exact hx1
    rw[show u+1+n2=(u+n2)+1 from by omega]
    refine⟨fun h0=>?_,fun i hi=>?_⟩
    ·obtain⟨m,_,hm,_⟩:=first_ready hL hd hLx
     rw[h0]at hm;cases hm
    ·have hik:i<k:=Nat.lt_of_not_le fun hle=>by
      have:=forcedD hL hf hdc hi hle x (by omega)
      rw[this]at hLx;cases hLx
     obtain⟨g1,g2⟩:=(ready_iff hL).1 hi
     have hiM:i∈Region.ready .any all M:=by
      refine(ready_iff hM).2 ⟨by rw[h1 i hik];exact g1,fun j hj=>?_⟩
      have hjl:=(Array.getElem?_eq_some_iff.1 (g2 j hj)).1
      by_cases hjk:j<k
      ·rw[h1 j hjk];exact g2 j hj
      ·exact h2 j (by omega) (by omega)
     have hnext:∀a' w',C w'->wpAnyQIn (Fr r) 0 P .any all C Q u (M.setIfInBounds i true) a'->wpAnyIn (Fr r) 0 P .any all Q' (u+n2) (L.setIfInBounds i true) a' w':=by
      intro a' w' hC' hk'
      refine ih (L.setIfInBounds i true) (M.setIfInBounds i true) a' w' (by simpa using hL) (by simpa using hM) ?_ ?_ ?_ (dc_set hL hdc hi) hC' hk'
      ·intro j hj
       rw[Array.getElem?_setIfInBounds,Array.getElem?_setIfInBounds,h1 j hj,hL,hM]
      ·intro j hj hja
       rw[Array.getElem?_setIfInBounds,if_neg (by omega)]
       exact h2 j hj hja
      ·intro j hj hja
       rw[Array.getElem?_setIfInBounds,if_neg (by omega)]
       exact h3 j hj hja
     have h4:=h.2 i hiM
     unfold qOpIn at h4
     unfold wpOpIn
     cases ho:all[i]? with
     | none=>simp only[ho]at h4⊢;exact hnext _ _ hC h4
     | some o=>
       simp only[ho]at h4⊢
       obtain⟨_,h4⟩:=h4
       split
       ·rename_i hwt
        rw[if_pos hwt]at h4
        exact op_of_quiet (hp i o hik ho) hC (fun a' w' hw' hk=>hnext a' w' hw' hk) h4
       ·rename_i hwt
        rw[if_neg hwt]at h4
        exact⟨fun _ _=>trivial,hnext _ _ hC h4⟩
theorem any_sufD{r:Option Nat}{Q':Exit->Act->World->Prop}{k:Nat}(hd:downB all=true)(hf:forcedBD all k=true):∀(l:List Oper) (p:Nat) (L:Array Bool) (a:Act) (w:World),k≤p->(∀j,l[j]?=all[p+j]?)->L.size=all.size->
   (∀(i:Nat),i<p->i<all.size->L[i]?=some true)->(∀(i:Nat),p≤i->i<all.size->L[i]?=some false)->wpListIn (Fr r) 0 P all Q' l a w->wpAnyIn (Fr r) 0 P .any all Q' l.length L a w
 | [],p,L,a,w,hk,hl,hL,h1,h2,h=>by
   have hsz:all.size≤p:=Nat.le_of_not_lt fun hlt=>by
    have:=hl 0
    rw[Nat.add_zero,Array.getElem?_eq_getElem hlt]at this
    cases this
   refine⟨?_,h⟩
   refine List.eq_nil_iff_forall_not_mem.2 fun i hi=>?_
   have:=((ready_iff hL).1 hi).1
   have hlt:=(Array.getElem?_eq_some_iff.1 this).1
   rw[h1 i (by omega) (by omega)]at this
   cases this
 | o::l,p,L,a,w,hk,hl,hL,h1,h2,h=>by
   have hpo:all[p]?=some o:=by simpa using (hl 0).symm
   have hpl:=(Array.getElem?_eq_some_iff.1 hpo).1
   have hLp:=h2 p (Nat.le_refl _) hpl
   have hdc:DC all L:=by
    intro i hi j hj
    have hil:=(Array.getElem?_eq_some_iff.1 hi).1
    have hip:i<p:=Nat.lt_of_not_le fun hle=>by rw[h2 i hle (by omega)]at hi;cases hi
    have:=List.all_eq_true.1 hd i (by simp;omega)
    have:=List.all_eq_true.1 this j hj
    have hji:j<i:=by simpa using this
    exact h1 j (by omega) (by omega)
   refine⟨fun h0=>?_,fun i hi=>?_⟩
   ·obtain⟨m,_,hm,_⟩:=first_ready hL hd hLp
    rw[h0]at hm;cases hm
   ·have hi1:=((ready_iff hL).1 hi).1
    have hil:=(Array.getElem?_eq_some_iff.1 hi1).1
    have hip:p≤i:=Nat.le_of_not_lt fun hlt=>by rw[h1 i hlt (by omega)]at hi1;cases hi1
    have hipe:i=p:=by
     refine Classical.byContradiction fun hne=>?_
     have:=forcedD hL hf hdc hi (by omega) p (by omega)
     rw[this]at hLp;cases hLp
    subst hipe
    have hnext:∀a' w',wpListIn (Fr r) 0 P all Q' l a' w'->wpAnyIn (Fr r) 0 P .any all Q' l.length (L.setIfInBounds i true) a' w':=by
     intro a' w' h'
     refine any_sufD hd hf l (i+1) (L.setIfInBounds i true) a' w' (by omega) (fun j=>?_) (by simpa using hL) (fun j hj hja=>?_) (fun j hj hja=>?_) h'
     ·have:=hl (j+1)
      simp only[List.getElem?_cons_succ]at this
      rw[this];congr 1;omega
     ·rw[Array.getElem?_setIfInBounds]
      split
      ·first|rfl|rw[if_pos (by omega)]
      ·exact h1 j (by omega) hja
     ·rw[Array.getElem?_setIfInBounds,if_neg (by omega)]
      exact h2 j (by omega) hja
    unfold wpListIn at h
    unfold wpOpIn
    simp only[hpo]
    split
    ·rename_i hw
     rw[if_pos hw]at h
     exact Oper.wpIn_mono (fun a w h=>hnext a w h) h
    ·rename_i hw
     rw[if_neg hw]at h
     exact⟨h.1,hnext _ _ h.2⟩
def lastBD(ops:Array Oper)(k:Nat):Bool:=
 Region.noSelect ops && (Nat.ble k ops.size && (downB ops && (forcedBD ops k && Region.lexFrom .any ops k 0 (Array.replicate k false++Array.replicate (ops.size-k) true))))
theorem TR.regionD{n:Nat}{env:Env}{H:Heap}{K:TK}(k:Nat){id:Nat}{l:List Oper}(hm:P.follows .mixedOrders=true)(hB:lastBD l.toArray k=true)(hp:(l.take k).all (fun o=>Op.plain o.op)=true)
  (h:TO true P n l.toArray (l.take k) env H (ThenL P n l.toArray (l.drop k) H K)):TR P n (.region id l.toArray true) env H K:=by
 simp only[lastBD,Bool.and_eq_true]at hB
 obtain⟨hB1,hB2,hB3,hB4,hB5⟩:=hB
 have hk:k≤l.length:=by simpa using Nat.le_of_ble_eq_true hB2
 intro φ m a h1 h2 h3 h4
 have hq:=h φ m a h1 h2 h3 h4
 simp only at hq
 refine wpr_of_in (wpIn_region_any hm ?_)
 have hlt:(l.take k).length=k:=by simp;omega
 have:=any_preD (P:=P) (all:=l.toArray) (r:=φ.r) (C:=Keeps m.w) (Q:=fun a'=>∀w',Keeps m.w w'->wpListIn (Fr φ.r) 0 P l.toArray (Post φ m n K) (l.drop k) a' w')
  (Q':=Post φ m n K) (k:=k) (n2:=(l.drop k).length) hB3 hB4 (fun i o hi ho=>List.all_eq_true.1 hp o (List.mem_of_getElem? (i:=i) (by rw[List.getElem?_take,if_pos hi];simpa using ho)))
  (fun L a' w' hL g1 g2 hC hQ=>any_sufD hB3 hB4 (l.drop k) k L a' w' (Nat.le_refl _) (fun j=>by simp) hL g1 g2 (hQ w' hC))
  k (Array.replicate l.toArray.size false) (Array.replicate k false++Array.replicate (l.toArray.size-k) true) a { m.w with drawn:=m.w.drawn+1 } (by simp) (by simp;omega)
  (fun i hi=>by
    rw[Array.getElem?_append_left (by simpa using hi),Array.getElem?_replicate,Array.getElem?_replicate,if_pos hi,if_pos (by simp;omega)])
  (fun i hi hia=>by
    rw[Array.getElem?_append_right (by simpa using hi),Array.getElem?_replicate,if_pos (by simp at hia⊢;omega)])
  (fun i hi hia=>by rw[Array.getElem?_replicate,if_pos hia])
  (fun i hi=>by rw[Array.getElem?_replicate]at hi;split at hi <;> cases hi)
  ⟨rfl,rfl,rfl,Nat.le_refl _,fun _ _=>rfl⟩ ?_
 ·have e:k+(l.drop k).length=l.toArray.size:=by simp;omega
  rw[e]at this
  exact this
 ·have hx:=anyQ_lex (F:=Fr φ.r) (N:=0) (P:=P) (C:=Keeps m.w) (md:=.any) (Q:=fun a'=>∀w',Keeps m.w w'->wpListIn (Fr φ.r) 0 P l.toArray (Post φ m n K) (l.drop k) a' w') hB1 (l.take k) 0
   (Array.replicate k false++Array.replicate (l.toArray.size-k) true) a (fun j hj=>by rw[List.getElem?_take,if_pos (by omega)];simp) (by rw[hlt];exact hB5) (quiet_in _ a (wpQuiet_mono ?_ _ a hq))
  ·rw[hlt]at hx;exact hx
  ·rintro a' ⟨env',g1,g2,g3⟩ w' hw'
   obtain⟨s,hm'⟩:=keep_ok h2 hw'
   have:=g3 φ ⟨m.A,m.β,m.H,w'⟩ a' h1 hm' (g1.step h2 s) (g2.step h2 s)
   exact TO.step' s this
theorem TR.regionD1{n:Nat}{env:Env}{H:Heap}{K:TK}{id:Nat}{l:List Oper}(hm:P.follows .mixedOrders=true)(hB:lastBD l.toArray (l.length-1)=true)(hp:(l.take (l.length-1)).all (fun o=>Op.plain o.op)=true)
  (h:TO true P n l.toArray (l.take (l.length-1)) env H (ThenL P n l.toArray (l.drop (l.length-1)) H K)):TR P n (.region id l.toArray true) env H K:=TR.regionD _ hm hB hp h
theorem TR.regionD2{n:Nat}{env:Env}{H:Heap}{K:TK}{id:Nat}{l:List Oper}(hm:P.follows .mixedOrders=true)(hB:lastBD l.toArray (l.length-2)=true)(hp:(l.take (l.length-2)).all (fun o=>Op.plain o.op)=true)
  (h:TO true P n l.toArray (l.take (l.length-2)) env H (ThenL P n l.toArray (l.drop (l.length-2)) H K)):TR P n (.region id l.toArray true) env H K:=TR.regionD _ hm hB hp h
end rules
end Go.TL
