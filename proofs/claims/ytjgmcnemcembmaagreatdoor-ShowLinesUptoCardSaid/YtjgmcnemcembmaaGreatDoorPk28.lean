import Derived.Lib.SliceRun
import Derived.Test.YtjgmcnemcembmaaGreatDoorPk7
import Derived.Test.YtjgmcnemcembmaaGreatDoorPk9
import Derived.Test.YtjgmcnemcembmaaGreatDoorPk15
import Derived.Test.YtjgmcnemcembmaaGreatDoorPk16
import Derived.Test.YtjgmcnemcembmaaGreatDoorPk27
set_option linter.unusedSimpArgs false
set_option linter.unusedVariables false
namespace Go.Proofs.YtjgmcnemcembmaaGreatDoor
open Go Go.TL
attribute [local irreducible] TR TO Then InBlock RetK Sound LoopK Kf GG ThenL
def lineS(level:Nat)(s:Str):Str:=Go.Lib.repeatL [32,32] level++s++[10]
set_option maxHeartbeats 4000000 in
theorem add_sound (a:Bool) (es:List En) (l s:Str) (level:Nat) (hv:level≤100) (hl:l.length+(lineS level s).length≤1000000000):Sound Tryz.prog 24 [.tref lnT 4 1 0,.i level,.s s] (lnH a es l) (fun r H'=>r= .ret (.tup [])/\H'=ln1 es (l++lineS level s)):=by
 have hr:=repeatP_sound [32,32] level (by omega) (by show 2*level≤_;omega)
 have hw:=lnWrite_sound a es l (lineS level s) hl
 unfold lineS at*
 generalize Go.Lib.repeatL [32,32] level=rp at*
 simp only[List.length_append,List.length_cons,List.length_nil]at hl
 cases a
 all_goals
  unfold lnH at*
  simp only[cond_true,cond_false]at*
  refine so Tryz.func24 ?_
  repeat' (first|refine wkt ?_|fail)
  refine TR.regionM (envF:=?envF) (HF:=ln1 es (l++(rp++s++[10]))) [(.tref lnT 4 1 0,false),(.tref lnT 4 1 0,false),(.tref lnT 4 1 2,false),(.i level,false),(.s rp,false),(.s s,false),(.s (rp++s),false),(.s (rp++s++[10]),false),(.tup [.i (rp++s++[10]).length,.t (.v .nilIface)],true)] [_,ln1 es (l++(rp++s++[10]))] hmix ?hB rfl ?hp rfl ?hE ?hK
  case hB=>(dsimp only[List.map];decide +kernel)
  case hE=>exact rfl
  case hp=>
   repeat' (first|(apply TO.fieldAddr_treft tabOk;(iterate 5 exact rfl);decide;exact rfl)|refine wkt ?_|refine wv hr ?_|(apply TO.callD 3 hw;exact rfl;exact rfl;exact rfl;exact Les.refl _;exact rfl;exact rfl;exact rfl;exact rfl;exact rfl;exact rfl;exact rfl;exact rfl)|(apply TO.cat;exact rfl;exact rfl;exact rfl;(first|omega|(simp only[List.length_append,List.length_cons,List.length_nil];omega)))|exact trivial|exact⟨rfl,rfl⟩|refine And.intro (fun H env=>?_) ?_|refine And.intro (fun env=>?_) ?_|refine wk ?_|fail)
  case hK=>
   repeat' (first|refine wu ?_|exact wkc|intro hc|refine wk2 ?_ ?_|fail)
   exact RetK.keepN 3 rfl (Le.refl _) rfl rfl rfl rfl rfl ⟨rfl,rfl⟩
def declS(es:List En)(d:Decl):Str:=if 0<d.clock.length then d.name++[58,32]++(nameT es d.ty.1).1++([32]++clockS es d.clock) else d.name++[58,32]++(nameT es d.ty.1).1
def declsS(es:List En)(l:List Decl):Str:=Go.Lib.join (l.map (declS es)) [59,32]
structure ShD (d:Decl):Prop where
 name:d.name.length≤3000000
 few:d.clock.length≤1000
 ck:∀o∈d.clock,o.name.length≤3000000
theorem clockS_len{es:List En}(h:ShE es){d:Decl}(hd:ShD d):(clockS es d.clock).length≤6000100000:=by
 refine Nat.le_trans (join_len [32] 6000040 _ fun x hx=>?_) ?_
 ·obtain⟨o,ho,rfl⟩:=List.mem_map.1 hx
  exact smpS_len h o (hd.ck o ho)
 ·rw[List.length_map]
  exact Nat.le_trans (Nat.mul_le_mul_right _ hd.few) (by decide)
theorem declS_len{es:List En}(h:ShE es)(hT:∀t:Int,(nameT es t).1.length≤3000000){d:Decl}(hd:ShD d):(declS es d).length≤6100000000:=by
 have h1:=clockS_len h hd
 have h2:=hT d.ty.1
 have h3:=hd.name
 unfold declS
 split
 ·simp only[List.length_append,List.length_cons,List.length_nil];omega
 ·simp only[List.length_append,List.length_cons,List.length_nil];omega
set_option maxHeartbeats 8000000 in
theorem declsW_sound {es:List En} (h:ShE es) (hT:∀t:Int,(nameT es t).1.length≤3000000) (l:List Decl) (hd:∀d∈l,ShD d) (hl:l.length≤1000):Sound Tryz.prog 55 [wr es,.t (.sl 3 (l.map declT))] [symB] (fun r H'=>r= .ret (.s (declsS es l))/\H'=[symB]):=by
 have hml:(l.map declT).length=l.length:=List.length_map _
 have hj:=joinP_sound (l.map (declS es)) [59,32] (by rw[List.length_map];omega) (by
  refine Nat.le_trans (join_len [59,32] 6100000000 _ fun x hx=>?_) ?_
  ·obtain⟨d,hdd,rfl⟩:=List.mem_map.1 hx
   exact declS_len h hT (hd d hdd)
  ·rw[List.length_map]
   exact Nat.le_trans (Nat.mul_le_mul_right _ hl) (by decide))
 unfold declsS
 have hjm:(l.map (declS es)).map T.s=l.map fun d=>T.s (declS es d):=by rw[List.map_map];rfl
 rw[hjm]at hj
 generalize Go.Lib.join (l.map (declS es)) [59,32]=z at*
 refine so Tryz.func55 ?_
 refine wkt ?_
 (apply TO.box;exact rfl;exact rfl;exact rfl;exact rfl)
 repeat' (first|refine wkt ?_|fail)
 refine TR.tail 1 5 rfl ?_
 refine TR.loopN l.length (fun _=>True) (fun j=>[(2,.ref 1 0),(5,.sl 1 ((l.take j).map fun d=>T.s (declS es d)) 2),(11,.t (.sl 3 (l.map declT))),(12,.i l.length),(13,.i j)]) (fun j=>[symB,.cells [.t (ensT es),.mp 0],.tail ((l.take j).map fun d=>T.s (declS es d)).length]) trivial (fun j hlt _=>?_) (fun _=>?_) ⟨rfl,rfl,rfl,by rw[<-hml];rfl,rfl,trivial⟩ rfl
 ·have hx:=at_map declT hlt
  have htk:=take_at hlt
  have hdd:=hd _ (List.getElem_mem hlt)
  have hnt:=nameT_sound es l[j].ty
  have hln:=hT l[j].ty.1
  have hck:=clockW_sound h l[j].clock hdd.ck (Nat.le_trans hdd.few (by decide))
  have hcl:=clockS_len h hdd
  have hnm:=hdd.name
  have hlen:((l.take j).map fun d=>T.s (declS es d)).length≤1000000:=by rw[List.length_map,List.length_take];omega
  have hL1:(l.take (j+1)).map (fun d=>T.s (declS es d))=(l.take j).map (fun d=>T.s (declS es d))++[T.s (declS es l[j])]:=by rw[htk,List.map_append];rfl
  have hmc:(l[j].clock.map onT).length=l[j].clock.length:=List.length_map _
  generalize hds:declS es l[j]=ds at*
  unfold declS at hds
  generalize clockS es l[j].clock=cks at*
  generalize nameT es l[j].ty.1=nt at*
  generalize hL:(l.take j).map (fun d=>T.s (declS es d))=L at*
  clear hdd
  generalize l[j]=d at*
  obtain⟨nm,ty,ck⟩:=d
  dsimp only[declT]at hx hds hck hnt hnm hmc
  by_cases hc0:0<ck.length
  ·rw[if_pos hc0]at hds
   subst hds
   repeat' (first|refine wkt ?_|refine wv hnt ?_|refine wd hck ?_|(apply TO.cat;exact rfl;exact rfl;exact rfl;(first|omega|(simp only[List.length_append,List.length_cons,List.length_nil];omega)))|exact wkc|intro hc|refine wk2 ?_ ?_|refine wk ?_|fail)
   all_goals first
    | (exfalso;omega)
    | exact LoopK.nextN hlt trivial (by(try dsimp only);rw[hL1];exact⟨rfl,rfl,rfl,rfl,rfl,trivial⟩) (by(try dsimp only);rw[hL1,List.length_append];rfl)
  ·rw[if_neg hc0]at hds
   subst hds
   repeat' (first|refine wkt ?_|refine wv hnt ?_|(apply TO.cat;exact rfl;exact rfl;exact rfl;(first|omega|(simp only[List.length_append,List.length_cons,List.length_nil];omega)))|exact wkc|intro hc|refine wk2 ?_ ?_|refine wk ?_|fail)
   all_goals first
    | (exfalso;omega)
    | exact LoopK.nextN hlt trivial (by(try dsimp only);rw[hL1];exact⟨rfl,rfl,rfl,rfl,rfl,trivial⟩) (by(try dsimp only);rw[hL1,List.length_append];rfl)
 ·rw[List.take_length]
  repeat' (first|refine wu ?_|exact wkc|intro hc|refine wk2 ?_ ?_|refine wv hj ?_|fail)
  exact RetK.keep 1 rfl (Le.refl _) rfl rfl rfl rfl rfl ⟨rfl,rfl⟩
def localsS(es:List En)(level:Nat)(l:List Decl):Str:=if 0<l.length then lineS level ([118,97,114,32]++declsS es l++[59]) else[]
theorem declsS_len{es:List En}(h:ShE es)(hT:∀t:Int,(nameT es t).1.length≤3000000)(l:List Decl)(hd:∀d∈l,ShD d)(hl:l.length≤1000):(declsS es l).length≤6200000000000:=by
 refine Nat.le_trans (join_len [59,32] 6100000000 _ fun x hx=>?_) ?_
 ·obtain⟨d,hdd,rfl⟩:=List.mem_map.1 hx
  exact declS_len h hT (hd d hdd)
 ·rw[List.length_map]
  exact Nat.le_trans (Nat.mul_le_mul_right _ hl) (by decide)
set_option maxHeartbeats 8000000 in
theorem localsW_sound {es:List En} (h:ShE es) (hT:∀t:Int,(nameT es t).1.length≤3000000) (t:Str) (level:Nat) (hv:level≤100) (l:List Decl) (hd:∀d∈l,ShD d) (hl:l.length≤1000) (hb:t.length+(localsS es level l).length≤1000000000):
  Sound Tryz.prog 56 [.tref lnT 4 1 0,.i level,.t (.sl 3 (l.map declT))] (ln1 es t) (fun r H'=>r= .ret (.tup [])/\H'=ln1 es (t++localsS es level l)):=by
 have hml:(l.map declT).length=l.length:=List.length_map _
 have hdl:=declsS_len h hT l hd hl
 have hs:=declsW_sound h hT l hd hl
 unfold localsS at*
 by_cases h0:0<l.length
 ·rw[if_pos h0]at hb⊢
  have ha:=add_sound true es t ([118,97,114,32]++declsS es l++[59]) level hv hb
  unfold lnH at ha
  simp only[cond_true]at ha
  generalize lineS level ([118,97,114,32]++declsS es l++[59])=ln at*
  generalize declsS es l=z at*
  refine so Tryz.func56 ?_
  repeat' (first|refine wkt ?_|refine wd hs ?_|(apply TO.callD 3 ha;exact rfl;exact rfl;exact rfl;exact Les.refl _;exact rfl;exact rfl;exact rfl;exact rfl;exact rfl;exact rfl;exact rfl;exact rfl)|(apply TO.cat;exact rfl;exact rfl;exact rfl;(first|omega|(simp only[List.length_append,List.length_cons,List.length_nil];omega)))|exact wkc|intro hc|refine wk2 ?_ ?_|refine wk ?_|fail)
  all_goals first
   | (exfalso;omega)
   | exact RetK.keepN 3 rfl (Le.refl _) rfl rfl rfl rfl rfl ⟨rfl,rfl⟩
 ·rw[if_neg h0,List.append_nil]
  refine so Tryz.func56 ?_
  repeat' (first|refine wkt ?_|exact wkc|intro hc|refine wk2 ?_ ?_|refine wk ?_|fail)
  all_goals first
   | (exfalso;omega)
   | exact RetK.keepN 3 rfl (Le.refl _) rfl rfl rfl rfl rfl ⟨rfl,rfl⟩
end Go.Proofs.YtjgmcnemcembmaaGreatDoor
namespace Go.TL
open Go
def WeakK(K:TK):TK:=fun e env H=>∃env1:Env,(∀i v,env1.look i=some v->∃u,env.look i=some u/\Le u v)/\K e env1 H
section rules
variable {P:Program}{n:Nat}{env:Env}{H:Heap}{K:TK}
theorem Post.weak{φ:Fm}{m:M}{e:Exit}{a:Act}{w:World}(h:Post φ m n (WeakK K) e a w):Post φ m n K e a w:=by
 obtain⟨m2,env2,te,rfl,s,hm,he,hd,hx,env1,hle,hk⟩:=h
 exact⟨m2,env1,te,rfl,s,hm,⟨he.1,fun i v hv=>by
  obtain⟨u,hu,hl⟩:=hle i v hv
  obtain⟨x,x1,x2⟩:=he.2 i u hu
  exact⟨x,x1,hl m2 x x2⟩⟩,hd,hx,hk⟩
theorem TR.weak{c:Code}(h:TR P n c env H (WeakK K)):TR P n c env H K:=
 fun φ m a h1 h2 h3 h4=>wpr_mono (h φ m a h1 h2 h3 h4) fun _ _ _ hp=>hp.weak
theorem WeakK.done{e:TExit}(h:K e env H):WeakK K e env H:=⟨env,fun _ v hv=>⟨v,hv,Le.refl v⟩,h⟩
theorem WeakK.own{e:TExit}(i:Nat){sz id:Nat}{es:List T}(hi:env.look i=some (.sl sz es id))(h:K e ((i,.t (.sl sz es))::env) H):WeakK K e env H:=by
 refine⟨_,fun j v hv=>?_,h⟩
 by_cases hj:i=j
 ·subst hj
  rw[Env.look_cons_same]at hv
  cases hv
  exact⟨_,hi,Le.own _ _ _⟩
 ·rw[Env.look_cons_other _ _ hj]at hv
  exact⟨v,hv,Le.refl v⟩
theorem WeakK.ret(h:K .ret env H):WeakK K .ret env H:=WeakK.done h
theorem WeakK.exit{i:Nat}(h:K (.exit i) env H):WeakK K (.exit i) env H:=WeakK.done h
variable {all:Array Oper}{rest:List Oper}{tab:Tab}{d:Nat}{ty:TypeId}{pos:String}{aft:Array Edge}
end rules
section rules
variable {P:Program}{n:Nat}{env:Env}{H:Heap}{K:TK}{tab:Tab}
variable {all:Array Oper}{rest:List Oper}{d:Nat}{ty:TypeId}{pos:String}{aft:Array Edge}
end rules
section rules
variable {P:Program}{all:Array Oper}
def PremH(P:Program)(n:Nat)(all:Array Oper)(full:Env)(G:List Heap):List Oper->List (SV×Bool)->List Heap->Prop
 | [],[],_=>True
 | o::l,(v,false)::t,hs=>(∀H∈G,∀env,TO false P n all [o] (pickE full (slotsOf all o)++env) H (NK (putE o.dst v (pickE full (slotsOf all o)++env)) H))/\PremH P n all full G l t hs
 | o::l,(v,true)::t,H1::H2::hs=>(∀env,TO false P n all [o] (pickE full (slotsOf all o)++env) H1 (NK (putE o.dst v (pickE full (slotsOf all o)++env)) H2))/\PremH P n all full G l t (H2::hs)
 | _,_,_=>False
theorem PremH.get{n:Nat}{full:Env}{G:List Heap}:∀ {l:List Oper} {t:List (SV×Bool)} {hs:List Heap},PremH P n all full G l t hs->l.length=t.length/\∀(i:Nat) o v b,l[i]?=some o->t[i]?=some (v,b)->
   (b=false->∀H∈G,∀env,TO false P n all [o] (pickE full (slotsOf all o)++env) H (NK (putE o.dst v (pickE full (slotsOf all o)++env)) H))/\
   (b=true->∃H1 H2,hs[effs t i]?=some H1/\hs[effs t i+1]?=some H2/\∀env,TO false P n all [o] (pickE full (slotsOf all o)++env) H1 (NK (putE o.dst v (pickE full (slotsOf all o)++env)) H2))
 | [],[],hs,_=>by simp
 | o::l,(v,false)::t,hs,h=>by
   obtain⟨h1,h2⟩:=h
   obtain⟨g1,g2⟩:=PremH.get h2
   refine⟨by simp[g1],fun i o' v' b' ho hv=>?_⟩
   cases i with
   | zero=>simp at ho hv;obtain⟨rfl,rfl⟩:=hv;subst ho;exact⟨fun _=>h1,fun e=>by cases e⟩
   | succ i=>
     have:=g2 i o' v' b' (by simpa using ho) (by simpa using hv)
     simpa [effs]using this
 | o::l,(v,true)::t,H1::H2::hs,h=>by
   obtain⟨h1,h2⟩:=h
   obtain⟨g1,g2⟩:=PremH.get h2
   refine⟨by simp[g1],fun i o' v' b' ho hv=>?_⟩
   cases i with
   | zero=>simp at ho hv;obtain⟨rfl,rfl⟩:=hv;subst ho;exact⟨fun e=>by(cases e),fun _=>⟨H1,H2,rfl,rfl,h1⟩⟩
   | succ i=>
     have:=g2 i o' v' b' (by simpa using ho) (by simpa using hv)
     have e:effs ((v,true)::t) (i+1)=effs t i+1:=by simp[effs]
     rw[e]
     simpa using this
 | o::l,(v,true)::t,[],h=>by exact h.elim
 | o::l,(v,true)::t,[_],h=>by exact h.elim
 | [],_::_,_,h=>by exact h.elim
 | _::_,[],_,h=>by exact h.elim
theorem TR.regionH{n:Nat}{env0 envF:Env}{H0 HF:Heap}{K:TK}{id':Nat}{l:List Oper}(t:List (SV×Bool))(hs:List Heap)(hm:P.follows .mixedOrders=true)(hB:mixB l.toArray (t.map (·.2))=true)(h0:hs[0]?=some H0)
  (hp:PremH P n l.toArray (fullE l.toArray (t.map (·.1)) env0) hs l t hs)(hF:hs[((t.map (·.2)).filter id).length]?=some HF)(hE:forceL (fullE l.toArray (t.map (·.1)) env0)=some envF)(hK:K .normal envF HF):
  TR P n (.region id' l.toArray true) env0 H0 K:=by
 obtain⟨g1,g2⟩:=hp.get
 intro φ m a h1 h2 h3 h4
 have hef:∀i,((t.map (·.2)).take i |>.filter id).length=effs t i:=by
  intro i
  unfold effs
  rw[<-List.map_take,List.filter_map,List.length_map]
  rfl
 have s0:Step m ⟨m.A,m.β,m.H,{ m.w with drawn:=m.w.drawn+1 }⟩/\HRel ⟨m.A,m.β,m.H,{ m.w with drawn:=m.w.drawn+1 }⟩:=keep_ok h2 ⟨rfl,rfl,rfl,Nat.le_refl _,fun _ _=>rfl⟩
 refine wpr_of_in (wpIn_region_any hm ?_)
 refine any_mixW [] (G:=fun _=>True) (vs:=t.map (·.1)) (fl:=t.map (·.2)) (hs:=hs) (m0:=m) (fun t ht=>by cases ht) hB (by simp[g1]) (by simp[g1]) ?_ ?_ hF (fun _=>by rw[forceL_eq hE]at hK;exact hK) l.toArray.size (Array.replicate l.toArray.size false)
  ⟨m.A,m.β,m.H,{ m.w with drawn:=m.w.drawn+1 }⟩ a (by simp) ?_ ?_ ?_ s0.1 s0.2 ?_ (h4.step h2 s0.1)
 ·intro i o v ho hv hb c H hcH _ env
  obtain⟨⟨v',b⟩,hx,rfl⟩:∃x,t[i]?=some x/\x.1=v:=by simpa using hv
  have hb':b=false:=by
   rw[List.getD_eq_getElem?_getD,List.getElem?_map,hx]at hb
   simpa using hb
  exact((g2 i o v' b (by simpa using ho) hx).1 hb' H (List.mem_of_getElem? hcH) env).nkp trivial
 ·intro i o v ho hv hb
  obtain⟨⟨v',b⟩,hx,rfl⟩:∃x,t[i]?=some x/\x.1=v:=by simpa using hv
  have hb':b=true:=by
   rw[List.getD_eq_getElem?_getD,List.getElem?_map,hx]at hb
   simpa using hb
  have:=(g2 i o v' b (by simpa using ho) hx).2 hb'
  rw[hef]
  obtain⟨H1,H2,e1,e2,e3⟩:=this
  exact⟨H1,H2,e1,e2,fun env=>(e3 env).nkp trivial⟩
 ·intro i hi
  rw[Array.getElem?_replicate]at hi
  split at hi <;> cases hi
 ·unfold unl
  have:=List.length_filter_le (fun i=>(Array.replicate l.toArray.size false)[i]? == some false) (List.range l.toArray.size)
  simpa using this
 ·refine⟨0,fun i hi=>⟨fun h=>by omega,fun h=>?_⟩,Nat.zero_le _,by rw[h0];simp[h1],fun j h=>?_⟩
  all_goals
   rw[Array.getElem?_replicate]at h
   split at h <;> cases h
 ·have:envA l.toArray (t.map (·.1)) (fun i=>(Array.replicate l.toArray.size false).getD i false) (List.range l.toArray.size)=[]:=by
   have:∀x:List Nat,envA l.toArray (t.map (·.1)) (fun i=>(Array.replicate l.toArray.size false).getD i false) x=[]:=by
    intro x
    induction x with
    | nil=>rfl
    | cons i x ih=>
      have:(Array.replicate l.toArray.size false).getD i false=false:=by
       rw[Array.getD_eq_getD_getElem?,Array.getElem?_replicate]
       split <;> rfl
      simp only[envA,this,ih]
   exact this _
  rw[this,List.nil_append]
  exact h3.step h2 s0.1
end rules
end Go.TL
namespace Go.Proofs.YtjgmcnemcembmaaGreatDoor
open Go Go.TL
attribute [local irreducible] TR TO Then InBlock RetK Sound LoopK Kf GG ThenL
theorem mem2J{α:Type}{a b x:α}(h:x∈[a,b]):x=a\/x=b:=by simpa using h
def lhsS(l:List Str):Str:=if 1<l.length then[40]++Go.Lib.join l [44,32]++[41] else Go.Lib.join l [44,32]
def equS(es:List En)(level:Nat)(q:Equ):Str:=lineS level (lhsS q.left++[32,61,32]++shF es 400 q.right++[59])
structure ShQ (q:Equ):Prop where
 ok:ShOk q.right
 size:wEx q.right≤400
 few:q.left.length≤1000
 left:∀n∈q.left,n.length≤3000000
def flatS{α:Type}(g:α->Str)(l:List α):Str:=(l.map g).flatten
theorem flatS_snoc{α:Type}(g:α->Str)(l:List α)(x:α):flatS g (l++[x])=flatS g l++g x:=by simp[flatS]
theorem flatS_take{α:Type}(g:α->Str)(l:List α)(j:Nat):(flatS g (l.take j)).length≤(flatS g l).length:=by
 conv=>rhs;rw[<-List.take_append_drop j l]
 simp only[flatS,List.map_append,List.flatten_append,List.length_append]
 omega
set_option maxHeartbeats 8000000 in
theorem body_sound9 {es:List En} (h:ShE es) (ga:Auto->Str) (t:Str) (level:Nat) (hv:level≤100) (eqs:List Equ) (autos:List Auto) (hq:∀q∈eqs,ShQ q) (hle:eqs.length≤1000000) (hla:autos.length≤1000000)
  (ha:∀a∈autos,∀t:Str,t.length+(ga a).length≤1000000000->Sound Tryz.prog 94 [.tref lnT 4 1 0,.i level,.t (autoT a)] (ln1 es t) (fun r H'=>r= .ret (.tup [])/\H'=ln1 es (t++ga a)))
  (hb:t.length+(flatS (equS es level) eqs).length+(flatS ga autos).length≤1000000000):
  Sound Tryz.prog 57 [.tref lnT 4 1 0,.i level,.t (.sl 7 (eqs.map equT)),.t (.sl 1 (autos.map autoT))] (ln1 es t) (fun r H'=>r= .ret (.tup [])/\H'=ln1 es (t++flatS (equS es level) eqs++flatS ga autos)):=by
 have hml:(eqs.map equT).length=eqs.length:=List.length_map _
 have hma:(autos.map autoT).length=autos.length:=List.length_map _
 refine so Tryz.func57 ?_
 repeat' (first|refine wkt ?_|fail)
 refine TR.loopN eqs.length (fun _=>True) (fun j=>[(0,.tref lnT 4 1 0),(1,.i level),(3,.t (.sl 1 (autos.map autoT))),(13,.t (.sl 7 (eqs.map equT))),(14,.i eqs.length),(15,.i j)]) (fun j=>ln1 es (t++flatS (equS es level) (eqs.take j))) trivial (fun j hlt _=>?_) (fun _=>?_) ⟨rfl,rfl,rfl,rfl,by rw[<-hml];rfl,rfl,trivial⟩ (by simp[flatS])
 ·have hx:(eqs.map equT)[j]?=some (.ag [T.sl 1 (eqs[j].left.map T.s),T.n eqs[j].right.kind,T.n eqs[j].right.op,T.n eqs[j].right.t,T.n eqs[j].right.v,T.s eqs[j].right.name,T.sl 6 (eqs[j].right.args.map exT)]):=at_map equT hlt
  have htk:=take_at hlt
  have hqq:=hq _ (List.getElem_mem hlt)
  have hs:=exprW_sound h 400 _ hqq.ok hqq.size (by decide)
  have hfl:=flatS_take (equS es level) eqs (j+1)
  rw[htk,flatS_snoc]at hfl
  have hj1:t++flatS (equS es level) (eqs.take (j+1))=t++flatS (equS es level) (eqs.take j)++equS es level eqs[j]:=by rw[htk,flatS_snoc,List.append_assoc]
  have hadd:=add_sound true es (t++flatS (equS es level) (eqs.take j)) (lhsS eqs[j].left++[32,61,32]++shF es 400 eqs[j].right++[59]) level hv (by
   rw[List.length_append]at hfl⊢
   simp only[equS]at hfl hb
   omega)
  have hjl:(Go.Lib.join eqs[j].left [44,32]).length≤3000002000:=by
   refine Nat.le_trans (join_len [44,32] 3000000 _ hqq.left) ?_
   exact Nat.le_trans (Nat.mul_le_mul_right _ hqq.few) (by decide)
  have hjn:=joinP_sound eqs[j].left [44,32] (Nat.le_trans hqq.few (by decide)) (Nat.le_trans hjl (by decide))
  have hgl:(shF es 400 eqs[j].right).length≤5000000000:=by
   have h1:=shF_len h 400 _ hqq.ok
   have h2:wEx eqs[j].right*12000100≤400*12000100:=Nat.mul_le_mul_right _ hqq.size
   omega
  have hlh:lhsS eqs[j].left=if 1<eqs[j].left.length then[40]++Go.Lib.join eqs[j].left [44,32]++[41] else Go.Lib.join eqs[j].left [44,32]:=rfl
  have hee:equS es level eqs[j]=lineS level (lhsS eqs[j].left++[32,61,32]++shF es 400 eqs[j].right++[59]):=rfl
  rw[<-hee]at hadd
  have hms:(eqs[j].left.map T.s).length=eqs[j].left.length:=List.length_map _
  clear hqq hfl
  unfold lnH at hadd
  simp only[cond_true]at hadd
  unfold ShC at hs
  unfold exC at hs
  generalize equS es level eqs[j]=ln at*
  generalize shF es 400 eqs[j].right=g at*
  generalize t++flatS (equS es level) (eqs.take j)=acc at*
  generalize Go.Lib.join eqs[j].left [44,32]=jn at*
  generalize lhsS eqs[j].left=lh at*
  generalize eqs[j]=q at*
  clear hee
  by_cases h1:1<q.left.length
  ·rw[if_pos h1]at hlh
   subst hlh
   repeat' (first|refine wkt ?_|(apply TO.indexAddr tabOk;(iterate 8 exact rfl);omega;exact hx)|refine wv hjn ?_|(apply TO.cat;exact rfl;exact rfl;exact rfl;(first|omega|(simp only[List.length_append,List.length_cons,List.length_nil];omega)))|exact wkc|intro hc|refine wk2 ?_ ?_|fail)
   refine TR.regionH (envF:=?envF) (HF:=ln1 es (acc++ln)) [(.tref lnT 4 1 0,false),(.i level,false),(.s ([40]++jn++[41]),false),(.s ([40]++jn++[41]++[32,61,32]),false),(.tref lnT 4 1 0,false),(.tref lnT 4 1 0,false),(.ref 1 0,false),(wr es,false),(.cp [.sl 1 (q.left.map T.s),T.n q.right.kind,T.n q.right.op,T.n q.right.t,T.n q.right.v,.s q.right.name,.sl 6 (q.right.args.map exT)] 1,false),(.t (.ag [T.n q.right.kind,T.n q.right.op,T.n q.right.t,T.n q.right.v,.s q.right.name,.sl 6 (q.right.args.map exT)]),false),(.s g,false),(.s ([40]++jn++[41]++[32,61,32]++g),false),(.s ([40]++jn++[41]++[32,61,32]++g++[59]),false),(.tup [],true)] [ln1 es acc,ln1 es (acc++ln)] hmix ?hB rfl ?hp rfl ?hE ?hK
   case hB=>(dsimp only[List.map];decide +kernel)
   case hE=>exact rfl
   case hp=>
    repeat' (first|(refine And.intro (fun H hH env=>?_) ?_;rcases mem2J hH with rfl|rfl)|refine And.intro (fun env=>?_) ?_|refine wkt ?_|refine wd hs ?_|(apply TO.callD 3 hadd;exact rfl;exact rfl;exact rfl;exact Les.refl _;exact rfl;exact rfl;exact rfl;exact rfl;exact rfl;exact rfl;exact rfl;exact rfl)|(apply TO.cat;exact rfl;exact rfl;exact rfl;(first|omega|(simp only[List.length_append,List.length_cons,List.length_nil];omega)))|exact trivial|exact And.intro rfl rfl|refine wk ?_|fail)
    done
   case hK=>
    repeat' (first|refine wu ?_|exact wkc|intro hc|refine wk2 ?_ ?_|fail)
    exact LoopK.nextN hlt trivial (by(try dsimp only);exact⟨rfl,rfl,rfl,rfl,rfl,rfl,trivial⟩) (by(try dsimp only);rw[hj1])
  ·rw[if_neg h1]at hlh
   subst hlh
   repeat' (first|refine wkt ?_|(apply TO.indexAddr tabOk;(iterate 8 exact rfl);omega;exact hx)|refine wv hjn ?_|(apply TO.cat;exact rfl;exact rfl;exact rfl;(first|omega|(simp only[List.length_append,List.length_cons,List.length_nil];omega)))|exact wkc|intro hc|refine wk2 ?_ ?_|fail)
   refine TR.regionH (envF:=?envF2) (HF:=ln1 es (acc++ln)) [(.tref lnT 4 1 0,false),(.i level,false),(.s lh,false),(.s (lh++[32,61,32]),false),(.tref lnT 4 1 0,false),(.tref lnT 4 1 0,false),(.ref 1 0,false),(wr es,false),(.cp [.sl 1 (q.left.map T.s),T.n q.right.kind,T.n q.right.op,T.n q.right.t,T.n q.right.v,.s q.right.name,.sl 6 (q.right.args.map exT)] 1,false),(.t (.ag [T.n q.right.kind,T.n q.right.op,T.n q.right.t,T.n q.right.v,.s q.right.name,.sl 6 (q.right.args.map exT)]),false),(.s g,false),(.s (lh++[32,61,32]++g),false),(.s (lh++[32,61,32]++g++[59]),false),(.tup [],true)] [ln1 es acc,ln1 es (acc++ln)] hmix ?hB2 rfl ?hp2 rfl ?hE2 ?hK2
   case hB2=>(dsimp only[List.map];decide +kernel)
   case hE2=>exact rfl
   case hp2=>
    repeat' (first|(refine And.intro (fun H hH env=>?_) ?_;rcases mem2J hH with rfl|rfl)|refine And.intro (fun env=>?_) ?_|refine wkt ?_|refine wd hs ?_|(apply TO.callD 3 hadd;exact rfl;exact rfl;exact rfl;exact Les.refl _;exact rfl;exact rfl;exact rfl;exact rfl;exact rfl;exact rfl;exact rfl;exact rfl)|(apply TO.cat;exact rfl;exact rfl;exact rfl;(first|omega|(simp only[List.length_append,List.length_cons,List.length_nil];omega)))|exact trivial|exact And.intro rfl rfl|refine wk ?_|fail)
    done
   case hK2=>
    repeat' (first|refine wu ?_|exact wkc|intro hc|refine wk2 ?_ ?_|fail)
    exact LoopK.nextN hlt trivial (by(try dsimp only);exact⟨rfl,rfl,rfl,rfl,rfl,rfl,trivial⟩) (by(try dsimp only);rw[hj1])
 ·rw[List.take_length]
  repeat' (first|refine wkt ?_|refine LoopK.exit ?_|exact wkc|intro hc|refine wk2 ?_ ?_|fail)
  have hacc:(t++flatS (equS es level) eqs).length+(flatS ga autos).length≤1000000000:=by rw[List.length_append];exact hb
  generalize t++flatS (equS es level) eqs=acc at*
  refine TR.loopN autos.length (fun _=>True) (fun j=>[(0,.tref lnT 4 1 0),(1,.i level),(44,.t (.sl 1 (autos.map autoT))),(45,.i autos.length),(46,.i j)]) (fun j=>ln1 es (acc++flatS ga (autos.take j))) trivial (fun j hlt _=>?_) (fun _=>?_) ⟨rfl,rfl,rfl,by rw[<-hma];rfl,rfl,trivial⟩ (by simp[flatS])
  ·have hx:=at_map autoT hlt
   have htk:=take_at hlt
   have hfl:=flatS_take ga autos (j+1)
   rw[htk,flatS_snoc]at hfl
   have hj1:acc++flatS ga (autos.take (j+1))=acc++flatS ga (autos.take j)++ga autos[j]:=by rw[htk,flatS_snoc,List.append_assoc]
   have hs:=ha autos[j] (List.getElem_mem hlt) (acc++flatS ga (autos.take j)) (by
    rw[List.length_append]at hfl⊢
    omega)
   generalize acc++flatS ga (autos.take j)=ac2 at*
   generalize ga autos[j]=ln at*
   generalize autos[j]=a at*
   obtain⟨sts⟩:=a
   rw[autoT]at hx hs
   repeat' (first|refine wkt ?_|(apply TO.indexAddr tabOk;(iterate 8 exact rfl);omega;exact hx)|(apply TO.callD 3 hs;exact rfl;exact rfl;exact rfl;exact Les.refl _;exact rfl;exact rfl;exact rfl;exact rfl;exact rfl;exact rfl;exact rfl;exact rfl)|exact wkc|intro hc|refine wk2 ?_ ?_|refine wk ?_|fail)
   exact LoopK.nextN hlt trivial (by(try dsimp only);exact⟨rfl,rfl,rfl,rfl,rfl,trivial⟩) (by(try dsimp only);rw[hj1])
  ·rw[List.take_length]
   repeat' (first|refine wu ?_|exact wkc|intro hc|refine wk2 ?_ ?_|fail)
   exact RetK.keepN 3 rfl (Le.refl _) rfl rfl rfl rfl rfl ⟨rfl,rfl⟩
end Go.Proofs.YtjgmcnemcembmaaGreatDoor
