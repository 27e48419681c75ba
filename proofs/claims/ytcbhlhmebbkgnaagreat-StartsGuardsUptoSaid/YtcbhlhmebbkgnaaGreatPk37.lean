import Derived.Test.YtcbhlhmebbkgnaaGreatPk7
import Derived.Test.YtcbhlhmebbkgnaaGreatPk15
import Derived.Test.YtcbhlhmebbkgnaaGreatPk19
import Derived.Test.YtcbhlhmebbkgnaaGreatPk24
import Derived.Test.YtcbhlhmebbkgnaaGreatPk25
import Derived.Test.YtcbhlhmebbkgnaaGreatPk32
import Derived.Test.YtcbhlhmebbkgnaaGreatPk34
import Derived.Test.YtcbhlhmebbkgnaaGreatPk35
import Derived.Test.YtcbhlhmebbkgnaaGreatPk36
set_option linter.unusedSimpArgs false
set_option linter.unusedVariables false
namespace Go.Proofs.YtcbhlhmebbkgnaaGreat
open Go Go.TL
attribute [local irreducible] TR TO Then InBlock RetK Sound LoopK Kf GG ThenL
theorem nodS_of{p:Prog}(h:(typesX p).2=0){n:Nod}(hn:n∈p.nodes)(hw:(nodT n).w≤100000000):NodS n:=by
 have hK:=nodK_of h hn hw
 have hT:=node_ty (shape_nodes (scope_shape (typesX_parts h).1) n hn) hw
 have hwn:=w_nod n
 have l1:=w_lenM declT 3 n.outs
 have d1:(declsT n.outs).w=(T.sl 3 (n.outs.map declT)).w:=rfl
 have arr:∀ {e:Ex},ExT e->∀x∈flat e,x.kind.1=6->x.args≠ []:=fun he x hx h6 h0=>by
  have:=(he.2 x hx).more (by omega) (by omega)
  rw[h0]at this;simp at this
 refine⟨⟨hK.le.2.1,fun u hu s hs=>?_,fun u hu=>(hK.eqs u hu).2.2⟩,fun u hu=>⟨(hK.eqs u hu).2.2.1,(hK.eqs u hu).2.2.2,arr (hT.eqs u hu).2⟩,fun e he=>⟨(hK.exs e he).1,(hK.exs e he).2,?_⟩,⟨by omega,fun d hd=>?_⟩,⟨hK.le.1,fun d hd=>hK.clk d (by simp[varsL,hd])⟩,hK.le.2.2⟩
 ·have h1:=w_inM (f:=equT) (sz:=7) hu
  have h2:=w_inM (f:=T.s) (sz:=1) hs
  have h3:(T.sl 1 (u.left.map T.s)).w≤(equT u).w:=by
   rw[show equT u= .ag (.sl 1 (u.left.map T.s)::exC u.right) from rfl,w_ag,List.map_cons,List.sum_cons];omega
  rw[w_s]at h2
  omega
 ·rcases List.mem_append.1 he with he|he
  ·exact arr (hT.assume e he)
  ·exact arr (hT.ensure e he)
 ·have:=(name_decl hd).1
  omega
theorem ask_sound(p:Prog)(hw:(T.ag (progC p)).w≤100000000):Pure Tryz.prog 25 [.t (.ag (progC p))] (.tup [.t (.ag [T.i (clocksX p).1.1,T.i (clocksX p).1.2]),.i (clocksX p).2]):=by
 obtain⟨hP,hln,hpl⟩:=smallP_of hw
 have hc0:=clocksX_sound p hw
 have hpn:=plain_sound p (by omega)
 have hz:plainP p=false->clocksX p=((-1,-1),2):=fun h=>by unfold clocksX;rw[if_pos h]
 generalize clocksX p=z at*
 have hpc:progC p=[.sl 2 (p.enums.map enT),nodesT p.nodes]:=rfl
 rw[hpc]at*
 generalize plainP p=pl at*
 cases pl with
 | false=>
   rw[hz rfl]
   refine Sound.of tabOk Tryz.func25 (by kernel_rfl) rfl rfl ?_
   repeat' (first|refine wkt ?_|refine wk ?_|exact wkc|intro hc|refine wk2 ?_ ?_|refine wv hpn ?_|fail)
   exact wkr
 | true=>
   refine Sound.of tabOk Tryz.func25 (by kernel_rfl) rfl rfl ?_
   repeat' (first|refine wkt ?_|refine wk ?_|exact wkc|intro hc|refine wk2 ?_ ?_|refine wv hpn ?_|refine wv hc0 ?_|fail)
   exact wkr
theorem clocks_types{p:Prog}(h:(clocksX p).2=0):(typesX p).2=0:=(clocks_ok h).2.1
theorem stNods_step{l:List Nod}{k:Nat}(h:k<l.length):stNods k (l.drop k)=if(nodeI l[k]).2=true then(((k:Int),(nodeI l[k]).1),12) else stNods (k+1) (l.drop (k+1)):=by
 rw[List.drop_eq_getElem_cons h,stNods]
set_option maxHeartbeats 2000000 in
theorem startsX_sound (p:Prog) (hw:(T.ag (progC p)).w≤100000000):Pure Tryz.prog 9 [.t (.ag (progC p))] (.tup [.t (.ag [T.i (startsX p).1.1,T.i (startsX p).1.2]),.i (startsX p).2]):=by
 obtain⟨hP,hln,hpl⟩:=smallP_of hw
 have hml:(p.nodes.map nodT).length=p.nodes.length:=List.length_map _
 have hask:=ask_sound p hw
 have hz:startsX p=startsX p:=rfl
 conv at hz=>rhs;unfold startsX
 generalize startsX p=z at hz⊢
 have hnk:=fun h n hn=>nodS_of (p:=p) (clocks_types h) hn (hln n hn)
 generalize clocksX p=t at*
 obtain⟨⟨t1,t2⟩,t3⟩:=t
 simp only at hz hask hnk
 have hpc:progC p=[.sl 2 (p.enums.map enT),nodesT p.nodes]:=rfl
 rw[hpc]at*
 by_cases h3:t3=0
 ·rw[if_neg (by simp[h3])]at hz
  have hnk:=hnk h3
  refine Sound.of tabOk Tryz.func9 (by kernel_rfl) rfl rfl ?_
  repeat' (first|refine wkt ?_|refine wka ?_|refine wk ?_|exact wkc|intro hc|refine wk2 ?_ ?_|refine wv hask ?_|fail)
  refine TR.loopN p.nodes.length (fun k=>stNods 0 p.nodes=stNods k (p.nodes.drop k)) (fun k=>[(2,.ref 0 0),(20,.t (nodesT p.nodes)),(21,.i (p.nodes.map nodT).length),(22,.i k)]) (fun _=>[.cells [.i 0,.i 0]]) rfl (fun k hlt ha=>?_) (fun ha=>?_)
  ·have hx:=at_nod hlt
   have hmem:=List.getElem_mem hlt
   rw[stNods_step hlt]at ha
   have hs:=nodeS_sound p.nodes[k] (hnk _ hmem)
   generalize nodeI p.nodes[k]=r at*
   obtain⟨r1,r2⟩:=r
   generalize p.nodes[k]=n at*
   unfold nodC at*
   simp only at ha hs
   cases r2 with
   | true=>
     rw[if_pos rfl]at ha
     rw[ha]at hz
     subst hz
     repeat' (first|refine wkt ?_|refine wka ?_|refine wk ?_|exact wkc|intro hc|refine wk2 ?_ ?_|refine wv hs ?_|fail)
     (repeat' (first|refine LoopK.ret ?_|refine wk ?_|fail))
     exact wkr
   | false=>
     rw[if_neg (by decide)]at ha
     repeat' (first|refine wkt ?_|refine wka ?_|refine wk ?_|exact wkc|intro hc|refine wk2 ?_ ?_|refine wv hs ?_|fail)
     exact LoopK.nextC 1 hlt ha rfl rfl rfl rfl rfl
  ·rw[List.drop_of_length_le (Nat.le_refl _)]at ha
   rw[ha]at hz
   subst hz
   repeat' (first|refine wkt ?_|refine wk ?_|exact wkc|intro hc|refine wk2 ?_ ?_|fail)
   exact wkr
 ·rw[if_pos h3]at hz
  subst hz
  refine Sound.of tabOk Tryz.func9 (by kernel_rfl) rfl rfl ?_
  repeat' (first|refine wkt ?_|refine wka ?_|refine wk ?_|exact wkc|intro hc|refine wk2 ?_ ?_|refine wv hask ?_|fail)
  all_goals first
   | exact wkr
   | (exfalso;omega)
end Go.Proofs.YtcbhlhmebbkgnaaGreat
namespace Go.TL
open Go
def WeakK(K:TK):TK:=fun e env H=>∃env1:Env,(∀i v,env1.look i=some v->∃u,env.look i=some u/\Le u v)/\K e env1 H
section rules
variable {P:Program}{n:Nat}{env:Env}{H:Heap}{K:TK}
theorem Post.weak{φ:Fm}{m:M}{e:Exit}{a:Act}{w:World}(h:Post φ m n (WeakK K) e a w):Post φ m n K e a w:=by
 obtain⟨m2,env2,te,rfl,s,hm,he,hd,hx,env1,hle,hk⟩:=h
 exact⟨m2,env1,te,rfl,s,hm,⟨he.1,fun i v hv=>by
  obtain⟨u,hu,hl⟩:=hle i v hv
  obtain⟨x,x1,x2⟩:=he.2 i u hu
  exact⟨x,x1,hl m2 x x2⟩⟩,hd,hx,hk⟩
theorem TR.weak{c:Code}(h:TR P n c env H (WeakK K)):TR P n c env H K:=
 fun φ m a h1 h2 h3 h4=>wpr_mono (h φ m a h1 h2 h3 h4) fun _ _ _ hp=>hp.weak
theorem WeakK.done{e:TExit}(h:K e env H):WeakK K e env H:=⟨env,fun _ v hv=>⟨v,hv,Le.refl v⟩,h⟩
theorem WeakK.own{e:TExit}(i:Nat){sz id:Nat}{es:List T}(hi:env.look i=some (.sl sz es id))(h:K e ((i,.t (.sl sz es))::env) H):WeakK K e env H:=by
 refine⟨_,fun j v hv=>?_,h⟩
 by_cases hj:i=j
 ·subst hj
  rw[Env.look_cons_same]at hv
  cases hv
  exact⟨_,hi,Le.own _ _ _⟩
 ·rw[Env.look_cons_other _ _ hj]at hv
  exact⟨v,hv,Le.refl v⟩
theorem WeakK.ret(h:K .ret env H):WeakK K .ret env H:=WeakK.done h
theorem WeakK.exit{i:Nat}(h:K (.exit i) env H):WeakK K (.exit i) env H:=WeakK.done h
variable {all:Array Oper}{rest:List Oper}{tab:Tab}{d:Nat}{ty:TypeId}{pos:String}{aft:Array Edge}
end rules
section rules
variable {P:Program}{n:Nat}{env:Env}{H:Heap}{K:TK}{tab:Tab}
variable {all:Array Oper}{rest:List Oper}{d:Nat}{ty:TypeId}{pos:String}{aft:Array Edge}
end rules
section rules
variable {P:Program}{all:Array Oper}
def PremH(P:Program)(n:Nat)(all:Array Oper)(full:Env)(G:List Heap):List Oper->List (SV×Bool)->List Heap->Prop
 | [],[],_=>True
 | o::l,(v,false)::t,hs=>(∀H∈G,∀env,TO false P n all [o] (pickE full (slotsOf all o)++env) H (NK (putE o.dst v (pickE full (slotsOf all o)++env)) H))/\PremH P n all full G l t hs
 | o::l,(v,true)::t,H1::H2::hs=>(∀env,TO false P n all [o] (pickE full (slotsOf all o)++env) H1 (NK (putE o.dst v (pickE full (slotsOf all o)++env)) H2))/\PremH P n all full G l t (H2::hs)
 | _,_,_=>False
theorem PremH.get{n:Nat}{full:Env}{G:List Heap}:∀ {l:List Oper} {t:List (SV×Bool)} {hs:List Heap},PremH P n all full G l t hs->l.length=t.length/\∀(i:Nat) o v b,l[i]?=some o->t[i]?=some (v,b)->
   (b=false->∀H∈G,∀env,TO false P n all [o] (pickE full (slotsOf all o)++env) H (NK (putE o.dst v (pickE full (slotsOf all o)++env)) H))/\
   (b=true->∃H1 H2,hs[effs t i]?=some H1/\hs[effs t i+1]?=some H2/\∀env,TO false P n all [o] (pickE full (slotsOf all o)++env) H1 (NK (putE o.dst v (pickE full (slotsOf all o)++env)) H2))
 | [],[],hs,_=>by simp
 | o::l,(v,false)::t,hs,h=>by
   obtain⟨h1,h2⟩:=h
   obtain⟨g1,g2⟩:=PremH.get h2
   refine⟨by simp[g1],fun i o' v' b' ho hv=>?_⟩
   cases i with
   | zero=>simp at ho hv;obtain⟨rfl,rfl⟩:=hv;subst ho;exact⟨fun _=>h1,fun e=>by cases e⟩
   | succ i=>
     have:=g2 i o' v' b' (by simpa using ho) (by simpa using hv)
     simpa [effs]using this
 | o::l,(v,true)::t,H1::H2::hs,h=>by
   obtain⟨h1,h2⟩:=h
   obtain⟨g1,g2⟩:=PremH.get h2
   refine⟨by simp[g1],fun i o' v' b' ho hv=>?_⟩
   cases i with
   | zero=>simp at ho hv;obtain⟨rfl,rfl⟩:=hv;subst ho;exact⟨fun e=>by(cases e),fun _=>⟨H1,H2,rfl,rfl,h1⟩⟩
   | succ i=>
     have:=g2 i o' v' b' (by simpa using ho) (by simpa using hv)
     have e:effs ((v,true)::t) (i+1)=effs t i+1:=by simp[effs]
     rw[e]
     simpa using this
 | o::l,(v,true)::t,[],h=>by exact h.elim
 | o::l,(v,true)::t,[_],h=>by exact h.elim
 | [],_::_,_,h=>by exact h.elim
 | _::_,[],_,h=>by exact h.elim
theorem TR.regionH{n:Nat}{env0 envF:Env}{H0 HF:Heap}{K:TK}{id':Nat}{l:List Oper}(t:List (SV×Bool))(hs:List Heap)(hm:P.follows .mixedOrders=true)(hB:mixB l.toArray (t.map (·.2))=true)(h0:hs[0]?=some H0)
  (hp:PremH P n l.toArray (fullE l.toArray (t.map (·.1)) env0) hs l t hs)(hF:hs[((t.map (·.2)).filter id).length]?=some HF)(hE:forceL (fullE l.toArray (t.map (·.1)) env0)=some envF)(hK:K .normal envF HF):
  TR P n (.region id' l.toArray true) env0 H0 K:=by
 obtain⟨g1,g2⟩:=hp.get
 intro φ m a h1 h2 h3 h4
 have hef:∀i,((t.map (·.2)).take i |>.filter id).length=effs t i:=by
  intro i
  unfold effs
  rw[<-List.map_take,List.filter_map,List.length_map]
  rfl
 have s0:Step m ⟨m.A,m.β,m.H,{ m.w with drawn:=m.w.drawn+1 }⟩/\HRel ⟨m.A,m.β,m.H,{ m.w with drawn:=m.w.drawn+1 }⟩:=keep_ok h2 ⟨rfl,rfl,rfl,Nat.le_refl _,fun _ _=>rfl⟩
 refine wpr_of_in (wpIn_region_any hm ?_)
 refine any_mixW [] (G:=fun _=>True) (vs:=t.map (·.1)) (fl:=t.map (·.2)) (hs:=hs) (m0:=m) (fun t ht=>by cases ht) hB (by simp[g1]) (by simp[g1]) ?_ ?_ hF (fun _=>by rw[forceL_eq hE]at hK;exact hK) l.toArray.size (Array.replicate l.toArray.size false)
  ⟨m.A,m.β,m.H,{ m.w with drawn:=m.w.drawn+1 }⟩ a (by simp) ?_ ?_ ?_ s0.1 s0.2 ?_ (h4.step h2 s0.1)
 ·intro i o v ho hv hb c H hcH env
  obtain⟨⟨v',b⟩,hx,rfl⟩:∃x,t[i]?=some x/\x.1=v:=by simpa using hv
  have hb':b=false:=by
   rw[List.getD_eq_getElem?_getD,List.getElem?_map,hx]at hb
   simpa using hb
  exact((g2 i o v' b (by simpa using ho) hx).1 hb' H (List.mem_of_getElem? hcH) env).nkp trivial
 ·intro i o v ho hv hb
  obtain⟨⟨v',b⟩,hx,rfl⟩:∃x,t[i]?=some x/\x.1=v:=by simpa using hv
  have hb':b=true:=by
   rw[List.getD_eq_getElem?_getD,List.getElem?_map,hx]at hb
   simpa using hb
  have:=(g2 i o v' b (by simpa using ho) hx).2 hb'
  rw[hef]
  obtain⟨H1,H2,e1,e2,e3⟩:=this
  exact⟨H1,H2,e1,e2,fun env=>(e3 env).nkp trivial⟩
 ·intro i hi
  rw[Array.getElem?_replicate]at hi
  split at hi <;> cases hi
 ·unfold unl
  have:=List.length_filter_le (fun i=>(Array.replicate l.toArray.size false)[i]? == some false) (List.range l.toArray.size)
  simpa using this
 ·refine⟨0,fun i hi=>⟨fun h=>by omega,fun h=>?_⟩,Nat.zero_le _,by rw[h0];simp[h1],fun j h=>?_⟩
  all_goals
   rw[Array.getElem?_replicate]at h
   split at h <;> cases h
 ·have:envA l.toArray (t.map (·.1)) (fun i=>(Array.replicate l.toArray.size false).getD i false) (List.range l.toArray.size)=[]:=by
   have:∀x:List Nat,envA l.toArray (t.map (·.1)) (fun i=>(Array.replicate l.toArray.size false).getD i false) x=[]:=by
    intro x
    induction x with
    | nil=>rfl
    | cons i x ih=>
      have:(Array.replicate l.toArray.size false).getD i false=false:=by
       rw[Array.getD_eq_getD_getElem?,Array.getElem?_replicate]
       split <;> rfl
      simp only[envA,this,ih]
   exact this _
  rw[this,List.nil_append]
  exact h3.step h2 s0.1
end rules
end Go.TL
namespace Go.Proofs.YtcbhlhmebbkgnaaGreat
open Go Go.TL
attribute [local irreducible] TR TO Then InBlock RetK Sound LoopK Kf GG ThenL
attribute [local irreducible] WeakK
def lateN(V:List Str)(l:List Decl):List Str:=(l.filter fun d=>decide (d.name∈V)).map Decl.name
theorem lateN_next{V:List Str}{l:List Decl}{k:Nat}(h:k<l.length):lateN V (l.take (k+1))=if l[k].name∈V then lateN V (l.take k)++[l[k].name] else lateN V (l.take k):=by
 unfold lateN
 rw[List.take_succ_eq_append_getElem h,List.filter_append,List.map_append]
 by_cases hm:l[k].name∈V <;> simp[hm]
theorem lateN_len(V:List Str)(l:List Decl):(lateN V l).length≤l.length:=by
 unfold lateN
 rw[List.length_map]
 exact List.length_filter_le _ _
set_option maxHeartbeats 2000000 in
theorem lateP_sound (p:Prog) (hw:(T.ag (progC p)).w≤100000000) (node:I64):Pure Tryz.prog 12 [.t (.ag (progC p)),.i node.1] (.tup [.t (.sl 1 ((lateP p node).1.map T.s)),.i (lateP p node).2]):=by
 obtain⟨hP,hln,hpl⟩:=smallP_of hw
 have hml:(p.nodes.map nodT).length=p.nodes.length:=List.length_map _
 have hask:=ask_sound p hw
 have hz:lateP p node=lateP p node:=rfl
 conv at hz=>rhs;unfold lateP
 generalize lateP p node=z at hz⊢
 have hnk:=fun h n hn=>nodS_of (p:=p) (clocks_types h) hn (hln n hn)
 generalize clocksX p=t at*
 obtain⟨⟨t1,t2⟩,t3⟩:=t
 simp only at hz hask hnk
 have hpc:progC p=[.sl 2 (p.enums.map enT),nodesT p.nodes]:=rfl
 rw[hpc]at*
 by_cases h3:t3=0
 ·rw[if_neg (by simp[h3])]at hz
  have hnk:=hnk h3
  by_cases h2:node.1<0\/(p.nodes.length:Int)≤node.1
  ·rw[if_pos h2]at hz
   subst hz
   refine Sound.of tabOk Tryz.func12 (by kernel_rfl) rfl rfl ?_
   repeat' (first|refine wkt ?_|refine wka ?_|refine wk ?_|exact wkc|intro hc|refine wk2 ?_ ?_|refine wv hask ?_|fail)
   all_goals first
    | exact wkr
    | (exfalso;omega)
  rw[if_neg h2]at hz
  obtain⟨k,hk,hkn⟩:∃k:Nat,k<p.nodes.length/\node.1=(k:Int):=⟨node.1.toNat,by omega,by omega⟩
  have hnt:node.1.toNat=k:=by omega
  rw[hnt,List.getElem?_eq_getElem hk]at hz
  simp only at hz
  have hmem:=List.getElem_mem hk
  have hat:(p.nodes.map nodT)[node.1.toNat]?=some (.ag (nodC p.nodes[k])):=by rw[hnt];exact at_nod hk
  have hN:=hP.each _ hmem
  have hv:=vars_sound p.nodes[k] hN (hP.clocks _ hmem)
  have hvl:(varsL p.nodes[k]).length≤1000000000:=by have:=hN.ins;have:=hN.outs;have:=hN.locals;simp[varsL];omega
  have hS:=hnk _ hmem
  have hls:=lates_sound p.nodes[k] hS.eqs
  have hok:=lates_ok hS.eqs
  have hnm:∀d∈varsL p.nodes[k],d.name.length≤1000000000:=fun d hd=>by
   have h0:=decls_w p.nodes[k]
   have:=(name_decl hd).1
   have:=hln _ hmem
   omega
  have hzl:z.1=lateN (latesX p.nodes[k]) (varsL p.nodes[k])/\z.2=0:=by rw[hz];exact⟨rfl,rfl⟩
  obtain⟨z1,z2⟩:=z
  obtain⟨e1,e2⟩:=hzl
  simp only at e1 e2
  subst e1 e2
  clear hz hN hS hP hnk
  generalize latesX p.nodes[k]=V at*
  generalize varsL p.nodes[k]=L at*
  have hmL:(L.map declT).length=L.length:=List.length_map _
  generalize p.nodes[k]=n at hv hat hls hln
  clear hln
  unfold nodC at*
  refine Sound.of tabOk Tryz.func12 (by kernel_rfl) rfl rfl ?_
  repeat' (first|refine wkt ?_|refine wka ?_|refine wv hask ?_|refine wv hv ?_|(apply TO.callMp hls;exact rfl;exact rfl;exact rfl;exact⟨Le.refl _,trivial⟩;exact rfl)|refine wk ?_|exact wkc|intro hc|refine wk2 ?_ ?_|fail)
  all_goals try(exfalso;omega)
  refine TR.tail 1 9 rfl ?_
  refine TR.weak ?_
  refine TR.loopN L.length (fun _=>True) (fun k=>[(8,.mp 0),(9,.sl 1 ((lateN V (L.take k)).map T.s) 1),(40,.t (declsT L)),(41,.i (L.map declT).length),(42,.i k)]) (fun k=>[setB V,.tail ((lateN V (L.take k)).map T.s).length]) trivial (fun k hlt _=>?_) (fun _=>?_)
  ·have hx:=at_decl hlt
   have hnx:=lateN_next (V:=V) hlt
   have hno:=hnm _ (List.getElem_mem hlt)
   have hlen:=lateN_len V (L.take k)
   have hlm:((lateN V (L.take k)).map T.s).length=(lateN V (L.take k)).length:=List.length_map _
   have hlt':(L.take k).length≤L.length:=by simp;omega
   generalize lateN V (L.take k)=w at*
   generalize L[k]=u at*
   unfold declC at hx
   repeat' (first|refine wkt ?_|refine wk ?_|exact wkc|intro hc|refine wk2 ?_ ?_|(apply TO.setGet;exact rfl;exact rfl;exact rfl;exact rfl;assumption;assumption)|fail)
   ·rw[if_pos hc]at hnx
    exact LoopK.nextN hlt trivial ⟨rfl,by(try dsimp only);rw[hnx,List.map_append];rfl,rfl,rfl,rfl,trivial⟩ (by(try dsimp only);rw[hnx,List.map_append,List.length_append];rfl)
   ·rw[if_neg hc]at hnx
    exact LoopK.nextN hlt trivial ⟨rfl,by(try dsimp only);rw[hnx];rfl,rfl,rfl,rfl,trivial⟩ (by(try dsimp only);rw[hnx])
  ·rw[List.take_length]
   repeat' (first|refine wkt ?_|refine wk ?_|exact wkc|intro hc|refine wk2 ?_ ?_|fail)
   refine WeakK.own 9 rfl ?_
   repeat' (first|refine wkt ?_|refine wk ?_|exact wkc|intro hc|refine wk2 ?_ ?_|fail)
   exact wkr
 ·rw[if_pos h3]at hz
  subst hz
  refine Sound.of tabOk Tryz.func12 (by kernel_rfl) rfl rfl ?_
  repeat' (first|refine wkt ?_|refine wka ?_|refine wk ?_|exact wkc|intro hc|refine wk2 ?_ ?_|refine wv hask ?_|fail)
  all_goals first
   | exact wkr
   | (exfalso;omega)
end Go.Proofs.YtcbhlhmebbkgnaaGreat
namespace Go.Proofs.YtcbhlhmebbkgnaaGreat
open Go Go.TL
attribute [local irreducible] TR TO Then InBlock RetK Sound LoopK Kf GG ThenL
theorem mem3{α:Type}{a b c x:α}(h:x∈[a,b,c]):x=a\/x=b\/x=c:=by simpa using h
set_option maxHeartbeats 2000000 in
theorem lateOf_sound (p:Prog) (hw:(T.ag (progC p)).w≤100000000) (node:I64) (e:Ex) (he:wEx e≤1000000000) (hn:∀x∈flat e,x.name.length≤1000000000):
  Pure Tryz.prog 14 [.t (.ag (progC p)),.i node.1,.t (.ag (exC e))] (.tup [.b (lateOf p node e).1,.i (lateOf p node e).2]):=by
 obtain⟨hP,hln,hpl⟩:=smallP_of hw
 have hml:(p.nodes.map nodT).length=p.nodes.length:=List.length_map _
 have h1:=lateP_sound p hw node
 have h2:=of_sound11 p hP node e he
 have hz:lateOf p node e=lateOf p node e:=rfl
 conv at hz=>rhs;unfold lateOf
 generalize lateOf p node e=z at hz⊢
 have hrange:(lateP p node).2=0->(clocksX p).2=0/\¬(node.1<0\/(p.nodes.length:Int)≤node.1):=fun h=>by
  unfold lateP at h
  have h3:(clocksX p).2=0:=Classical.byContradiction fun hh=>by rw[if_pos hh]at h;exact hh h
  rw[if_neg (by simp[h3])]at h
  exact⟨h3,fun hh=>by rw[if_pos hh]at h;cases h⟩
 have hpc:progC p=[.sl 2 (p.enums.map enT),nodesT p.nodes]:=rfl
 have hec:exC e=[T.n e.kind,T.n e.op,T.n e.t,T.n e.v,.s e.name,.sl 6 (e.args.map exT)]:=rfl
 rw[hpc]at*
 by_cases h3:(lateP p node).2=0
 ·obtain⟨hck,h4⟩:=hrange h3
  rw[if_neg (by simp[h3])]at hz
  obtain⟨k,hk,hkn⟩:∃k:Nat,k<p.nodes.length/\node.1=(k:Int):=⟨node.1.toNat,by omega,by omega⟩
  have hnt:node.1.toNat=k:=by omega
  have hat:(p.nodes.map nodT)[node.1.toNat]?=some (.ag (nodC p.nodes[k])):=by rw[hnt];exact at_nod hk
  rw[hnt,List.getElem?_eq_getElem hk]at hz
  simp only at hz
  have hmem:=List.getElem_mem hk
  have hS:=nodS_of (p:=p) (clocks_types hck) hmem (hln _ hmem)
  have hls:=lates_sound p.nodes[k] hS.eqs
  have hla:=late_sound (latesX p.nodes[k]) (lates_ok hS.eqs) _ e (Nat.le_refl _) he hn
  unfold LateS at hla
  rw[exT_eq]at hla
  rw[h3]at h1
  clear hS hP hrange hck
  generalize (lateP p node).1=l1 at*
  generalize ofT p node e=r at*
  obtain⟨r1,r2⟩:=r
  simp only at hz h2
  generalize lateX (latesX p.nodes[k]) e=b at*
  generalize latesX p.nodes[k]=V at*
  generalize p.nodes[k]=n at*
  rw[hec]at*
  by_cases h5:r2=0
  ·rw[if_neg (by simp[h5])]at hz
   subst hz h5
   unfold nodC at*
   refine Sound.of tabOk Tryz.func14 (by kernel_rfl) rfl rfl ?_
   repeat' (first|refine wkt ?_|refine wka ?_|refine wv h1 ?_|refine wv h2 ?_|(apply Go.TL.TO.go tabOk 300 false;exact rfl;(first|apply Go.TL.GG.to|apply Go.TL.GG.stop|apply Go.TL.GG.tr0|apply Go.TL.GG.tr|apply Go.TL.GG.ex))|exact wkc|intro hc|refine wk2 ?_ ?_|fail)
   all_goals try(exfalso;omega)
   refine TR.regionH (envF:=?envF) (HF:=[setB V]) [(.cp [.sl 2 (p.enums.map enT),nodesT p.nodes] 1,false),(.t (nodesT p.nodes),false),(.i node.1,false),(.cp [.s n.name,declsT n.ins,declsT n.outs,declsT n.locals,.sl 7 (n.eqs.map equT),.sl 1 (n.autos.map autoT),.sl 6 (n.assume.map exT),.sl 6 (n.ensure.map exT)] 0,false),(.t (.ag [.s n.name,declsT n.ins,declsT n.outs,declsT n.locals,.sl 7 (n.eqs.map equT),.sl 1 (n.autos.map autoT),.sl 6 (n.assume.map exT),.sl 6 (n.ensure.map exT)]),false),(.mp 0,true),(.t (.ag [T.n e.kind,T.n e.op,T.n e.t,T.n e.v,.s e.name,.sl 6 (e.args.map exT)]),false),(.b b,true),(.b b,false),(.i 0,false)] [[],[setB V],[setB V]] hmix ?hB ?h0 ?hp ?hF ?hE ?hK
   case hB=>(dsimp only[List.map];decide +kernel)
   case h0=>exact rfl
   case hF=>exact rfl
   case hE=>exact rfl
   case hp=>
    repeat' (first|(refine And.intro (fun H hH env=>?_) ?_;rcases mem3 hH with rfl|rfl|rfl)|refine And.intro (fun env=>?_) ?_|refine wkt ?_|(apply TO.callMp hls;exact rfl;exact rfl;exact rfl;exact⟨Le.refl _,trivial⟩;exact rfl)|(refine wd hla ?_)|exact trivial|exact And.intro rfl rfl|refine wk ?_|fail)
    done
   case hK=>
    repeat' (first|refine wk ?_|fail)
    exact wkr
  ·rw[if_pos h5]at hz
   subst hz
   refine Sound.of tabOk Tryz.func14 (by kernel_rfl) rfl rfl ?_
   repeat' (first|refine wkt ?_|refine wka ?_|refine wk ?_|exact wkc|intro hc|refine wk2 ?_ ?_|refine wv h1 ?_|refine wv h2 ?_|fail)
   all_goals first
    | exact wkr
    | (exfalso;omega)
 ·rw[if_pos h3]at hz
  subst hz
  generalize lateP p node=r at*
  rw[hec]at*
  refine Sound.of tabOk Tryz.func14 (by kernel_rfl) rfl rfl ?_
  repeat' (first|refine wkt ?_|refine wka ?_|refine wk ?_|exact wkc|intro hc|refine wk2 ?_ ?_|refine wv h1 ?_|fail)
  all_goals first
   | exact wkr
   | (exfalso;omega)
abbrev vT' (c:UInt8):T:=.ag [T.i 2,T.i 0,T.i 0,T.i 0,T.s [c],.sl 6 []]
abbrev prT (a:T):T:=.ag [T.i 5,T.i 0,T.i 0,T.i 0,T.s [],.sl 6 [a]]
abbrev arT (a b:T):T:=.ag [T.i 6,T.i 0,T.i 0,T.i 0,T.s [],.sl 6 [a,b]]
theorem var13_sound(s:Str):Pure Tryz.prog 23 [.s s] (.t (.ag [T.i 2,T.i 0,T.i 0,T.i 0,T.s s,.sl 6 []])):=by
 refine Sound.of tabOk Tryz.func23 (by kernel_rfl) rfl rfl ?_
 repeat' (first|refine wkt ?_|refine wk ?_|exact wkc|intro hc|refine wk2 ?_ ?_|fail|fail)
 refine RetK.pure rfl (Le.treeS rfl ?_) rfl
 repeat' (first|exact trivial|exact TLs.refl _|exact TLs.nil _|refine TLs.agL ?_|refine TLs.slL ?_|refine And.intro ?_ ?_|fail)
theorem pre13_sound(c:List T)(hc:c.length=6):Pure Tryz.prog 18 [.t (.ag c)] (.t (prT (.ag c))):=by
 match c,hc with
 | [c1,c2,c3,c4,c5,c6],_=>
 refine Sound.of tabOk Tryz.func18 (by kernel_rfl) rfl rfl ?_
 repeat' (first|refine wkt ?_|refine wk ?_|exact wkc|intro hc|refine wk2 ?_ ?_|fail|fail)
 exact wkr
theorem arrow13_sound(c d:List T)(hc:c.length=6)(hd:d.length=6):Pure Tryz.prog 17 [.t (.ag c),.t (.ag d)] (.t (arT (.ag c) (.ag d))):=by
 match c,hc,d,hd with
 | [c1,c2,c3,c4,c5,c6],_,[d1,d2,d3,d4,d5,d6],_=>
 refine Sound.of tabOk Tryz.func17 (by kernel_rfl) rfl rfl ?_
 repeat' (first|refine wkt ?_|refine wk ?_|exact wkc|intro hc|refine wk2 ?_ ?_|fail|fail)
 exact wkr
abbrev oneT (c:List T):T:=.ag [.sl 2 [],.sl 8 [.ag [T.s [102],.sl 3 [.ag [T.s [97],T.i 2,.sl 3 []]],.sl 3 [.ag [T.s [120],T.i 2,.sl 3 []]],.sl 3 [],.sl 7 [.ag (.sl 1 [T.s [120]]::c)],.sl 1 [],.sl 6 [],.sl 6 []]]]
theorem one13_sound(c:List T)(hc:c.length=6):Pure Tryz.prog 24 [.t (.ag c)] (.t (oneT c)):=by
 match c,hc with
 | [c1,c2,c3,c4,c5,c6],_=>
 refine Sound.of tabOk Tryz.func24 (by kernel_rfl) rfl rfl ?_
 repeat' (first|refine wkt ?_|refine wk ?_|exact wkc|intro hc|refine wk2 ?_ ?_|fail|fail)
 refine RetK.pure rfl (Le.treeS rfl ?_) rfl
 repeat' (first|exact trivial|exact TLs.refl _|exact TLs.nil _|refine TLs.agL ?_|refine TLs.slL ?_|refine And.intro ?_ ?_|fail)
theorem oneP_T(e:Ex):T.ag (progC (oneP e))=oneT (exC e):=by
 simp[progC,oneP,nodesT,nodT,oneN,equT,declT,onT,i64]
theorem exT_pre(e:Ex):exT (preE e)=prT (exT e):=by rw[exT_eq];rfl
theorem exT_arr(a b:Ex):exT (arrE a b)=arT (exT a) (exT b):=by rw[exT_eq];rfl
theorem exT_kA:exT kA=vT' 97:=by rw[exT_eq];rfl
theorem exT_xV:exT xV=vT' 120:=by rw[exT_eq];rfl
theorem exC_of{e:Ex}{c:List T}(h:exT e= .ag c):exC e=c:=by rw[exT_eq]at h;exact T.ag.inj h
theorem axT0:exT (ax 0)=prT (vT' 97):=(exT_pre kA).trans (by rw[exT_kA])
theorem axT1:exT (ax 1)=prT (prT (vT' 97)):=(exT_pre (preE kA)).trans (by rw[exT_pre,exT_kA])
theorem axT2:exT (ax 2)=arT (vT' 97) (prT (vT' 97)):=(exT_arr kA (preE kA)).trans (by rw[exT_pre,exT_kA])
theorem axP0:T.ag (progC (oneP (ax 0)))=oneT [T.i 5,T.i 0,T.i 0,T.i 0,T.s [],.sl 6 [vT' 97]]:=by rw[oneP_T,exC_of axT0]
theorem axP1:T.ag (progC (oneP (ax 1)))=oneT [T.i 5,T.i 0,T.i 0,T.i 0,T.s [],.sl 6 [prT (vT' 97)]]:=by rw[oneP_T,exC_of axT1]
theorem axP2:T.ag (progC (oneP (ax 2)))=oneT [T.i 6,T.i 0,T.i 0,T.i 0,T.s [],.sl 6 [vT' 97,prT (vT' 97)]]:=by rw[oneP_T,exC_of axT2]
theorem axW0:(T.ag (progC (oneP (ax 0)))).w≤100000000:=by rw[axP0];simp[w_ag,w_sl,T.w];decide +kernel
theorem axW1:(T.ag (progC (oneP (ax 1)))).w≤100000000:=by rw[axP1];simp[w_ag,w_sl,T.w];decide +kernel
theorem axW2:(T.ag (progC (oneP (ax 2)))).w≤100000000:=by rw[axP2];simp[w_ag,w_sl,T.w];decide +kernel
theorem smallV(s:Str)(h:s.length≤1000000000):wEx (.mk (i64 2) (i64 0) (i64 0) (i64 0) s [])≤1000000000/\∀x∈flat (.mk (i64 2) (i64 0) (i64 0) (i64 0) s []),x.name.length≤1000000000:=by
 refine⟨by rw[wEx_leaf];decide,fun x hx=>?_⟩
 rw[flat_leaf]at hx
 simp at hx;subst hx;exact h
theorem smallA:wEx (arrE kA xV)≤1000000000/\∀x∈flat (arrE kA xV),x.name.length≤1000000000:=by
 refine⟨by rw[show wEx (arrE kA xV)=3 from wEx_two _ _ _ _ _ _ _ _ _ _ _ _ _ _ _];decide,fun x hx=>?_⟩
 rw[show flat (arrE kA xV)=_ from flat_two _ _ _ _ _ _ _ _ _ _ _ _ _ _ _]at hx
 simp at hx
 rcases hx with rfl|rfl|rfl <;> decide
end Go.Proofs.YtcbhlhmebbkgnaaGreat
