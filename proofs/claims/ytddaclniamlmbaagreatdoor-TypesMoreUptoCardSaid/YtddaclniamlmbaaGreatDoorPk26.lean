import Derived.Test.YtddaclniamlmbaaGreatDoorPk7
import Derived.Test.YtddaclniamlmbaaGreatDoorPk13
import Derived.Test.YtddaclniamlmbaaGreatDoorPk14
import Derived.Test.YtddaclniamlmbaaGreatDoorPk17
import Derived.Test.YtddaclniamlmbaaGreatDoorPk18
import Derived.Test.YtddaclniamlmbaaGreatDoorPk24
import Derived.Test.YtddaclniamlmbaaGreatDoorPk25
set_option linter.unusedSimpArgs false
set_option linter.unusedVariables false
namespace Go.TL
open Go
def WeakK(K:TK):TK:=fun e env H=>∃env1:Env,(∀i v,env1.look i=some v->∃u,env.look i=some u/\Le u v)/\K e env1 H
section rules
variable {P:Program}{n:Nat}{env:Env}{H:Heap}{K:TK}
theorem WeakK.done{e:TExit}(h:K e env H):WeakK K e env H:=⟨env,fun _ v hv=>⟨v,hv,Le.refl v⟩,h⟩
theorem WeakK.own{e:TExit}(i:Nat){sz id:Nat}{es:List T}(hi:env.look i=some (.sl sz es id))(h:K e ((i,.t (.sl sz es))::env) H):WeakK K e env H:=by
 refine⟨_,fun j v hv=>?_,h⟩
 by_cases hj:i=j
 ·subst hj
  rw[Env.look_cons_same]at hv
  cases hv
  exact⟨_,hi,Le.own _ _ _⟩
 ·rw[Env.look_cons_other _ _ hj]at hv
  exact⟨v,hv,Le.refl v⟩
theorem WeakK.ret(h:K .ret env H):WeakK K .ret env H:=WeakK.done h
theorem WeakK.exit{i:Nat}(h:K (.exit i) env H):WeakK K (.exit i) env H:=WeakK.done h
variable {all:Array Oper}{rest:List Oper}{tab:Tab}{d:Nat}{ty:TypeId}{pos:String}{aft:Array Edge}
theorem TO.append0(hT:TabOk P tab){t t' e:TypeId}{i i' ie:TyI}{sz id:Nat}{ys:List T}{x y:Operand}{vy:SV}{H':Heap}(hd:Nat.ble (d+1) n=true)(ht:tab.get t=some i)(hk:i.k= .slice e)(ht':tab.get t'=some i')(hk':i'.k= .slice e)
  (he:tab.get e=some ie)(hs:ie.size=sz)(hpos:Nat.ble 1 sz=true)(hx:env.val x=some (.sl sz [] id))(hH:H[id]?=some (.tail 0))(hy:env.val y=some vy)(hvy:vy.elems sz=some ys)
  (hby:Nat.ble ie.bytes 4096=true)(hb1:ys.length≤10000000000)(hH':H.set id (.tail ys.length)=H')
  (k:TO false P n all rest ((d,.sl sz ys id)::env) H' K):TO false P n all (⟨some d,.call { callee:=.builtin .append,args:=#[x,y],argTypes:=#[t,t'] },ty,pos,aft,none⟩::rest) env H K:=
 TO.appendB (es:=[]) hT hd ht hk ht' hk' he hs hpos hx hH hy hvy hby (by simpa using hb1) (by rw[<-hH'];simp) k
end rules
section rules
variable {P:Program}{n:Nat}{env:Env}{H:Heap}{K:TK}{tab:Tab}
theorem append_runM(hT:TabOk P tab){m:M}(hm:HRel m){t t' e:TypeId}{i i' ie:TyI}{sz id:Nat}{ys:List T}{x y:Value}{ty:TypeId}(ht:tab.get t=some i)(hk:i.k= .slice e)(ht':tab.get t'=some i')(hk':i'.k= .slice e)(he:tab.get e=some ie)(hs:ie.size=sz)(hpos:0<sz)
  (hx:SRel m (.sl sz [] id) x)(hH:m.H[id]?=some (.tail 0))(hy:TRel m.A m.w (.sl sz ys) y)(h0:0<ys.length)(hb:ys.length*ie.bytes≤70368744177664)(hb1:ys.length≤70368744177664)(hby:ie.bytes≤65536):
  ∃z m',(Builtin.append_ #[t,t'] ty #[x,y]).run P m.w= .ok z m'.w/\Step m m'/\HRel m'/\m'.H=m.H.set id (.cells ((ys.map T.cells).flatten.map .t))/\SRel m' (.ms sz id 0 ys.length) z:=by
 cases hx with
 | sl _ _ _ _ p hx hp ho=>
 obtain⟨_,ho2⟩:=ho _ (by rw[hH];rfl)
 obtain⟨ad,len,cap,rfl,hlc,hown⟩:=ho2 rfl
 have hlen:len=0:=by obtain⟨ad',cap',e⟩:=hx.slice_inv;cases e;rfl
 subst hlen
 obtain⟨ad2,cap2,rfl⟩:=hy.slice_inv
 obtain⟨g,hg,g1,g2,g3⟩:=firstCells_run (P:=P) hy hpos
 obtain⟨f,hf,_,_,_⟩:=firstCells_run (P:=P) hx hpos
 obtain⟨ti,hti,hti1,hti2⟩:=(hT e ie he).info
 obtain⟨z,hz1,hz2,_,_⟩:=(hT e ie he).zero
 have hzz:=(zero_rel (A:=m.A) (w:=m.w) _ _ hz2)
 have hzl:z.cells.size=sz:=by
  have:=hzz.1
  have h2:=(hT e ie he).len
  simp at this;omega
 obtain⟨l1,l2⟩:=flat_cells ys (fun e he=>by obtain⟨q,hq⟩:=List.getElem?_of_mem he;exact g2 q e hq)
 have hlc2:((ys.map T.cells).flatten.map SV.t).length=ys.length*sz:=by rw[List.length_map,l1]
 have hval:∀q,q<ys.length*sz->∀c,((ys.map T.cells).flatten.map SV.t)[q]?=some c->∃t,c= .t t/\TRel m.A m.w t (g q):=by
  intro q hq c hc
  have hj:q % sz<sz:=Nat.mod_lt _ hpos
  have hqs:q=q / sz*sz+q % sz:=by rw[Nat.mul_comm];exact(Nat.div_add_mod q sz).symm
  have hi:q / sz<ys.length:=Nat.div_lt_of_lt_mul (by rw[Nat.mul_comm];exact hq)
  have hcl:=g2 _ _ (List.getElem?_eq_getElem hi)
  have hcc:ys[q / sz].cells[q % sz]?=some (ys[q / sz].cells[q % sz]'(by omega)):=List.getElem?_eq_getElem _
  have h3:=l2 _ _ _ _ (List.getElem?_eq_getElem hi) hcc
  rw[<-hqs]at h3
  rw[List.getElem?_map,h3]at hc
  cases hc
  refine⟨_,rfl,?_⟩
  have:=g3 _ _ _ _ (List.getElem?_eq_getElem hi) hcc
  rw[<-hqs]at this
  exact this
 by_cases hfit:ys.length≤cap
 ·have hrun:(Builtin.append_ #[t,t'] ty #[.slice ad 0 cap,.slice ad2 ys.length cap2]).run P m.w=
    (match ad with
      | none=>.ok (.slice none ys.length cap) m.w
      | some a=>((storeCells (a.add (0*sz)) ((List.range (ys.length*sz)).map g)).run P m.w).andThen fun _ w'=>.ok (.slice (some a) ys.length cap) w'):=by
   simp[Builtin.append_,underlying,(hT t i ht).slice hk,(hT t' i' ht').slice hk',(hT e ie he).sizeOf,hs,Builtin.lenOf,hfit,hg m.w rfl]
   cases ad <;> simp
  cases ad with
  | none=>
    obtain⟨h1,h2,h3⟩:=hown
    omega
  | some a=>
    obtain⟨h1,h2,h3,h4⟩:=hown
    obtain⟨ab,ao,asp⟩:=a
    simp only[Nat.zero_mul,Nat.add_zero]at h1 h2 h3 h4
    subst h4;subst h1
    have hfree:=hm.blk id p _ hp hH
    have hmul:ys.length*sz≤cap*sz:=Nat.mul_le_mul_right _ hfit
    have hst:=run_storeCells_cells (P:=P) p.b ao ((List.range (ys.length*sz)).map g) 0 m.w (fun q hq=>(hfree _ (by omega) (by simp at hq;omega)).1) (fun q hq=>(hfree _ (by omega) (by simp at hq;omega)).2)
     (fun v hv=>by simp at hv;obtain⟨q,hq,rfl⟩:=hv;exact g1 q hq)
    obtain⟨e1,e2,e3,e4,e5,e6⟩:=setCells_rest p.b ((List.range (ys.length*sz)).map g) ao m.w
    have hout:∀b o,¬(b=p.b/\ao≤o/\o<ao+ys.length*sz)->(m.w.setCells p.b ao ((List.range (ys.length*sz)).map g)).cell? ⟨b,o,none⟩=m.w.cell? ⟨b,o,none⟩:=by
     intro b o hn
     exact World.cell?_setCells_out _ _ _ _ _ fun q1 _=>by simp only[List.length_map,List.length_range]at *;omega
    have hin:∀q,q<ys.length*sz->(m.w.setCells p.b ao ((List.range (ys.length*sz)).map g)).cell? ⟨p.b,ao+q,none⟩=some (g q):=by
     intro q hq
     have:=World.cell?_setCells_in p.b ((List.range (ys.length*sz)).map g) ao m.w (fun j hj=>(hfree _ (by omega) (by simp at hj;omega)).1) q (by simpa using hq)
     simpa using this
    obtain⟨s,hm'⟩:=mv_step hm (k1:=.cells ((ys.map T.cells).flatten.map .t)) (p':=p) (A':=m.A) (w':=m.w.setCells p.b ao ((List.range (ys.length*sz)).map g)) hp hH rfl e1 e2 e3 (by rw[e4];exact Nat.le_refl _)
     (fun b o _ hn=>hout b o (by omega)) (fun b o _ _ _=>World.frozen?_setCells _ _ _ _ _)
     (fun b _ hb=>by
       rcases hb with hb|hb
       ·exact e5 b hb
       ·have:ys.length*sz=0:=by omega
        rw[this];rfl)
     (fun b o _ h=>by
       by_cases hb:b=p.b
       ·subst hb;rw[e6];exact h
       ·rw[hout b o (by omega)];exact h)
     (fun b s hs=>by rw[setCells_shape];exact hs) (fun _ _ h=>h) (fun b o h=>.inl h)
     (fun _=>.inl ⟨rfl,Nat.le_refl _,Nat.le_refl _⟩) (fun _ b o h hna=>absurd h hna)
     (fun o q1 q2=>(hfree o q1 q2).1) (fun n' hn'=>by cases hn') (fun s=>by
       refine⟨by rw[hlc2];omega,fun o q1 q2=>?_,fun j c hc=>?_⟩
       ·have:=hfree o q1 q2
        unfold Free at this⊢
        refine⟨?_,by show(m.w.setCells p.b ao _).frozen? _=_;rw[World.frozen?_setCells];exact this.2⟩
        show((m.w.setCells p.b ao _).cell? _).isSome=true
        rw[e6];exact this.1
       ·have hj:=(List.getElem?_eq_some_iff.1 hc).1
        rw[hlc2]at hj
        obtain⟨t,rfl,ht⟩:=hval j hj c hc
        refine⟨g j,?_,g1 j hj,.t _ _ (s.trel hm ht)⟩
        show(m.w.setCells p.b ao _).cell? _=_
        rw[show p.lo=ao by omega]
        exact hin j hj)
    refine⟨.slice (some ⟨p.b,ao,none⟩) ys.length cap,_,?_,s,hm',rfl,?_⟩
    ·rw[hrun]
     simp only[addr_add,Nat.zero_mul,Nat.add_zero]
     rw[hst];rfl
    ·have:=SRel.ms (m:=⟨m.A,m.β.set id p,m.H.set id (.cells ((ys.map T.cells).flatten.map .t)),m.w.setCells p.b ao ((List.range (ys.length*sz)).map g)⟩) sz id 0 ys.length cap p (by show(m.β.set id p)[id]?=_;rw[List.getElem?_set_self (List.getElem?_eq_some_iff.1 hp).1]) (fun n' hn'=>by
      have h5:tlOf (m.H.set id (.cells ((ys.map T.cells).flatten.map .t)))[id]?=some n':=hn'
      rw[List.getElem?_set_self (List.getElem?_eq_some_iff.1 hH).1]at h5
      cases h5) hfit (by omega)
     rw[show p.lo+0=ao from by omega]at this
     exact this
 ·have hbound:¬Builtin.nextslicecap ys.length cap*ti.bytes > 2 ^ 48:=by
   have h1:=nextslicecap_le ys.length cap (by omega)
   have h2:Builtin.nextslicecap ys.length cap≤2*ys.length+512:=by omega
   have h3:=Nat.mul_le_mul_right ti.bytes h2
   rw[Nat.add_mul,Nat.mul_assoc,hti2]at h3
   rw[hti2];omega
  have hmax:¬(((ys.length:Nat):Int) > IntKind.i64.max/\(False\/ti.bytes=0)):=by
   intro h
   have:(IntKind.i64.max:Int)=9223372036854775807:=by decide
   omega
  obtain⟨nc,hnc⟩:∃nc,nc=(Question.appendCap ys.length cap e).cut (m.w.tape m.w.drawn (.appendCap ys.length cap e)):=⟨_,rfl⟩
  have hnc2:ys.length≤nc:=by rw[hnc];simp[Question.cut]
  obtain⟨zr,hzr⟩:∃zr,zr=Builtin.zeroCells z.cells (nc-ys.length):=⟨_,rfl⟩
  have hzrl:zr.size=(nc-ys.length)*sz:=by rw[hzr];simp[Builtin.zeroCells,hzl]
  obtain⟨cs,hcs⟩:∃cs:Array Value,cs=((List.range (ys.length*sz)).map g).toArray++zr:=⟨_,rfl⟩
  have hrun:(Builtin.append_ #[t,t'] ty #[.slice ad 0 cap,.slice ad2 ys.length cap2]).run P m.w=
    .ok (.slice (some ⟨m.w.heap.size,0,none⟩) ys.length nc) (({ m.w with drawn:=m.w.drawn+1 }:World).alloc (.cells cs e)):=by
   have hfo:(Question.appendCap ys.length cap e).forced=false:=rfl
   have hadd:(Builtin.append_ #[t,t'] ty #[.slice ad 0 cap,.slice ad2 ys.length cap2]).run P m.w=(((do
     let old <-Builtin.firstCells sz ([]:List T).length (.slice ad 0 cap)
     let new <-Builtin.firstCells sz ys.length (.slice ad2 ys.length cap2)
     pure (.slice (some (<-newRow e (old++new++zr))) ys.length nc)):Sem Value).run P { m.w with drawn:=m.w.drawn+1 }):=by
    simp only[Builtin.append_]
    simp[underlying,(hT t i ht).slice hk,(hT t' i' ht').slice hk',(hT e ie he).sizeOf,hs,Builtin.lenOf,hfit,typeInfo,hti,hbound,hmax,hfo,<-hnc,hz1,<-hzr]
    intro h;exfalso;omega
   rw[hadd]
   have hf2:=hf m.w.drew rfl
   simp only[List.length_nil]at hf2
   simp[hf2,hg m.w.drew rfl,newRow]
   rw[hcs]
  have hcsl:cs.size=nc*sz:=by
   have h1:ys.length*sz+(nc-ys.length)*sz=nc*sz:=by rw[<-Nat.add_mul];congr 1;omega
   rw[hcs];simp[hzrl];omega
  have hmul:ys.length*sz≤nc*sz:=Nat.mul_le_mul_right _ hnc2
  have hcell:∀o,(m.w.drew.alloc (.cells cs e)).cell? ⟨m.w.heap.size,o,none⟩=cs[o]? :=fun o=>World.cell?_alloc_new (w:=m.w.drew) ..
  have hkeep:∀b,b<m.w.heap.size->(m.w.drew.alloc (.cells cs e)).heap[b]?=m.w.heap[b]? :=fun b hb=>RowKit.Below.heap_alloc m.w.drew _ _ hb
  have hsize:(m.w.drew.alloc (.cells cs e)).heap.size=m.w.heap.size+1:=by simp
  have hcg:∀q,q<ys.length*sz->cs[q]?=some (g q):=fun q hq=>by
   rw[hcs,Array.getElem?_append_left (by simpa using hq)];simp[hq]
  have hfree:=hm.blk id p _ hp hH
  obtain⟨s,hm'⟩:=mv_step hm (k1:=.cells ((ys.map T.cells).flatten.map .t)) (p':=⟨m.w.heap.size,0,nc*sz⟩) (A':=m.A) (w':=m.w.drew.alloc (.cells cs e)) hp hH rfl rfl rfl rfl (by rw[hsize];omega)
   (fun b o hb _=>cell_of_block (hkeep b hb)) (fun b o hb _ _=>frozen_of_block (hkeep b hb)) (fun b hb _=>hkeep b hb) (fun b o hb h=>by rw[cell_of_block (hkeep b hb)];exact h) (fun b s hs=>by rw[shape_of_block (hkeep b (shape_lt hs))];exact hs) (fun _ _ h=>h)
   (fun b o h=>.inl h)
   (fun _=>.inr (.inl (by rw[hsize];exact⟨Nat.le_refl _,Nat.lt_succ_self _⟩))) (fun _ b o h hna=>absurd h hna)
   (fun o q1 q2=>(hfree o q1 q2).1) (fun n' hn'=>by cases hn') (fun s=>by
     refine⟨by rw[hlc2];simpa using hmul,fun o q1 q2=>?_,fun j c hc=>?_⟩
     ·simp only at q1 q2
      refine⟨?_,World.frozen?_alloc_new (w:=m.w.drew) ..⟩
      show((m.w.drew.alloc (.cells cs e)).cell? ⟨m.w.heap.size,o,none⟩).isSome=true
      rw[hcell,Array.getElem?_eq_getElem (by omega)];rfl
     ·have hj:=(List.getElem?_eq_some_iff.1 hc).1
      rw[hlc2]at hj
      obtain⟨t,rfl,ht⟩:=hval j hj c hc
      refine⟨g j,?_,g1 j hj,.t _ _ (s.trel hm ht)⟩
      show(m.w.drew.alloc (.cells cs e)).cell? ⟨m.w.heap.size,0+j,none⟩=_
      rw[hcell,Nat.zero_add,hcg j hj])
  refine⟨.slice (some ⟨m.w.heap.size,0,none⟩) ys.length nc,_,hrun,s,hm',rfl,?_⟩
  exact SRel.ms sz id 0 ys.length nc ⟨m.w.heap.size,0,nc*sz⟩ (by show(m.β.set id _)[id]?=_;rw[List.getElem?_set_self (List.getElem?_eq_some_iff.1 hp).1]) (fun n' hn'=>by
    have h5:tlOf (m.H.set id (.cells ((ys.map T.cells).flatten.map .t)))[id]?=some n':=hn'
    rw[List.getElem?_set_self (List.getElem?_eq_some_iff.1 hH).1]at h5
    cases h5) hnc2 (by simp)
variable {all:Array Oper}{rest:List Oper}{d:Nat}{ty:TypeId}{pos:String}{aft:Array Edge}
theorem TO.append0M(hT:TabOk P tab){t t' e:TypeId}{i i' ie:TyI}{sz id:Nat}{ys:List T}{x y:Operand}{vy:SV}{H':Heap}(hd:Nat.ble (d+1) n=true)(ht:tab.get t=some i)(hk:i.k= .slice e)(ht':tab.get t'=some i')(hk':i'.k= .slice e)
  (he:tab.get e=some ie)(hs:ie.size=sz)(hpos:Nat.ble 1 sz=true)(hx:env.val x=some (.sl sz [] id))(hH:H[id]?=some (.tail 0))(hy:env.val y=some vy)(hvy:vy.elems sz=some ys)
  (hby:Nat.ble ie.bytes 4096=true)(h0:0<ys.length)(hb1:ys.length≤10000000000)(hH':H.set id (.cells ((ys.map T.cells).flatten.map .t))=H')
  (k:TO false P n all rest ((d,.ms sz id 0 ys.length)::env) H' K):TO false P n all (⟨some d,.call { callee:=.builtin .append,args:=#[x,y],argTypes:=#[t,t'] },ty,pos,aft,none⟩::rest) env H K:=
 TO.eff hd (fun m ac h1 h2 h3=>by
  have h4:=Nat.le_of_ble_eq_true hby
  have h5:ys.length*ie.bytes≤10000000000*4096:=Nat.mul_le_mul hb1 h4
  obtain⟨z,m',r1,s,hm',hHm,hr⟩:=append_runM (P:=P) hT h2 (ty:=ty) ht hk ht' hk' he hs (Nat.le_of_ble_eq_true hpos) (h3.val hx) (by rw[h1];exact hH) ((h3.val hy).elems hvy) h0 (by omega) (by omega) (by omega)
  exact⟨z,m',by simp[execOp,resolve,invoke,builtin,r1],s,hm',by rw[hHm,h1];exact hH',hr⟩) k
end rules
section rules
variable {P:Program}{all:Array Oper}
def PremH(P:Program)(n:Nat)(all:Array Oper)(full:Env)(G:List Heap):List Oper->List (SV×Bool)->List Heap->Prop
 | [],[],_=>True
 | o::l,(v,false)::t,hs=>(∀H∈G,∀env,TO false P n all [o] (pickE full (slotsOf all o)++env) H (NK (putE o.dst v (pickE full (slotsOf all o)++env)) H))/\PremH P n all full G l t hs
 | o::l,(v,true)::t,H1::H2::hs=>(∀env,TO false P n all [o] (pickE full (slotsOf all o)++env) H1 (NK (putE o.dst v (pickE full (slotsOf all o)++env)) H2))/\PremH P n all full G l t (H2::hs)
 | _,_,_=>False
theorem PremH.get{n:Nat}{full:Env}{G:List Heap}:∀ {l:List Oper} {t:List (SV×Bool)} {hs:List Heap},PremH P n all full G l t hs->l.length=t.length/\∀(i:Nat) o v b,l[i]?=some o->t[i]?=some (v,b)->
   (b=false->∀H∈G,∀env,TO false P n all [o] (pickE full (slotsOf all o)++env) H (NK (putE o.dst v (pickE full (slotsOf all o)++env)) H))/\
   (b=true->∃H1 H2,hs[effs t i]?=some H1/\hs[effs t i+1]?=some H2/\∀env,TO false P n all [o] (pickE full (slotsOf all o)++env) H1 (NK (putE o.dst v (pickE full (slotsOf all o)++env)) H2))
 | [],[],hs,_=>by simp
 | o::l,(v,false)::t,hs,h=>by
   obtain⟨h1,h2⟩:=h
   obtain⟨g1,g2⟩:=PremH.get h2
   refine⟨by simp[g1],fun i o' v' b' ho hv=>?_⟩
   cases i with
   | zero=>simp at ho hv;obtain⟨rfl,rfl⟩:=hv;subst ho;exact⟨fun _=>h1,fun e=>by cases e⟩
   | succ i=>
     have:=g2 i o' v' b' (by simpa using ho) (by simpa using hv)
     simpa [effs]using this
 | o::l,(v,true)::t,H1::H2::hs,h=>by
   obtain⟨h1,h2⟩:=h
   obtain⟨g1,g2⟩:=PremH.get h2
   refine⟨by simp[g1],fun i o' v' b' ho hv=>?_⟩
   cases i with
   | zero=>simp at ho hv;obtain⟨rfl,rfl⟩:=hv;subst ho;exact⟨fun e=>by(cases e),fun _=>⟨H1,H2,rfl,rfl,h1⟩⟩
   | succ i=>
     have:=g2 i o' v' b' (by simpa using ho) (by simpa using hv)
     have e:effs ((v,true)::t) (i+1)=effs t i+1:=by simp[effs]
     rw[e]
     simpa using this
 | o::l,(v,true)::t,[],h=>by exact h.elim
 | o::l,(v,true)::t,[_],h=>by exact h.elim
 | [],_::_,_,h=>by exact h.elim
 | _::_,[],_,h=>by exact h.elim
theorem TR.regionH{n:Nat}{env0 envF:Env}{H0 HF:Heap}{K:TK}{id':Nat}{l:List Oper}(t:List (SV×Bool))(hs:List Heap)(hm:P.follows .mixedOrders=true)(hB:mixB l.toArray (t.map (·.2))=true)(h0:hs[0]?=some H0)
  (hp:PremH P n l.toArray (fullE l.toArray (t.map (·.1)) env0) hs l t hs)(hF:hs[((t.map (·.2)).filter id).length]?=some HF)(hE:forceL (fullE l.toArray (t.map (·.1)) env0)=some envF)(hK:K .normal envF HF):
  TR P n (.region id' l.toArray true) env0 H0 K:=by
 obtain⟨g1,g2⟩:=hp.get
 intro φ m a h1 h2 h3 h4
 have hef:∀i,((t.map (·.2)).take i |>.filter id).length=effs t i:=by
  intro i
  unfold effs
  rw[<-List.map_take,List.filter_map,List.length_map]
  rfl
 have s0:Step m ⟨m.A,m.β,m.H,{ m.w with drawn:=m.w.drawn+1 }⟩/\HRel ⟨m.A,m.β,m.H,{ m.w with drawn:=m.w.drawn+1 }⟩:=keep_ok h2 ⟨rfl,rfl,rfl,Nat.le_refl _,fun _ _=>rfl⟩
 refine wpr_of_in (wpIn_region_any hm ?_)
 refine any_mixW [] (G:=fun _=>True) (vs:=t.map (·.1)) (fl:=t.map (·.2)) (hs:=hs) (m0:=m) (fun t ht=>by cases ht) hB (by simp[g1]) (by simp[g1]) ?_ ?_ hF (fun _=>by rw[forceL_eq hE]at hK;exact hK) l.toArray.size (Array.replicate l.toArray.size false)
  ⟨m.A,m.β,m.H,{ m.w with drawn:=m.w.drawn+1 }⟩ a (by simp) ?_ ?_ ?_ s0.1 s0.2 ?_ (h4.step h2 s0.1)
 ·intro i o v ho hv hb c H hcH _ env
  obtain⟨⟨v',b⟩,hx,rfl⟩:∃x,t[i]?=some x/\x.1=v:=by simpa using hv
  have hb':b=false:=by
   rw[List.getD_eq_getElem?_getD,List.getElem?_map,hx]at hb
   simpa using hb
  exact((g2 i o v' b (by simpa using ho) hx).1 hb' H (List.mem_of_getElem? hcH) env).nkp trivial
 ·intro i o v ho hv hb
  obtain⟨⟨v',b⟩,hx,rfl⟩:∃x,t[i]?=some x/\x.1=v:=by simpa using hv
  have hb':b=true:=by
   rw[List.getD_eq_getElem?_getD,List.getElem?_map,hx]at hb
   simpa using hb
  have:=(g2 i o v' b (by simpa using ho) hx).2 hb'
  rw[hef]
  obtain⟨H1,H2,e1,e2,e3⟩:=this
  exact⟨H1,H2,e1,e2,fun env=>(e3 env).nkp trivial⟩
 ·intro i hi
  rw[Array.getElem?_replicate]at hi
  split at hi <;> cases hi
 ·unfold unl
  have:=List.length_filter_le (fun i=>(Array.replicate l.toArray.size false)[i]? == some false) (List.range l.toArray.size)
  simpa using this
 ·refine⟨0,fun i hi=>⟨fun h=>by omega,fun h=>?_⟩,Nat.zero_le _,by rw[h0];simp[h1],fun j h=>?_⟩
  all_goals
   rw[Array.getElem?_replicate]at h
   split at h <;> cases h
 ·have:envA l.toArray (t.map (·.1)) (fun i=>(Array.replicate l.toArray.size false).getD i false) (List.range l.toArray.size)=[]:=by
   have:∀x:List Nat,envA l.toArray (t.map (·.1)) (fun i=>(Array.replicate l.toArray.size false).getD i false) x=[]:=by
    intro x
    induction x with
    | nil=>rfl
    | cons i x ih=>
      have:(Array.replicate l.toArray.size false).getD i false=false:=by
       rw[Array.getD_eq_getD_getElem?,Array.getElem?_replicate]
       split <;> rfl
      simp only[envA,this,ih]
   exact this _
  rw[this,List.nil_append]
  exact h3.step h2 s0.1
end rules
end Go.TL
namespace Go.Proofs.YtddaclniamlmbaaGreatDoor
open Go Go.TL
attribute [local irreducible] TR TO Then InBlock RetK Sound LoopK Kf GG ThenL
section rules
variable {n:Nat}{env env':Env}{H H':Heap}{K:TK}{all:Array Oper}{rest l:List Oper}{d:Nat}{ty:TypeId}{pos:String}{aft:Array Edge}{q:Bool}{st:St}{fr fr':List Fr1}
theorem goA(h:run1 tab n true 300 ⟨.ops q all l,env,H,fr⟩=some ⟨st,env',H',fr'⟩)(hk:GG Tryz.prog n K ⟨st,env',H',fr'⟩):TO q Tryz.prog n all l env H (Kf Tryz.prog n fr K):=TO.go tabOk 300 true h hk
theorem goB(h:run1 tab n true 300 ⟨.ops q all l,env,H,[]⟩=some ⟨st,env',H',fr'⟩)(hk:GG Tryz.prog n K ⟨st,env',H',fr'⟩):TO q Tryz.prog n all l env H K:=TO.go0 tabOk 300 true h hk
theorem goC{e:TExit}(h:run1 tab n true 300 ⟨.ex e,env,H,fr⟩=some ⟨st,env',H',fr'⟩)(hk:GG Tryz.prog n K ⟨st,env',H',fr'⟩):Kf Tryz.prog n fr K e env H:=TExit.go tabOk 300 true h hk
theorem callVm{cargs:List SV}{v:SV}{f:Operand}{fid:FuncId}{caps:List SV}{args:Array Operand}{ts:Array TypeId}{vs:List SV}(hs:Pure Tryz.prog fid cargs v)(hd:Nat.ble (d+1) n=true)
  (hf:env.val f=some (.fn fid caps))(ha:env.vals args.toList=some vs)(hl:Les (vs++caps) cargs)(hu:unders 0 cargs=true)(hv:v.under 0=true)
  (k:TO false Tryz.prog n all rest ((d,v)::env) H K):
  TO false Tryz.prog n all (⟨some d,.call { callee:=.value f,args:=args,argTypes:=ts },ty,pos,aft,none⟩::rest) env H K:=TO.callV hs hd hf ha hl hu hv k
end rules
theorem wma{G Q:Prop}(k:Q)(h:Hold Q->G:=by
  first
  | (intro k;apply goA;exact rfl;(first|apply Go.TL.GG.to|apply Go.TL.GG.stop|apply Go.TL.GG.ex);exact k.p)
  | (intro k;apply goC;exact rfl;(first|apply Go.TL.GG.to|apply Go.TL.GG.stop|apply Go.TL.GG.ex);exact k.p)
  | (intro k;apply goB;exact rfl;(first|apply Go.TL.GG.to|apply Go.TL.GG.stop|apply Go.TL.GG.ex);exact k.p)):G:=h ⟨k⟩
theorem wmk{G Q:Prop}(k:Q)(h:Hold Q->G:=by
  first
  | (intro k;apply Go.TL.TO.want;exact rfl;exact k.p)
  | (intro k;apply Go.TL.TO.add;exact rfl;exact rfl;exact rfl;(first|omega|(simp only[List.length_append,List.length_cons,List.length_nil];omega));(first|omega|(simp only[List.length_append,List.length_cons,List.length_nil];omega));exact k.p)
  | (intro k;apply Go.TL.TO.cat;exact rfl;exact rfl;exact rfl;(first|omega|(simp only[List.length_append,List.length_cons,List.length_nil];omega));exact k.p)):G:=h ⟨k⟩
theorem wmv{G Q:Prop}{f:FuncId}{cargs:List SV}{v:SV}(hs:Pure Tryz.prog f cargs v)(k:Q)(h:Pure Tryz.prog f cargs v->Hold Q->G:=by
  intro hs k
  apply callVm;exact hs;exact rfl;exact rfl;exact rfl;(repeat' (first|exact trivial|exact Go.TL.Le.refl _|refine And.intro ?_ ?_|exact Go.TL.Le.any _|exact Go.TL.Le.nil _|exact Go.TL.Le.own _ _ _|refine Go.TL.Le.tree rfl ?_|exact Go.TL.TLe.refl _|exact Go.TL.TLe.nil _|refine Go.TL.TLe.ags ?_|fail));exact rfl;exact rfl;exact k.p):G:=h hs ⟨k⟩
theorem memFI{α:Type}{a b x:α}(h:x∈[a,b]):x=a\/x=b:=by simpa using h
theorem enum_in{u:En}(h:(enT u).w≤100000000):ShortS u.name/\(∀s∈u.tags,ShortS s)/\u.tags.length≤100000000:=by
 rw[show enT u= .ag [.s u.name,.sl 1 (u.tags.map T.s)] from rfl,w_ag]at h
 simp only[List.map_cons,List.map_nil,List.sum_cons,List.sum_nil,w_s]at h
 refine⟨by show _≤_;omega,fun s hs=>?_,?_⟩
 ·have h2:=w_inM (f:=T.s) (sz:=1) hs
  rw[w_s]at h2
  show _≤_
  omega
 ·have h2:=w_lenM T.s 1 u.tags
  omega
theorem nod_name{n:Nod}(h:(nodT n).w≤100000000):ShortS n.name:=by
 rw[show nodT n= .ag (nodC n) from rfl,w_ag]at h
 simp only[nodC,List.map_cons,List.map_nil,List.sum_cons,List.sum_nil,w_s]at h
 show _≤_
 omega
theorem vars_w{n:Nod}(h:(nodT n).w≤90000000):SmallN n/\(∀d∈varsL n,d.clock.length≤100000000)/\(declsT (varsL n)).w≤100000000:=by
 have hw:=w_nod n
 have e:∀l:List Decl,(declsT l).w=1+((l.map declT).map T.w).sum:=fun l=>w_sl 3 _
 have h3:(declsT (varsL n)).w≤(declsT n.ins).w+(declsT n.outs).w+(declsT n.locals).w:=by
  rw[e,e,e,e]
  simp only[varsL,List.append_nil,List.map_append,List.sum_append]
  omega
 have h4:(declsT (varsL n)).w≤100000000:=by omega
 have l1:=w_lenM declT 3 n.ins
 have l2:=w_lenM declT 3 n.outs
 have l3:=w_lenM declT 3 n.locals
 have q:∀l:List Decl,(declsT l).w=(T.sl 3 (l.map declT)).w:=fun _=>rfl
 have q1:=q n.ins
 have q2:=q n.outs
 have q3:=q n.locals
 exact⟨⟨by omega,by omega,by omega⟩,fun d hd=>(shortD_of h4 d hd).few,h4⟩
theorem ok_node{a:List Str}{n:Nod}(ha:SetOk a)(h:(nodT n).w≤90000000):SetOk (nodeL 100000000 a n):=by
 have hw:=w_nod n
 have h1:=ok_gather (ha.ins (nod_name (Nat.le_trans h (by decide)))) (shortD_of (vars_w h).2.2)
 have h2:=ok_states 100000000 _ n.eqs n.autos h1 (by omega) (by omega)
 have h3:=ok_exprs 100000000 _ n.eqs n.autos h2 (by omega) (by omega)
 refine ok_fold h3 fun a e he ha=>ok_expr ha (shortE_of ?_)
 rcases List.mem_append.1 he with he|he
 ·have:=w_inM (f:=exT) (sz:=6) he;omega
 ·have:=w_inM (f:=exT) (sz:=6) he;omega
set_option maxHeartbeats 8000000 in
theorem known_sound (p:Prog) (hw:(T.ag (progC p)).w≤90000000):Sound Tryz.prog 35 [.t (.ag (progC p))] [] (fun r H'=>r= .ret (.mp 0)/\H'=[setB (knownL 100000000 p)]):=by
 have hm1:(p.enums.map enT).length=p.enums.length:=List.length_map _
 have hm2:(p.nodes.map nodT).length=p.nodes.length:=List.length_map _
 have hww:=hw
 rw[w_ag]at hww
 simp only[progC,nodesT,List.map_cons,List.map_nil,List.sum_cons,List.sum_nil]at hww
 have hl1:=w_lenM enT 2 p.enums
 have hl2:=w_lenM nodT 8 p.nodes
 have hen:∀u∈p.enums,(enT u).w≤90000000:=fun u hu=>by have:=w_inM (f:=enT) (sz:=2) hu;omega
 have hno:∀n∈p.nodes,(nodT n).w≤90000000:=fun u hu=>by have:=w_inM (f:=nodT) (sz:=8) hu;omega
 have hb1:p.enums.length≤100000000:=by have:(T.sl 2 (p.enums.map enT)).w=(T.sl 2 (p.enums.map enT)).w:=rfl;omega
 have hb2:p.nodes.length≤100000000:=by omega
 have hokE:=ok_take (f:=enumL) (l:=p.enums) SetOk.nil (fun a u hu ha=>ok_fold (ha.ins (enum_in (Nat.le_trans (hen u hu) (by decide))).1) fun a s hs ha=>ha.ins ((enum_in (Nat.le_trans (hen u hu) (by decide))).2.1 s hs))
 have hok1:=hokE p.enums.length
 rw[List.take_length]at hok1
 have hokN:=ok_take (f:=nodeL 100000000) (l:=p.nodes) hok1 (fun a n hn ha=>ok_node ha (hno n hn))
 unfold knownL progC
 clear hw hww
 refine so Tryz.func35 ?_
 repeat' (first|refine wkt ?_|(apply TO.makeMap 9 4;exact rfl)|(apply TO.alloc tabOk;exact rfl;exact rfl;exact rfl)|refine LoopK.exit ?_|exact wkc|intro hc|refine wk2 ?_ ?_|fail)
 refine TR.loopN p.enums.length (fun _=>True) (fun j=>[(1,.cp [.sl 2 (p.enums.map enT),nodesT p.nodes] 0),(3,.ref 1 0),(12,.t (.sl 2 (p.enums.map enT))),(13,.i p.enums.length),(14,.i j)]) (fun j=>knH ((p.enums.take j).foldl enumL [])) trivial (fun j hlt _=>?_) (fun _=>?_) ⟨rfl,rfl,rfl,by rw[<-hm1];rfl,rfl,trivial⟩ rfl
 ·have hx:(p.enums.map enT)[j]?=some (.ag [.s p.enums[j].name,.sl 1 (p.enums[j].tags.map T.s)]):=at_map enT hlt
  have hn:=foldl_at enumL [] hlt
  have hk:=hokE j
  obtain⟨g1,g2,g3⟩:=enum_in (Nat.le_trans (hen _ (List.getElem_mem hlt)) (by decide))
  generalize (p.enums.take j).foldl enumL []=acc at*
  have hfe:enumL acc p.enums[j]=p.enums[j].tags.foldl ins (ins acc p.enums[j].name):=rfl
  rw[hfe]at hn
  have hok2:=ok_take (f:=ins) (l:=p.enums[j].tags) (hk.ins g1) (fun a s hs ha=>ha.ins (g2 s hs))
  have hmc:(p.enums[j].tags.map T.s).length=p.enums[j].tags.length:=List.length_map _
  clear hfe hokE hokN hen hno
  generalize p.enums[j]=u at*
  repeat' (first|refine wkt ?_|(apply TO.indexAddr tabOk;(iterate 8 exact rfl);omega;exact hx)|(apply TO.setPut;exact rfl;exact rfl;exact rfl;exact rfl;exact hk;exact g1;exact rfl)|refine LoopK.exit ?_|exact wkc|intro hc|refine wk2 ?_ ?_|fail)
  refine TR.loopN u.tags.length (fun _=>True) (fun k=>[(1,.cp [.sl 2 (p.enums.map enT),nodesT p.nodes] 0),(3,.ref 1 0),(12,.t (.sl 2 (p.enums.map enT))),(13,.i p.enums.length),(14,.i j),(22,.t (.sl 1 (u.tags.map T.s))),(23,.i u.tags.length),(24,.i k)]) (fun k=>knH ((u.tags.take k).foldl ins (ins acc u.name))) trivial (fun k hlk _=>?_) (fun _=>?_) ⟨rfl,rfl,rfl,rfl,rfl,rfl,by rw[<-hmc];rfl,rfl,trivial⟩ rfl
  ·have hy:=at_map T.s hlk
   have hn2:=foldl_at ins (ins acc u.name) hlk
   have hk2:=hok2 k
   have hs2:=g2 _ (List.getElem_mem hlk)
   generalize (u.tags.take k).foldl ins (ins acc u.name)=acc2 at*
   generalize u.tags[k]=s at*
   repeat' (first|refine wkt ?_|(apply TO.indexAddr tabOk;(iterate 8 exact rfl);omega;exact hy)|(apply TO.setPut;exact rfl;exact rfl;exact rfl;exact rfl;exact hk2;exact hs2;exact rfl)|refine LoopK.exit ?_|exact wkc|intro hc|refine wk2 ?_ ?_|refine wk ?_|fail)
   exact LoopK.nextN hlk trivial (by(try dsimp only);exact⟨rfl,rfl,rfl,rfl,rfl,rfl,rfl,rfl,trivial⟩) (by(try dsimp only);rw[hn2])
  ·rw[List.take_length,<-hn]
   repeat' (first|refine wkt ?_|refine LoopK.exit ?_|exact wkc|intro hc|refine wk2 ?_ ?_|refine wk ?_|fail)
   exact LoopK.nextN hlt trivial (by(try dsimp only);exact⟨rfl,rfl,rfl,rfl,rfl,trivial⟩) rfl
 rw[List.take_length]
 clear hokE
 generalize p.enums.foldl enumL []=a0 at*
 repeat' (first|refine wkt ?_|refine LoopK.exit ?_|exact wkc|intro hc|refine wk2 ?_ ?_|fail)
 refine TR.loopN p.nodes.length (fun _=>True) (fun j=>[(3,.ref 1 0),(33,.t (nodesT p.nodes)),(34,.i p.nodes.length),(35,.i j)]) (fun j=>knH ((p.nodes.take j).foldl (nodeL 100000000) a0)) trivial (fun j hlt _=>?_) (fun _=>?_) ⟨rfl,rfl,by rw[<-hm2];rfl,rfl,trivial⟩ rfl
 ·have hx:=at_nod hlt
  have hn:=foldl_at (nodeL 100000000) a0 hlt
  have hk:=hokN j
  have hwn:=hno _ (List.getElem_mem hlt)
  generalize (p.nodes.take j).foldl (nodeL 100000000) a0=acc at*
  have hnm:=nod_name (Nat.le_trans hwn (by decide))
  obtain⟨v1,v2,v3⟩:=vars_w hwn
  have c0:=vars_sound p.nodes[j] v1 v2
  have c1:=gather_sound (ins acc p.nodes[j].name) (hk.ins hnm) (varsL p.nodes[j]) v3
  have hk1:=ok_gather (hk.ins hnm) (shortD_of v3)
  have hws:=w_nod p.nodes[j]
  have c2:=states_sound 100000000 _ p.nodes[j].eqs p.nodes[j].autos hk1 (by omega) (by omega) (by omega)
  have hk2:=ok_states 100000000 _ p.nodes[j].eqs p.nodes[j].autos hk1 (by omega) (by omega)
  have c3:=every_sound _ p.nodes[j] hk2 (by omega)
  have hfe:nodeL 100000000 acc p.nodes[j]=everyL 100000000 (statesL 100000000 (gatherL (ins acc p.nodes[j].name) (varsL p.nodes[j])) p.nodes[j].eqs p.nodes[j].autos) p.nodes[j]:=rfl
  rw[hfe]at hn
  clear hfe hokN hno hen hws v1 v2 v3 hk1 hk2 hwn
  generalize everyL 100000000 (statesL 100000000 (gatherL (ins acc p.nodes[j].name) (varsL p.nodes[j])) p.nodes[j].eqs p.nodes[j].autos) p.nodes[j]=a3 at*
  generalize statesL 100000000 (gatherL (ins acc p.nodes[j].name) (varsL p.nodes[j])) p.nodes[j].eqs p.nodes[j].autos=a2 at*
  generalize gatherL (ins acc p.nodes[j].name) (varsL p.nodes[j])=a1 at*
  generalize varsL p.nodes[j]=vs at*
  generalize p.nodes[j]=n at*
  unfold nodC at hx c0 c3
  repeat' (first|refine wkt ?_|(apply TO.indexAddr tabOk;(iterate 8 exact rfl);omega;exact hx)|(apply TO.setPut;exact rfl;exact rfl;exact rfl;exact rfl;exact hk;exact hnm;exact rfl)|refine LoopK.exit ?_|exact wkc|intro hc|refine wk2 ?_ ?_|fail)
  apply TR.regionH (envF:=_) (HF:=knH a1) [(_,false),(_,false),(_,false),(_,true)] [knH (ins acc n.name),knH a1] hmix
  case hB=>(dsimp only[List.map];decide +kernel)
  case h0=>exact rfl
  case hF=>exact rfl
  case hp=>
   repeat' (first|(refine And.intro (fun H hH env=>?_) ?_;rcases memFI hH with rfl|rfl)|refine And.intro (fun env=>?_) ?_|refine wma ?_|refine wmv c0 ?_|(apply TO.callD 1 c1;exact rfl;exact rfl;exact rfl;exact Les.refl _;exact rfl;exact rfl;exact rfl;exact rfl;exact rfl;exact rfl;exact rfl;exact rfl)|exact trivial|exact And.intro rfl rfl|refine wmk ?_|fail)
   done
  case hE=>exact rfl
  case hK=>
   repeat' (first|refine wkt ?_|(apply TO.callD 1 c2;exact rfl;exact rfl;exact rfl;exact Les.refl _;exact rfl;exact rfl;exact rfl;exact rfl;exact rfl;exact rfl;exact rfl;exact rfl)|(apply TO.callD 2 c3;exact rfl;exact rfl;exact rfl;exact Les.refl _;exact rfl;exact rfl;exact rfl;exact rfl;exact rfl;exact rfl;exact rfl;exact rfl)|(apply TO.makeFunc;exact rfl;exact rfl)|refine LoopK.exit ?_|exact wkc|intro hc|refine wk2 ?_ ?_|refine wk ?_|fail)
   exact LoopK.nextN hlt trivial (by(try dsimp only);exact⟨rfl,rfl,rfl,rfl,trivial⟩) (by(try dsimp only);rw[hn])
 ·rw[List.take_length]
  repeat' (first|refine wu ?_|exact wkc|intro hc|refine wk2 ?_ ?_|fail)
  exact RetK.keep 1 rfl (Le.refl _) rfl rfl rfl rfl rfl ⟨rfl,rfl⟩
theorem ok_known(p:Prog)(hw:(T.ag (progC p)).w≤90000000):SetOk (knownL 100000000 p):=by
 rw[w_ag]at hw
 simp only[progC,nodesT,List.map_cons,List.map_nil,List.sum_cons,List.sum_nil]at hw
 have hen:∀u∈p.enums,(enT u).w≤90000000:=fun u hu=>by have:=w_inM (f:=enT) (sz:=2) hu;omega
 have hno:∀n∈p.nodes,(nodT n).w≤90000000:=fun u hu=>by have:=w_inM (f:=nodT) (sz:=8) hu;omega
 exact ok_fold (ok_fold SetOk.nil fun a u hu ha=>ok_fold (ha.ins (enum_in (Nat.le_trans (hen u hu) (by decide))).1) fun a s hs ha=>ha.ins ((enum_in (Nat.le_trans (hen u hu) (by decide))).2.1 s hs)) fun a n hn ha=>ok_node ha (hno n hn)
theorem frs_ge(l:List Str)(base:Str):∀(f n:Nat),n≤frs l base f n
 | 0,n=>Nat.le_refl _
 | f+1,n=>by
   unfold frs
   split
   ·have:=frs_ge l base f (n+1)
    omega
   ·exact Nat.le_refl _
theorem itoa_len2(n:Nat)(h:n<10 ^ 18):(Go.Lib.itoa (n:Int)).length≤30:=by
 unfold Go.Lib.itoa
 rw[if_neg (by omega)]
 have hd:∀(m u:Nat),u<10 ^ m->(Go.Lib.decDigits u).length≤m+1:=by
  intro m
  induction m with
  | zero=>intro u h;rw[Go.Lib.decDigits,dif_pos (by simp at h;omega)];simp
  | succ m ih=>
    intro u h
    rw[Go.Lib.decDigits]
    split
    ·simp
    ·have:=ih (u / 10) (by rw[Nat.pow_succ]at h;omega)
     simp only[List.length_append,List.length_cons,List.length_nil]
     omega
 have:=hd 18 (n:Int).toNat (by simpa using h)
 omega
set_option maxHeartbeats 8000000 in
theorem fresh_sound (p:Prog) (hw:(T.ag (progC p)).w≤90000000) (base:Str) (hb:base.length≤1000) (hL:(knownL 100000000 p).length≤100000000000000):Pure Tryz.prog 13 [.t (.ag (progC p)),.s base] (.s (freshL (knownL 100000000 p) base)):=by
 have c0:=known_sound p hw
 have hk:=ok_known p hw
 generalize knownL 100000000 p=L at*
 obtain⟨f1,f2,f3⟩:=frs_ok L base 1
 have hge:=frs_ge L base (L.length+1) 1
 have hfr:freshL L base=nameN base (frs L base (L.length+1) 1):=rfl
 rw[hfr]
 clear hfr
 generalize frs L base (L.length+1) 1=N at*
 unfold progC at*
 refine so Tryz.func13 ?_
 repeat' (first|refine wkt ?_|(apply TO.call1 [] (v':=.mp 0) (H':=[setB L]) c0;exact rfl;exact rfl;exact rfl;exact Les.refl _;exact rfl;exact hands_none _;exact rfl;exact rfl)|refine LoopK.exit ?_|exact wkc|intro hc|refine wk2 ?_ ?_|fail)
 refine TR.loop_ind (ι:=Nat) (fun n=>1≤n/\n≤N) (fun n=>N-n) (fun n=>[(1,.s base),(5,.mp 0),(6,.i n)]) (fun n=>[setB L]) 1 ⟨Nat.le_refl _,hge⟩ ⟨rfl,rfl,rfl,trivial⟩ rfl ?_
 rintro n ⟨n1,n2⟩
 have hit:=itoaP_sound (n:Int) (by omega)
 have hil:=itoa_len2 n (by have:(10:Nat) ^ 18=1000000000000000000:=by decide
                           omega)
 have hnm:nameN base n=base++[95]++Go.Lib.itoa (n:Int):=rfl
 have hsl:(base++[95]++Go.Lib.itoa (n:Int)).length≤1000000000:=by simp only[List.length_append,List.length_cons,List.length_nil];omega
 by_cases hN:n=N
 ·subst hN
  rw[hnm]at f1⊢
  generalize Go.Lib.itoa (n:Int)=it at*
  clear f3
  repeat' (first|refine wkt ?_|refine wv hit ?_|(apply TO.cat;exact rfl;exact rfl;exact rfl;(simp only[List.length_append,List.length_cons,List.length_nil];omega))|(apply TO.setGet;exact rfl;exact rfl;exact rfl;exact rfl;exact hk;exact hsl)|(exact fun hc=>absurd hc f1)|(exact fun hc=>absurd f1 hc)|refine LoopK.exit ?_|exact wkc|intro hc|refine wk2 ?_ ?_|refine wk ?_|fail)
  exact wkr
 ·have hin:=f3 n n1 (by omega)
  rw[hnm]at hin
  generalize Go.Lib.itoa (n:Int)=it at*
  clear f3 f1
  repeat' (first|refine wkt ?_|refine wv hit ?_|(apply TO.cat;exact rfl;exact rfl;exact rfl;(simp only[List.length_append,List.length_cons,List.length_nil];omega))|(apply TO.setGet;exact rfl;exact rfl;exact rfl;exact rfl;exact hk;exact hsl)|(exact fun hc=>absurd hin hc)|refine LoopK.exit ?_|exact wkc|intro hc|refine wk2 ?_ ?_|refine wk ?_|fail)
  exact LoopK.next (n+1) ⟨by omega,by omega⟩ (by omega) ⟨rfl,rfl,rfl,trivial⟩ rfl
end Go.Proofs.YtddaclniamlmbaaGreatDoor
