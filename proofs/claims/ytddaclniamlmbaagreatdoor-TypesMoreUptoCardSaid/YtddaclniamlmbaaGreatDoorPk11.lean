import Derived.Maps.Keyed
import Derived.Test.YtddaclniamlmbaaGreatDoorPk10
set_option linter.unusedSimpArgs false
set_option linter.unusedVariables false
namespace Go.TL
open Go
def MapGet(es:List (Value×T))(kx:Value):Option T->Prop
 | some t=>∃j:Nat,es[j]?=some (kx,t)/\∀(j':Nat) t',es[j']?=some (kx,t')->j'=j
 | none=>∀(j:Nat) e,es[j]?=some e->e.1≠kx
def MapPut(es:List (Value×T))(kx:Value)(t:T)(es':List (Value×T)):Prop:=
 (∃(j:Nat) (t0:T),es[j]?=some (kx,t0)/\(∀(j':Nat) t',es[j']?=some (kx,t')->j'=j)/\es'=es.set j (kx,t))\/((∀(j:Nat) e,es[j]?=some e->e.1≠kx)/\es'=es++[(kx,t)])
def KeysOk(P:Program)(kt:TypeId)(es:List (Value×T)):Prop:=∀(j:Nat) e,es[j]?=some e->∃l,keyOf P kt e.1=some l
theorem Fit.map{P:Program}{t:TypeId}{i:TyI}(h:Fit P t i){k e:TypeId}(hk:i.k= .map k e):P.underlying t=some (.map k e):=by
 obtain⟨d,ti,z,h1,h2,h3,_⟩:=h.ex
 rw[hk]at h3
 cases d <;> simp[TK'.fits]at h3
 obtain⟨rfl,rfl⟩:=h3
 exact h1
theorem map_get{m:M}(hm:HRel m){id:Nat}{kt vt:TypeId}{es:List (Value×T)}(hH:m.H[id]?=some (.map kt vt es)){p:Place}(hp:m.β[id]?=some p):
  ∃(a:Array MapEntry) (clock:Nat),m.w.heap[p.b]?=some (.map a clock)/\a.size=es.length/\∀(i:Nat) k t (e:MapEntry),es[i]?=some (k,t)->a[i]?=some e->e.key=k/\TRel m.A m.w t e.val/\e.born<clock:=by
 obtain⟨_,_,a,clock,h⟩:=hm.blk id p _ hp hH
 exact⟨a,clock,h⟩
section find
variable {P:Program}{kt:TypeId}
theorem find_run(K:Maps.Keyed P kt){A:Foot}{w0:World}{es:List (Value×T)}(hks:KeysOk P kt es){a:Array MapEntry}{clock:Nat}(hs:a.size=es.length)
  (he:∀(i:Nat) k t (e:MapEntry),es[i]?=some (k,t)->a[i]?=some e->e.key=k/\TRel A w0 t e.val/\e.born<clock){kx:Value}(hkx:∃l,keyOf P kt kx=some l)(w:World):
  ((Instr.findKey kt kx a.toList).run P w= .ok none w/\∀(j:Nat) e,es[j]?=some e->e.1≠kx)\/
  ∃(j:Nat) (t:T) (e:MapEntry),(Instr.findKey kt kx a.toList).run P w= .ok (some (j,e.val)) w/\es[j]?=some (kx,t)/\a[j]?=some e/\TRel A w0 t e.val:=by
 obtain⟨l,hl⟩:=hkx
 have hall:∀e∈a.toList,∃l,keyOf P kt e.key=some l:=by
  intro e hem
  obtain⟨i,hi⟩:=List.getElem?_of_mem hem
  have hi':a[i]?=some e:=by simpa using hi
  have hlt:=(Array.getElem?_eq_some_iff.1 hi').1
  have hes:es[i]?=some es[i]:=List.getElem?_eq_getElem (by omega)
  obtain⟨l',hl'⟩:=hks i _ hes
  have:=(he i es[i].1 es[i].2 e hes hi').1
  exact⟨l',by rw[this];exact hl'⟩
 rcases K.find w hl a.toList hall with ⟨h1,h2⟩|⟨j,e,h1,h2,h3⟩
 ·refine .inl ⟨h1,fun j e hj hk=>?_⟩
  have hlt:=(List.getElem?_eq_some_iff.1 hj).1
  have ha:a[j]?=some (a[j]'(by omega)):=Array.getElem?_eq_getElem (by omega)
  have:=(he j e.1 e.2 _ hj ha).1
  exact h2 _ (List.mem_of_getElem? (i:=j) (by rw[Array.getElem?_toList];exact ha)) (this.trans hk)
 ·have h2':a[j]?=some e:=by simpa using h2
  have hlt:=(Array.getElem?_eq_some_iff.1 h2').1
  have hes:es[j]?=some es[j]:=List.getElem?_eq_getElem (by omega)
  obtain⟨g1,g2,_⟩:=he j es[j].1 es[j].2 e hes h2'
  refine .inr ⟨j,es[j].2,e,h1,?_,h2',g2⟩
  rw[hes];congr 1
  rw[<-h3,g1]
end find
section rules
variable {P:Program}{n:Nat}{env:Env}{H:Heap}{K:TK}{all:Array Oper}{rest:List Oper}{tab:Tab}{q:Bool}
variable {d:Nat}{ty:TypeId}{pos:String}{aft:Array Edge}
theorem TO.makeMap(kt vt:TypeId){t:TypeId}(hd:Nat.ble (d+1) n=true)(k:TO false P n all rest ((d,.mp H.length)::env) (H++[.map kt vt []]) K):
  TO false P n all (⟨some d,.makeMap t none,ty,pos,aft,none⟩::rest) env H K:=
 TO.eff hd (fun m ac h1 h2 h3=>by
  obtain⟨s,hm'⟩:=grow h2 (A':=m.A) (βn:=[⟨m.w.heap.size,0,1⟩]) (Hn:=[.map kt vt []]) (w':=m.w.alloc (.map #[] 0)) rfl rfl rfl (by simp) (fun b hb=>RowKit.Below.heap_alloc _ _ _ hb) (fun _ _ h=>h) (fun _ _ h=>.inl h) rfl
   (fun i p k g1 g2 _=>by
     cases i with
     | zero=>simp at g1;subst g1;left;simp
     | succ i=>simp at g1) (fun i j p q hij g1 g2=>by cases i <;> cases j <;> simp at g1 g2 hij) (fun b o g1 g2=>absurd g1 g2) (fun s i p k g1 g2=>by
     cases i with
     | zero=>
       simp at g1 g2;subst g1;subst g2
       exact⟨rfl,rfl,#[],0,World.alloc_heap_new _ _,rfl,by simp⟩
     | succ i=>simp at g1)
  refine⟨.map (some m.w.heap.size),⟨m.A,m.β++[⟨m.w.heap.size,0,1⟩],m.H++[.map kt vt []],m.w.alloc (.map #[] 0)⟩,?_,s,hm',by rw[h1],?_⟩
  ·simp[execOp,Instr.makeMap,run_newObj_alloc]
  ·rw[<-h1]
   exact .mp m.H.length ⟨m.w.heap.size,0,1⟩ (by show(m.β++_)[m.H.length]?=_;rw[<-h2.len,List.getElem?_append_right (Nat.le_refl _)];simp) (by intro n';simp[tlOf])) k
def lookV(ok:Bool)(z:T):Option T->SV
 | some t=>bif ok then .tup [.t t,.b true] else .t t
 | none=>bif ok then .tup [.t z,.b false] else .t z
theorem look_rel{m:M}{t:T}{x:Value}(h:TRel m.A m.w t x)(b:Bool):SRel m (.tup [.t t,.b b]) (.tuple #[x,.bool b]):=
 .tup _ _ rfl fun i c y hc hy=>by
  match i with
  | 0=>simp at hc hy;subst hc;subst hy;exact .t _ _ h
  | 1=>simp at hc hy;subst hc;subst hy;exact .t _ _ (.v _)
  | i+2=>simp at hc
theorem TO.lookup(hT:TabOk P tab){t kt vt:TypeId}{i iv:TyI}{x y:Operand}{id:Nat}{es:List (Value×T)}{kv:SV}{kx:Value}{ok:Bool}{z:T}{r:Option T}(hd:Nat.ble (d+1) n=true)(ht:tab.get t=some i)(hk:i.k= .map kt vt)
  (hvt:tab.get vt=some iv)(hz:iv.zero=[z])(hag:iv.k.agg=false)(KK:Maps.Keyed P kt)(hx:env.val x=some (.mp id))(hH:H[id]?=some (.map kt vt es))(hks:KeysOk P kt es)(hy:env.val y=some kv)(hkv:∀m v,SRel m kv v->v=kx)(hkx:∃l,keyOf P kt kx=some l)
  (hr:MapGet es kx r)(k:TO q P n all rest ((d,lookV ok z r)::env) H K):TO q P n all (⟨some d,.lookup t x y ok,ty,pos,aft,none⟩::rest) env H K:=
 TO.op hd (fun m ac h1 h2 h3=>by
  have hy':=hkv _ _ (h3.val hy)
  have h:=h3.val hx
  obtain⟨zz,hz1,hz2,_,hz4⟩:=(hT vt iv hvt).zero
  obtain⟨g1,g0,g2⟩:=zero_rel (A:=m.A) (w:=m.w) _ _ hz2
  have hzz:zz.cells= #[zz]:=by
   have:=hz4 hag
   cases zz <;> simp[Value.oneCell']at this <;> rfl
  have hzr:TRel m.A m.w z zz:=g2 0 z zz (by rw[hz];rfl) (by rw[hzz];rfl)
  generalize hq:ac.eval x=v at h
  cases h with
  | mp _ p hp hn=>
    have hH1:m.H[id]?=some (.map kt vt es):=by rw[h1];exact hH
    obtain⟨a,clock,b1,b2,b3⟩:=map_get h2 hH1 hp
    have hlt:=(Array.getElem?_eq_some_iff.1 b1).1
    obtain⟨l,hl⟩:=hkx
    have run:∀w' (rr:Option (Nat×Value)),Keeps m.w w'->(Instr.findKey kt kx a.toList).run P w'= .ok rr w'->
      (Instr.lookup t (.map (some p.b)) kx ok).run P w'= .ok (match rr with|some (_,v)=>(if ok then .tuple #[v,.bool true] else v)|none=>(if ok then .tuple #[zz,.bool false] else zz)) w':=by
     intro w' rr kw hf
     have hb:w'.heap[p.b]?=some (.map a clock):=by rw[kw.block _ hlt];exact b1
     have hg:(getObj p.b).run P w'= .ok (.map a clock) w':=by simp[getObj,Sem.run,hb]
     unfold Instr.lookup
     simp only[Sem.run_bind,underlying,run_program,Result.andThen_ok,(hT t i ht).map hk,Sem.run_pure,hg,KK.check w' _ hl,hf]
     cases rr with
     | some jv=>cases ok <;> simp
     | none=>cases ok <;> simp[hz1]
    rcases find_run (w0:=m.w) KK hks b2 b3 ⟨l,hl⟩ m.w with ⟨f1,f2⟩|⟨j,tt,e,f1,f2,f3,f4⟩
    ·have hrn:r=none:=by
      cases r with
      | none=>rfl
      | some t0=>obtain⟨j,hj,_⟩:=hr;exact absurd rfl (f2 j _ hj)
     subst hrn
     refine⟨if ok then .tuple #[zz,.bool false] else zz,fun w' kw=>?_,?_⟩
     ·have f1':(Instr.findKey kt kx a.toList).run P w'= .ok none w':=by
       rcases find_run (w0:=m.w) KK hks b2 b3 ⟨l,hl⟩ w' with ⟨g,_⟩|⟨j,tt,e,_,g,_⟩
       ·exact g
       ·exact absurd rfl (f2 j _ g)
      simp[execOp,hq,hy',run w' none kw f1']
     ·cases ok
      ·exact .t _ _ hzr
      ·exact look_rel hzr false
    ·cases r with
     | none=>exact absurd rfl (hr j _ f2)
     | some t0=>
       obtain⟨jr,hjr,huniq⟩:=hr
       refine⟨if ok then .tuple #[e.val,.bool true] else e.val,fun w' kw=>?_,?_⟩
       ·rcases find_run (w0:=m.w) KK hks b2 b3 ⟨l,hl⟩ w' with ⟨_,g⟩|⟨j',tt',e',g',g2',g3',_⟩
        ·exact absurd rfl (g j _ f2)
        ·have e1:=huniq j tt f2
         have e2:=huniq j' tt' g2'
         subst e1;subst e2
         have:e'=e:=by rw[f3]at g3';cases g3';rfl
         subst this
         simp[execOp,hq,hy',run w' _ kw g']
       ·have:tt=t0:=by
         have e1:=huniq j tt f2
         subst e1
         rw[hjr]at f2;cases f2;rfl
        subst this
        cases ok
        ·exact .t _ _ f4
        ·exact look_rel f4 true) k
theorem TO.lookup_nil(hT:TabOk P tab){t kt vt:TypeId}{i iv:TyI}{x y:Operand}{kv:SV}{kx:Value}{ok:Bool}{z:T}(hd:Nat.ble (d+1) n=true)(ht:tab.get t=some i)(hk:i.k= .map kt vt)
  (hvt:tab.get vt=some iv)(hz:iv.zero=[z])(hag:iv.k.agg=false)(KK:Maps.Keyed P kt)(hx:env.val x=some (.t (.v (.map none))))(hy:env.val y=some kv)(hkv:∀m v,SRel m kv v->v=kx)(hkx:∃l,keyOf P kt kx=some l)
  (k:TO q P n all rest ((d,lookV ok z none)::env) H K):TO q P n all (⟨some d,.lookup t x y ok,ty,pos,aft,none⟩::rest) env H K:=
 TO.op hd (fun m ac h1 h2 h3=>by
  have hy':=hkv _ _ (h3.val hy)
  have hq:=(h3.val hx).v_eq
  obtain⟨zz,hz1,hz2,_,hz4⟩:=(hT vt iv hvt).zero
  obtain⟨g1,g0,g2⟩:=zero_rel (A:=m.A) (w:=m.w) _ _ hz2
  have hzz:zz.cells= #[zz]:=by
   have:=hz4 hag
   cases zz <;> simp[Value.oneCell']at this <;> rfl
  have hzr:TRel m.A m.w z zz:=g2 0 z zz (by rw[hz];rfl) (by rw[hzz];rfl)
  obtain⟨l,hl⟩:=hkx
  refine⟨if ok then .tuple #[zz,.bool false] else zz,fun w' kw=>?_,?_⟩
  ·have hf:(Instr.findKey kt kx []).run P w'= .ok none w':=by
    rcases KK.find w' hl [] (by simp)with ⟨h1,_⟩|⟨j,e,_,h2,_⟩
    ·exact h1
    ·simp at h2
   have:(Instr.lookup t (.map none) kx ok).run P w'= .ok (if ok then .tuple #[zz,.bool false] else zz) w':=by
    unfold Instr.lookup
    simp only[Sem.run_bind,underlying,run_program,Result.andThen_ok,(hT t i ht).map hk,Sem.run_pure,KK.check w' _ hl,hf]
    cases ok <;> simp[hz1]
   simp[execOp,hq,hy',this]
  ·cases ok
   ·exact .t _ _ hzr
   ·exact look_rel hzr false) k
theorem TO.mapUpdate(hT:TabOk P tab){t kt vt:TypeId}{i:TyI}{x y v:Operand}{id:Nat}{es es':List (Value×T)}{kv vv:SV}{tv:T}{kx:Value}{H':Heap}(ht:tab.get t=some i)(hk:i.k= .map kt vt)
  (KK:Maps.Keyed P kt)(hx:env.val x=some (.mp id))(hH:H[id]?=some (.map kt vt es))(hks:KeysOk P kt es)(hy:env.val y=some kv)(hkv:∀m v,SRel m kv v->v=kx)(hkx:∃l,keyOf P kt kx=some l)
  (hv:env.val v=some vv)(htv:vv.toT=some tv)(hp:MapPut es kx tv es')(hH':H.set id (.map kt vt es')=H')
  (k:TO false P n all rest env H' K):TO false P n all (⟨none,.mapUpdate t x y v,ty,pos,aft,none⟩::rest) env H K:=
 TO.eff0 (fun m ac h1 h2 h3=>by
  have hy':=hkv _ _ (h3.val hy)
  have hvv:=(h3.val hv).toT htv
  have h:=h3.val hx
  obtain⟨l,hl⟩:=hkx
  generalize hq:ac.eval x=z at h
  cases h with
  | mp _ p hpp hn=>
    have hH1:m.H[id]?=some (.map kt vt es):=by rw[h1];exact hH
    obtain⟨a,clock,b1,b2,b3⟩:=map_get h2 hH1 hpp
    have hg:(getObj p.b).run P m.w= .ok (.map a clock) m.w:=by simp[getObj,Sem.run,b1]
    have hset:∀o',(setObj p.b o').run P m.w= .ok () (m.w.putObj p.b o'):=fun o'=>by simp[setObj,Sem.run,b1,World.putObj]
    have hbk:=h2.blk id p _ hpp hH1
    have cells:∀(a':Array MapEntry) (c':Nat),a'.size=es'.length->(∀(s:Step m ⟨m.A,m.β,m.H.set id (.map kt vt es'),m.w.putObj p.b (.map a' c')⟩) (i:Nat) k t (e:MapEntry),es'[i]?=some (k,t)->a'[i]?=some e->e.key=k/\TRel m.A m.w t e.val/\e.born<c')->
      Step m ⟨m.A,m.β,m.H.set id (.map kt vt es'),m.w.putObj p.b (.map a' c')⟩/\HRel ⟨m.A,m.β,m.H.set id (.map kt vt es'),m.w.putObj p.b (.map a' c')⟩:=by
     intro a' c' hs he
     refine upd_obj h2 hpp hH1 rfl rfl b1 rfl rfl (fun L e=>by cases e) fun s=>⟨hbk.1,hbk.2.1,a',c',World.putObj_heap_same (Array.getElem?_eq_some_iff.1 b1).1,hs,fun i k t e g1 g2=>?_⟩
     obtain⟨q1,q2,q3⟩:=he s i k t e g1 g2
     exact⟨q1,s.trel h2 q2,q3⟩
    rcases find_run (w0:=m.w) KK hks b2 b3 ⟨l,hl⟩ m.w with ⟨f1,f2⟩|⟨j,tt,e,f1,f2,f3,f4⟩
    ·rcases hp with ⟨j,t0,hj,_⟩|⟨_,rfl⟩
     ·exact absurd rfl (f2 j _ hj)
     obtain⟨s,hm'⟩:=cells (a.push { key:=kx,val:=ac.eval v,born:=clock }) (clock+1) (by simp[b2]) (fun s i k t e g1 g2=>by
      by_cases hi:i<es.length
      ·rw[List.getElem?_append_left hi]at g1
       rw[Array.getElem?_push_lt (by omega),<-Array.getElem?_eq_getElem]at g2
       obtain⟨q1,q2,q3⟩:=b3 i k t e g1 g2
       exact⟨q1,q2,by omega⟩
      ·rw[List.getElem?_append_right (by omega)]at g1
       have:i=es.length:=by
        have:=(List.getElem?_eq_some_iff.1 g1).1
        simp at this;omega
       subst this
       simp at g1
       rw[<-b2,Array.getElem?_push_size]at g2
       cases g2
       obtain⟨rfl,rfl⟩:=g1
       exact⟨rfl,hvv,by simp⟩)
     refine⟨_,?_,s,hm',by rw[h1];exact hH'⟩
     have:(Instr.mapUpdate t (.map (some p.b)) kx (ac.eval v)).run P m.w= .ok () (m.w.putObj p.b (.map (a.push { key:=kx,val:=ac.eval v,born:=clock }) (clock+1))):=by
      unfold Instr.mapUpdate
      simp only[Sem.run_bind,underlying,run_program,Result.andThen_ok,(hT t i ht).map hk,Sem.run_pure,hg,KK.check m.w _ hl,f1,hset]
     simp[execOp,hq,hy',this]
    ·rcases hp with ⟨j2,t0,hj,huniq,rfl⟩|⟨hno,_⟩
     ·have e1:=huniq j tt f2
      subst e1
      have hjl:=(List.getElem?_eq_some_iff.1 hj).1
      have hkey:e.key=kx:=(b3 j _ _ e hj f3).1
      obtain⟨s,hm'⟩:=cells (a.modify j fun e=>{ e with key:=kx,val:=ac.eval v }) clock (by simp[b2]) (fun s i k t e' g1 g2=>by
       by_cases hi:i=j
       ·subst hi
        rw[List.getElem?_set_self hjl]at g1
        cases g1
        rw[Array.getElem?_modify,if_pos rfl,f3]at g2
        cases g2
        exact⟨rfl,hvv,(b3 i _ _ e hj f3).2.2⟩
       ·rw[List.getElem?_set_ne (by omega)]at g1
        rw[Array.getElem?_modify,if_neg (by omega)]at g2
        exact b3 i k t e' g1 g2)
      refine⟨_,?_,s,hm',by rw[h1];exact hH'⟩
      have hkk:((a[j]?).map (·.key)).getD kx=kx:=by rw[f3];simp[hkey]
      have:(Instr.mapUpdate t (.map (some p.b)) kx (ac.eval v)).run P m.w= .ok () (m.w.putObj p.b (.map (a.modify j fun e=>{ e with key:=kx,val:=ac.eval v }) clock)):=by
       unfold Instr.mapUpdate
       simp only[Sem.run_bind,underlying,run_program,Result.andThen_ok,(hT t i ht).map hk,Sem.run_pure,hg,KK.check m.w _ hl,f1,hkk,KK.stays m.w hl,hset]
      simp[execOp,hq,hy',this]
     ·exact absurd rfl (hno j _ f2)) k
end rules
theorem grow_still{m:M}(hm:HRel m)(arr:Array Value)(e:TypeId)(ts:List T)(hl:ts.length=arr.size)(h1:∀(i:Nat) y,arr[i]?=some y->y.oneCell'=true)(h:∀(i:Nat) t y,ts[i]?=some t->arr[i]?=some y->TRel m.A m.w t y):
  ∃m':M,m'.w=m.w.alloc (.cells arr e)/\Step m m'/\HRel m'/\m'.H=m.H/\SRel m' (.cp ts 0) (.pointer (some ⟨m.w.heap.size,0,none⟩)):=by
 have hcell:∀o,(m.w.alloc (.cells arr e)).cell? ⟨m.w.heap.size,o,none⟩=arr[o]? :=fun o=>World.cell?_alloc_new ..
 obtain⟨s,hm'⟩:=grow hm (A':=fun b o=>m.A b o\/(b=m.w.heap.size/\o<arr.size)) (βn:=[]) (Hn:=[]) (w':=m.w.alloc (.cells arr e)) rfl rfl rfl (by simp) (fun b hb=>RowKit.Below.heap_alloc _ _ _ hb) (fun _ _ h=>.inl h) (fun b o h=>by
  rcases h with h|h
  ·exact .inl h
  ·exact .inr ⟨by omega,by simp;omega⟩) rfl (by simp) (by simp) (by simp) (by simp)
 refine⟨⟨fun b o=>m.A b o\/(b=m.w.heap.size/\o<arr.size),m.β,m.H,m.w.alloc (.cells arr e)⟩,rfl,by simpa using s,by simpa using hm',rfl,?_⟩
 have s':Step m ⟨fun b o=>m.A b o\/(b=m.w.heap.size/\o<arr.size),m.β,m.H,m.w.alloc (.cells arr e)⟩:=by simpa using s
 refine .cp ts 0 m.w.heap.size 0 (fun j=>(arr[j]?).getD undef) (fun j hj=>?_) (fun j hj=>.inr ⟨rfl,by omega⟩) (fun j hj=>?_) (fun j c hc=>?_)
 ·rw[Array.getElem?_eq_getElem (by omega)]
  exact h1 j _ (Array.getElem?_eq_getElem (by omega))
 ·show(m.w.alloc (.cells arr e)).cell? _=_
  rw[Nat.zero_add,hcell,Array.getElem?_eq_getElem (by omega)];rfl
 ·have hj:=(List.getElem?_eq_some_iff.1 hc).1
  rw[Array.getElem?_eq_getElem (by omega)]
  exact s'.trel hm (h j c _ hc (Array.getElem?_eq_getElem (by omega)))
theorem grow_still'{m:M}(hm:HRel m){w':World}(kw:Keeps m.w w'){b:Nat}(hb:m.w.heap.size≤b/\b<w'.heap.size)(ts:List T)(f:Nat->Value)(hcell:∀j,j<ts.length->w'.cell? ⟨b,j,none⟩=some (f j))(h1:∀j,j<ts.length->(f j).oneCell'=true)
  (h:∀(i:Nat) t,ts[i]?=some t->TRel m.A m.w t (f i)):∃m':M,m'.w=w'/\Step m m'/\HRel m'/\m'.H=m.H/\SRel m' (.cp ts 0) (.pointer (some ⟨b,0,none⟩)):=by
 obtain⟨s,hm'⟩:=grow hm (A':=fun b' o=>m.A b' o\/(b'=b/\o<ts.length)) (βn:=[]) (Hn:=[]) (w':=w') kw.os kw.tape kw.output kw.size kw.block (fun _ _ h=>.inl h) (fun b' o h=>by
  rcases h with h|h
  ·exact .inl h
  ·exact .inr (by omega)) rfl (by simp) (by simp) (by simp) (by simp)
 have s':Step m ⟨fun b' o=>m.A b' o\/(b'=b/\o<ts.length),m.β,m.H,w'⟩:=by simpa using s
 refine⟨⟨fun b' o=>m.A b' o\/(b'=b/\o<ts.length),m.β,m.H,w'⟩,rfl,s',by simpa using hm',rfl,?_⟩
 exact .cp ts 0 b 0 f h1 (fun j hj=>.inr ⟨rfl,by omega⟩) (fun j hj=>by rw[Nat.zero_add];exact hcell j hj) (fun j c hc=>s'.trel hm (h j c hc))
section rules
variable {P:Program}{n:Nat}{env:Env}{H:Heap}{K:TK}{all:Array Oper}{rest:List Oper}{tab:Tab}{q:Bool}
variable {d:Nat}{ty:TypeId}{pos:String}{aft:Array Edge}
theorem TO.boxC{t:TypeId}{x:Operand}{v:SV}{ts:List T}(hd:Nat.ble (d+1) n=true)(hx:env.val x=some v)(hv:v.solid=true)(hc:allT v.cells=some ts)
  (k:TO false P n all rest ((d,.cp ts 0)::env) H K):TO false P n all (⟨some d,.box t x,ty,pos,aft,none⟩::rest) env H K:=
 TO.eff hd (fun m ac h1 h2 h3=>by
  obtain⟨g1,g0,g2⟩:=(h3.val hx).cells hv
  obtain⟨l1,l2⟩:=allT_rel (m:=m) hc
  obtain⟨m',e1,e2,e3,e4,e5⟩:=grow_still h2 (ac.eval x).cells t ts (by omega) g0 (fun i u y hu hy=>by
   obtain⟨c,hc,hr⟩:=l2 i u hu
   exact hr y (g2 i c y hc hy))
  refine⟨.pointer (some ⟨m.w.heap.size,0,none⟩),m',?_,e2,e3,by rw[e4,h1],e5⟩
  rw[e1];simp[execOp,Instr.box,newVar,newRow]) k
theorem TO.allocC(hT:TabOk P tab){t:TypeId}{i:TyI}{y:Operand}{v:SV}{ts:List T}{ty':TypeId}{pos':String}{aft':Array Edge}(hd:Nat.ble (d+1) n=true)(ht:tab.get t=some i)(hy:Env.val ((d,.any)::env) y=some v)(hv:v.solid=true)(hc:allT v.cells=some ts)
  (hsz:i.size=ts.length)(hpos:0<ts.length)
  (k:TO false P n all rest ((d,.cp ts 0)::env) H K):TO false P n all (⟨some d,.alloc t,ty,pos,aft,none⟩::⟨none,.store t (.tmp d) y,ty',pos',aft',none⟩::rest) env H K:=by
 intro φ m a h1 h2 h3 h4
 obtain⟨z,hz1,hz2,_,_⟩:=(hT t i ht).zero
 obtain⟨zl,z0,_⟩:=zero_rel (A:=m.A) (w:=m.w) _ _ hz2
 have hzl:z.cells.size=i.size:=by have:=(hT t i ht).len;simp at zl;omega
 let pv:Value:=.pointer (some ⟨m.w.heap.size,0,none⟩)
 let a1:Act:=a.put (some d) pv
 have hE1:ERel m n ((d,.any)::env) a1.tmps:=h3.put d (Nat.le_of_ble_eq_true hd) (.any _)
 obtain⟨g1,g0,g2⟩:=(hE1.val hy).cells hv
 obtain⟨l1,l2⟩:=allT_rel (m:=m) hc
 let w1:=m.w.alloc (.cells z.cells t)
 have hrun1:(execOp a.eval ⟨some d,.alloc t,ty,pos,aft,none⟩).run P m.w= .ok (.value pv) w1:=by
  simp[execOp,Instr.alloc,hz1,newVar,newRow,pv,w1]
 have hc1:∀o,w1.cell? ⟨m.w.heap.size,o,none⟩=z.cells[o]? :=fun o=>World.cell?_alloc_new ..
 have hlen:(a1.eval y).cells.toList.length=z.cells.size:=by simp;omega
 have hsome:∀q,q<(a1.eval y).cells.toList.length->(w1.cell? ⟨m.w.heap.size,0+q,none⟩).isSome=true:=fun q hq=>by rw[Nat.zero_add,hc1,Array.getElem?_eq_getElem (by omega)];rfl
 let w2:=w1.setCells m.w.heap.size 0 (a1.eval y).cells.toList
 have hrun2:(execOp a1.eval ⟨none,.store t (.tmp d) y,ty',pos',aft',none⟩).run P w1= .ok .skip w2:=by
  have hev:a1.eval (.tmp d)=pv:=by
   have hlt:d<a.tmps.size:=by rw[h3.1];exact Nat.le_of_ble_eq_true hd
   simp[a1,Act.put,Act.eval,Array.getElem?_setIfInBounds,hlt]
  have hst:=run_storeCells_cells (P:=P) m.w.heap.size 0 (a1.eval y).cells.toList 0 w1 (fun q hq=>hsome q hq) (fun q hq=>World.frozen?_alloc_new ..) (fun u hu=>by
   obtain⟨q,hq⟩:=List.getElem?_of_mem hu
   exact g0 q u (by simpa using hq))
  have hne:(a1.eval y).cells.size=i.size:=by omega
  simp[execOp,hev,pv,Instr.storeAt,Instr.sureAddr,storeVar,(hT t i ht).sizeOf,hne,hst,w2]
 obtain⟨e1,e2,e3,e4,e5,e6⟩:=setCells_rest m.w.heap.size (a1.eval y).cells.toList 0 w1
 have kw:Keeps m.w w2:=⟨e1,e2,e3,by show _≤w2.heap.size;rw[e4];simp[w1],fun b hb=>by rw[e5 b (by omega)];exact RowKit.Below.heap_alloc _ _ _ hb⟩
 obtain⟨m',f1,f2,f3,f4,f5⟩:=grow_still' h2 kw (b:=m.w.heap.size) ⟨Nat.le_refl _,by rw[e4];simp[w1]⟩ ts (fun j=>((a1.eval y).cells[j]?).getD undef) (fun j hj=>by
  have hj':j<(a1.eval y).cells.toList.length:=by simp;omega
  have:=World.cell?_setCells_in m.w.heap.size (a1.eval y).cells.toList 0 w1 hsome j hj'
  rw[Nat.zero_add]at this
  rw[show w2.cell? _=_ from this,Array.getElem?_eq_getElem (by simpa using hj')]
  simp) (fun j hj=>by
  rw[Array.getElem?_eq_getElem (by omega)]
  exact g0 j _ (Array.getElem?_eq_getElem (by omega))) (fun j u hu=>by
  have hj:=(List.getElem?_eq_some_iff.1 hu).1
  obtain⟨c,hcc,hr⟩:=l2 j u hu
  rw[Array.getElem?_eq_getElem (by omega)]
  exact hr _ (g2 j c _ hcc (Array.getElem?_eq_getElem (by omega))))
 refine wpListIn_plain rfl fun K' hK=>?_
 unfold Oper.wpIn
 refine⟨fun _ _=>trivial,?_⟩
 rw[semAt_val hrun1 (by intro d e;cases e)]
 simp only[Oper.uponIn]
 refine hK _ _ ?_
 refine wpListIn_plain rfl fun K2 hK2=>?_
 unfold Oper.wpIn
 refine⟨fun _ _=>trivial,?_⟩
 rw[show a.put (some d) pv=a1 from rfl,semAt_val hrun2 (by intro d e;cases e)]
 simp only[Oper.uponIn]
 refine hK2 _ _ ?_
 have hE:ERel m' n ((d,.cp ts 0)::env) a1.tmps:=(h3.step h2 f2).put d (Nat.le_of_ble_eq_true hd) f5
 have:=k φ m' a1 (by rw[f4,h1]) f3 hE (by simpa [a1,Act.put]using h4.step h2 f2)
 rw[<-f1]
 exact TO.step' f2 this
theorem RetK.at(k:Nat){rs:List ResultVar}{N:Nat}{R:Res->Heap->Prop}{vs:List SV}{v:SV}(hr:resAll tab env H rs=some vs)(hl:Le (pack vs) v)(hN:N≤k)(hk:H.length=k)(hu:v.under k=true)
  (hb:blksUnder k H=true)(hR:R (.ret v) H):RetK tab rs N R .ret env H:=by
 have ht:H.take k=H:=List.take_of_length_le (by omega)
 exact⟨vs,v,k,hr,hl,hN,by omega,hu,by rw[ht];exact hb,by rw[ht];exact hR⟩
theorem RetK.atN(k:Nat){rs:List ResultVar}{N:Nat}{R:Res->Heap->Prop}{vs:List SV}{v:SV}(hr:resAll tab env H rs=some vs)(hl:Le (pack vs) v)(hN:N≤k)(hk:H.length=k)(hu:v.under k=true)
  (hb:blksUnder k H=true)(hR:R (.ret v) H):RetK tab rs N R .normal env H:=RetK.at k hr hl hN hk hu hb hR
theorem RetK.atP(k:Nat){rs:List ResultVar}{N:Nat}{R:Res->Heap->Prop}{v:SV}(hN:N≤k)(hk:H.length=k)(hu:v.under k=true)
  (hb:blksUnder k H=true)(hR:R (.panic v) H):RetK tab rs N R (.panic v) env H:=by
 have ht:H.take k=H:=List.take_of_length_le (by omega)
 exact⟨v,k,Le.refl _,hN,by omega,hu,by rw[ht];exact hb,by rw[ht];exact hR⟩
end rules
def takeS{α:Type}:Nat->List α->Option (List α)
 | 0,_=>some []
 | _+1,[]=>none
 | k+1,x::l=>(takeS k l).bind fun r=>some (x::r)
theorem takeS_eq{α:Type}:∀ {k:Nat} {l r:List α},takeS k l=some r->k≤l.length/\r=l.take k
 | 0,_,r,h=>by simp[takeS]at h;simp[h]
 | _+1,[],r,h=>by simp[takeS]at h
 | k+1,x::l,r,h=>by
   simp only[takeS,Option.bind_eq_some_iff,Option.some.injEq]at h
   obtain⟨r',h1,rfl⟩:=h
   obtain⟨h2,rfl⟩:=takeS_eq h1
   simp;exact h2
def forceL{α:Type}:List α->Option (List α)
 | []=>some []
 | x::l=>(forceL l).bind fun r=>some (x::r)
theorem forceL_eq{α:Type}:∀ {l r:List α},forceL l=some r->r=l
 | [],r,h=>by simp[forceL]at h;simp[h]
 | x::l,r,h=>by
   simp only[forceL,Option.bind_eq_some_iff,Option.some.injEq]at h
   obtain⟨r',h1,rfl⟩:=h
   rw[forceL_eq h1]
def setS{α:Type}:List α->Nat->α->Option (List α)
 | [],_,_=>none
 | _::l,0,a=>some (a::l)
 | x::l,k+1,a=>(setS l k a).bind fun r=>some (x::r)
theorem setS_eq{α:Type}:∀ {l:List α} {k:Nat} {a:α} {r:List α},setS l k a=some r->r=l.set k a
 | [],_,_,r,h=>by simp[setS]at h
 | _::l,0,a,r,h=>by simp[setS]at h;simp[h]
 | x::l,k+1,a,r,h=>by
   simp only[setS,Option.bind_eq_some_iff,Option.some.injEq]at h
   obtain⟨r',h1,rfl⟩:=h
   simp[setS_eq h1]
def loadV(tab:Tab)(env:Env)(H:Heap)(t:TypeId)(x:Operand):Option SV:=
 (env.val x).bind fun v=>(tab.get t).bind fun i=>match v with
   | .cp cs off=>bif i.k.agg then(bif Nat.ble (off+i.size) cs.length then(takeS i.size (cs.drop off)).bind fun l=>some (.t (.ag l)) else none) else(cs[off]?).bind fun c=>some (.t c)
   | .ref id off=>(H[id]?).bind fun b=>match b with
     | .cells cs=>bif i.k.agg then(bif Nat.ble (off+i.size) cs.length then(takeS i.size (cs.drop off)).bind fun l=>some (.ag l) else none) else cs[off]?
     | _=>none
   | _=>none
def fieldAddrV(tab:Tab)(env:Env)(t:TypeId)(x:Operand)(fi:Nat):Option SV:=
 (env.val x).bind fun v=>(tab.get t).bind fun i=>match i.k with
   | .struct fs=>(fs[fi]?).bind fun p=>(tab.get p.2).bind fun it=>bif Nat.beq it.size 0 then none else match v with
     | .cp cs off=>some (.cp cs (off+p.1))
     | .ref id off=>some (.ref id (off+p.1))
     | .tref _ _ id off=>some (.ref id (off+p.1))
     | _=>none
   | _=>none
def fieldV(tab:Tab)(env:Env)(t:TypeId)(x:Operand)(fi:Nat):Option SV:=
 (env.val x).bind fun v=>(tab.get t).bind fun i=>match i.k with
   | .struct fs=>(fs[fi]?).bind fun p=>(tab.get p.2).bind fun it=>bif it.k.agg then none else(v.parts).bind fun cs=>cs[p.1]?
   | _=>none
def lenV(tab:Tab)(env:Env)(t:TypeId)(x:Operand):Option SV:=
 (env.val x).bind fun v=>(tab.get t).bind fun i=>match i.k with
   | .str=>match v with
     | .t (.v (.string ⟨⟨l⟩⟩))=>some (.t (.v (.int .i64 l.length)))
     | _=>none
   | .slice e=>(tab.get e).bind fun ie=>match v with
     | .ms _ _ _ len=>some (.t (.v (.int .i64 len)))
     | v=>(v.elems ie.size).bind fun es=>some (.t (.v (.int .i64 es.length)))
   | _=>none
def buildV(tab:Tab)(env:Env)(t:TypeId)(parts:Array (Nat×Operand)):Option SV:=
 (tab.get t).bind fun i=>match i.k with
   | .struct fs=>(sizes tab fs).bind fun fz=>(env.parts parts.toList).bind fun ps=>(fillSV fz (i.zero.map .t) ps).bind fun cs=>match allT cs with
     | some ts=>(forceL ts).bind fun ts'=>some (.t (.ag ts'))
     | none=>(forceL cs).bind fun cs'=>some (.ag cs')
   | _=>none
def execV(tab:Tab)(env:Env)(H:Heap):Op->Option SV
 | .move x=>env.val x
 | .assign x=>env.val x
 | .pick c x y=>(env.val c).bind fun v=>match v with
   | .t (.v (.bool true))=>env.val x
   | .t (.v (.bool false))=>env.val y
   | _=>none
 | .unOp .not _ x=>(env.val x).bind fun v=>match v with
   | .t (.v (.bool b))=>some (.t (.v (.bool (!b))))
   | _=>none
 | .load t x=>loadV tab env H t x
 | .fieldAddr t x fi=>fieldAddrV tab env t x fi
 | .field t x fi=>fieldV tab env t x fi
 | .nilCheck x=>(env.val x).bind fun v=>match v with
   | .fn f cs=>some (.fn f cs)
   | v=>bif v.isPtr then some v else none
 | .extract x i=>(env.val x).bind fun v=>match v with
   | .tup vs=>vs[i]?
   | _=>none
 | .makeFunc (.func f) ⟨[]⟩ caps=>(env.vals caps.toList).bind fun vs=>some (.fn f vs)
 | .build t parts=>buildV tab env t parts
 | .call ⟨.builtin .len,⟨[x]⟩,⟨[t]⟩⟩=>lenV tab env t x
 | _=>none
def boxH(c:Bool)(env:Env)(H:Heap)(x:Operand):Option (SV×Heap):=
 (env.val x).bind fun v=>bif v.solid then
   (bif c then(allT v.cells).bind fun ts=>(forceL ts).bind fun ts'=>some (.cp ts' 0,H) else(forceL v.cells).bind fun cs=>some (.ref H.length 0,H++[.cells cs])) else none
def allocH(tab:Tab)(H:Heap)(t:TypeId):Option (SV×Heap):=
 (tab.get t).bind fun i=>(forceL (i.zero.map SV.t)).bind fun cs=>some (.ref H.length 0,H++[.cells cs])
def mapH(tab:Tab)(H:Heap)(t:TypeId):Option (SV×Heap):=
 (tab.get t).bind fun i=>match i.k with
   | .map k e=>some (.mp H.length,H++[.map k e []])
   | _=>none
def sliceH(tab:Tab)(env:Env)(H:Heap)(t:TypeId)(len:Nat)(parts:Array (Nat×Operand)):Option (SV×Heap):=
 (tab.get t).bind fun i=>match i.k with
   | .slice e=>(tab.get e).bind fun ie=>(env.parts parts.toList).bind fun ps=>(elemsOf ie.size 0 ps).bind fun es=>
     bif Nat.beq len es.length && ((es.all fun t=>Nat.beq t.cells.length ie.size) && Nat.ble (len*ie.size) 16777216) then some (.t (.sl ie.size es),H) else none
   | _=>none
def execH(tab:Tab)(c:Bool)(env:Env)(H:Heap):Op->Option (SV×Heap)
 | .box _ x=>boxH c env H x
 | .alloc t=>bif c then none else allocH tab H t
 | .makeMap t none=>mapH tab H t
 | .buildSlice t len parts=>sliceH tab env H t len parts
 | _=>none
def storeH(tab:Tab)(env:Env)(H:Heap)(t:TypeId)(x y:Operand):Option Heap:=
 (env.val x).bind fun vx=>match vx with
   | .ref id off=>(env.val y).bind fun v=>(tab.get t).bind fun i=>bif v.solid && Nat.beq i.size v.cells.length then
     (H[id]?).bind fun b=>match b with
       | .cells cs=>bif Nat.ble 1 v.cells.length && Nat.ble (off+v.cells.length) cs.length then(forceL (splice cs off v.cells)).bind fun cs'=>setS H id (.cells cs') else none
       | _=>none
     else none
   | _=>none
def execN(tab:Tab)(env:Env)(H:Heap):Op->Option Heap
 | .store t x y=>storeH tab env H t x y
 | _=>none
def exec0(tab:Tab)(n:Nat)(c q:Bool)(env:Env)(H:Heap):Option Tmp->Op->Option (Env×Heap)
 | some d,op=>bif Nat.ble (d+1) n then(match execV tab env H op with
    | some v=>some ((d,v)::env,H)
    | none=>bif q then none else(execH tab c env H op).bind fun p=>match p with|(v,H')=>some ((d,v)::env,H')) else none
 | none,op=>bif q then none else(execN tab env H op).bind fun H'=>some (env,H')
def exec1(tab:Tab)(n:Nat)(c q:Bool)(all:Array Oper)(env:Env)(H:Heap)(o:Oper):Option (Env×Heap):=
 (wantB all env o.guard).bind fun b=>bif b then exec0 tab n c q env H o.dst o.op else match o.dst with
   | some d=>bif Nat.ble (d+1) n then some ((d,.t (.v undef))::env,H) else none
   | none=>some (env,H)
theorem bif_some{α:Type}{b:Bool}{x:Option α}{y:α}(h:(bif b then x else none)=some y):b=true/\x=some y:=by
 cases b
 ·cases h
 ·exact⟨rfl,h⟩
theorem vals_mapM{env:Env}:∀ {l:List Operand} {vs:List SV},env.vals l=some vs->l.mapM env.val=some vs
 | [],vs,h=>by simp[Env.vals]at h;subst h;rfl
 | x::r,vs,h=>by
   simp only[Env.vals]at h
   split at h
   ·rename_i v l h1 h2
    cases h
    simp[List.mapM_cons,h1,vals_mapM h2]
   ·cases h
section rules
variable {P:Program}{n:Nat}{env:Env}{H:Heap}{K:TK}{all:Array Oper}{rest:List Oper}{tab:Tab}{q:Bool}
variable {d:Nat}{ty:TypeId}{pos:String}{aft:Array Edge}
theorem loadV_ok(hT:TabOk P tab){t:TypeId}{x:Operand}{v:SV}(hd:Nat.ble (d+1) n=true)(h:loadV tab env H t x=some v)(k:TO q P n all rest ((d,v)::env) H K):
  TO q P n all (⟨some d,.load t x,ty,pos,aft,none⟩::rest) env H K:=by
 simp only[loadV,Option.bind_eq_some_iff]at h
 obtain⟨vx,hx,i,hi,h⟩:=h
 split at h
 ·rename_i cs off
  cases ha:i.k.agg with
  | true=>
    rw[ha]at h
    obtain⟨h0,h⟩:=bif_some h
    simp only[Option.bind_eq_some_iff,Option.some.injEq]at h
    obtain⟨l,hl,rfl⟩:=h
    obtain⟨h1,rfl⟩:=takeS_eq hl
    exact TO.load_agg hT hd hi ha hx (Nat.le_of_ble_eq_true h0) k
  | false=>
    rw[ha]at h
    simp only[cond_false,Option.bind_eq_some_iff,Option.some.injEq]at h
    obtain⟨c,hc,rfl⟩:=h
    exact TO.load hT hd hi ha hx hc k
 ·rename_i id off
  simp only[Option.bind_eq_some_iff]at h
  obtain⟨b,hb,h⟩:=h
  split at h
  ·rename_i cs
   cases ha:i.k.agg with
   | true=>
     rw[ha]at h
     obtain⟨h0,h⟩:=bif_some h
     simp only[Option.bind_eq_some_iff,Option.some.injEq]at h
     obtain⟨l,hl,rfl⟩:=h
     obtain⟨h1,rfl⟩:=takeS_eq hl
     exact TO.load_ref_agg hT hd hi ha hx hb (Nat.le_of_ble_eq_true h0) k
   | false=>
     rw[ha]at h
     simp only[cond_false]at h
     exact TO.load_ref hT hd hi ha hx hb h k
  ·cases h
 ·cases h
theorem fieldAddrV_ok(hT:TabOk P tab){t:TypeId}{x:Operand}{fi:Nat}{v:SV}(hd:Nat.ble (d+1) n=true)(h:fieldAddrV tab env t x fi=some v)(k:TO q P n all rest ((d,v)::env) H K):
  TO q P n all (⟨some d,.fieldAddr t x fi,ty,pos,aft,none⟩::rest) env H K:=by
 simp only[fieldAddrV,Option.bind_eq_some_iff]at h
 obtain⟨vx,hx,i,hi,h⟩:=h
 split at h
 ·rename_i fs hk
  simp only[Option.bind_eq_some_iff]at h
  obtain⟨⟨o,ft⟩,hf,it,hft,h⟩:=h
  cases hz:Nat.beq it.size 0 with
  | true=>rw[hz]at h;cases h
  | false=>
    rw[hz]at h
    have hz':it.size≠0:=fun e=>by rw[e]at hz;cases hz
    simp only[cond_false]at h
    split at h <;> cases h
    ·exact TO.fieldAddr hT hd hi hk hf hft hz' hx k
    ·exact TO.fieldAddr_ref hT hd hi hk hf hft hz' hx k
    ·exact TO.fieldAddr_tref hT hd hi hk hf hft hz' hx k
 ·cases h
theorem fieldV_ok(hT:TabOk P tab){t:TypeId}{x:Operand}{fi:Nat}{v:SV}(hd:Nat.ble (d+1) n=true)(h:fieldV tab env t x fi=some v)(k:TO q P n all rest ((d,v)::env) H K):
  TO q P n all (⟨some d,.field t x fi,ty,pos,aft,none⟩::rest) env H K:=by
 simp only[fieldV,Option.bind_eq_some_iff]at h
 obtain⟨vx,hx,i,hi,h⟩:=h
 split at h
 ·rename_i fs hk
  simp only[Option.bind_eq_some_iff]at h
  obtain⟨⟨o,ft⟩,hf,it,hft,h⟩:=h
  cases ha:it.k.agg with
  | true=>rw[ha]at h;cases h
  | false=>
    rw[ha]at h
    simp only[cond_false,Option.bind_eq_some_iff]at h
    obtain⟨cs,hc,h⟩:=h
    exact TO.field hT hd hi hk hf hft ha hx hc h k
 ·cases h
theorem lenV_ok(hT:TabOk P tab){t:TypeId}{x:Operand}{v:SV}(hd:Nat.ble (d+1) n=true)(h:lenV tab env t x=some v)(k:TO q P n all rest ((d,v)::env) H K):
  TO q P n all (⟨some d,.call { callee:=.builtin .len,args:=#[x],argTypes:=#[t] },ty,pos,aft,none⟩::rest) env H K:=by
 simp only[lenV,Option.bind_eq_some_iff]at h
 obtain⟨vx,hx,i,hi,h⟩:=h
 split at h
 ·rename_i hk
  split at h
  ·cases h
   exact TO.len_str hT hd hi hk hx k
  ·cases h
 ·rename_i e hk
  simp only[Option.bind_eq_some_iff]at h
  obtain⟨ie,he,h⟩:=h
  split at h
  ·cases h
   exact TO.len_ms hT hd hi hk hx k
  ·simp only[Option.bind_eq_some_iff,Option.some.injEq]at h
   obtain⟨es,hes,rfl⟩:=h
   exact TO.len_sl hT hd hi hk he rfl hx hes k
 ·cases h
theorem buildV_ok(hT:TabOk P tab){t:TypeId}{parts:Array (Nat×Operand)}{v:SV}(hd:Nat.ble (d+1) n=true)(h:buildV tab env t parts=some v)(k:TO q P n all rest ((d,v)::env) H K):
  TO q P n all (⟨some d,.build t parts,ty,pos,aft,none⟩::rest) env H K:=by
 simp only[buildV,Option.bind_eq_some_iff]at h
 obtain⟨i,hi,h⟩:=h
 split at h
 ·rename_i fs hk
  simp only[Option.bind_eq_some_iff]at h
  obtain⟨fz,hz,ps,hp,cs,hc,h⟩:=h
  split at h
  ·rename_i ts hts
   simp only[Option.bind_eq_some_iff,Option.some.injEq]at h
   obtain⟨ts',hf,rfl⟩:=h
   rw[forceL_eq hf]at k
   exact TO.buildT hT hd hi hk hz hp hc hts k
  ·simp only[Option.bind_eq_some_iff,Option.some.injEq]at h
   obtain⟨cs',hf,rfl⟩:=h
   rw[forceL_eq hf]at k
   exact TO.build hT hd hi hk hz hp hc k
 ·cases h
theorem execV_ok(hT:TabOk P tab){op:Op}{v:SV}(hd:Nat.ble (d+1) n=true)(h:execV tab env H op=some v)(k:TO q P n all rest ((d,v)::env) H K):
  TO q P n all (⟨some d,op,ty,pos,aft,none⟩::rest) env H K:=by
 unfold execV at h
 split at h
 ·exact TO.move hd h k
 ·exact TO.assign hd h k
 ·simp only[Option.bind_eq_some_iff]at h
  obtain⟨vc,hc,h⟩:=h
  split at h
  ·exact TO.pick hd hc h k
  ·exact TO.pick hd hc h k
  ·cases h
 ·simp only[Option.bind_eq_some_iff]at h
  obtain⟨vx,hx,h⟩:=h
  split at h
  ·cases h
   exact TO.not hd hx k
  ·cases h
 ·exact loadV_ok hT hd h k
 ·exact fieldAddrV_ok hT hd h k
 ·exact fieldV_ok hT hd h k
 ·simp only[Option.bind_eq_some_iff]at h
  obtain⟨vx,hx,h⟩:=h
  split at h
  ·cases h
   exact TO.nilCheck_fn hd hx k
  ·obtain⟨h1,h2⟩:=bif_some h
   cases h2
   exact TO.nilCheck hd hx h1 k
 ·simp only[Option.bind_eq_some_iff]at h
  obtain⟨vx,hx,h⟩:=h
  split at h
  ·exact TO.extract hd hx h k
  ·cases h
 ·simp only[Option.bind_eq_some_iff,Option.some.injEq]at h
  obtain⟨vs,hv,rfl⟩:=h
  exact TO.makeFunc hd (vals_mapM hv) k
 ·exact buildV_ok hT hd h k
 ·exact lenV_ok hT hd h k
 ·cases h
theorem execH_ok(hT:TabOk P tab){c:Bool}{op:Op}{p:SV×Heap}(hd:Nat.ble (d+1) n=true)(h:execH tab c env H op=some p)(k:TO false P n all rest ((d,p.1)::env) p.2 K):
  TO false P n all (⟨some d,op,ty,pos,aft,none⟩::rest) env H K:=by
 unfold execH at h
 split at h
 ·simp only[boxH,Option.bind_eq_some_iff]at h
  obtain⟨v,hx,h⟩:=h
  obtain⟨hs,h⟩:=bif_some h
  cases c with
  | true=>
    simp only[cond_true,Option.bind_eq_some_iff,Option.some.injEq]at h
    obtain⟨ts,ht,ts',hf,rfl⟩:=h
    rw[forceL_eq hf]at k
    exact TO.boxC hd hx hs ht k
  | false=>
    simp only[cond_false,Option.bind_eq_some_iff,Option.some.injEq]at h
    obtain⟨cs,hc,rfl⟩:=h
    exact TO.box hd hx hs (forceL_eq hc).symm k
 ·cases c with
  | true=>cases h
  | false=>
    simp only[cond_false,allocH,Option.bind_eq_some_iff,Option.some.injEq]at h
    obtain⟨i,hi,cs,hc,rfl⟩:=h
    exact TO.alloc hT hd hi (forceL_eq hc).symm k
 ·simp only[mapH,Option.bind_eq_some_iff]at h
  obtain⟨i,hi,h⟩:=h
  split at h
  ·cases h
   exact TO.makeMap _ _ hd k
  ·cases h
 ·simp only[sliceH,Option.bind_eq_some_iff]at h
  obtain⟨i,hi,h⟩:=h
  split at h
  ·rename_i e hk
   simp only[Option.bind_eq_some_iff]at h
   obtain⟨ie,he,ps,hp,es,hes,h⟩:=h
   obtain⟨hb,h⟩:=bif_some h
   simp only[Bool.and_eq_true]at hb
   cases h
   exact TO.buildSliceB hT hd hi hk he rfl hp hes hb.1 hb.2.1 hb.2.2 k
  ·cases h
 ·cases h
theorem storeH_ok(hT:TabOk P tab){t:TypeId}{x y:Operand}{H':Heap}(h:storeH tab env H t x y=some H')(k:TO false P n all rest env H' K):
  TO false P n all (⟨none,.store t x y,ty,pos,aft,none⟩::rest) env H K:=by
 simp only[storeH,Option.bind_eq_some_iff]at h
 obtain⟨vx,hx,h⟩:=h
 split at h
 ·rename_i id off
  simp only[Option.bind_eq_some_iff]at h
  obtain⟨v,hy,i,hi,h⟩:=h
  obtain⟨hb,h⟩:=bif_some h
  simp only[Bool.and_eq_true]at hb
  simp only[Option.bind_eq_some_iff]at h
  obtain⟨b,hH,h⟩:=h
  split at h
  ·rename_i cs
   obtain⟨hc,h⟩:=bif_some h
   simp only[Bool.and_eq_true]at hc
   simp only[Option.bind_eq_some_iff]at h
   obtain⟨cs',hf,hs⟩:=h
   have hs':=setS_eq hs
   rw[forceL_eq hf]at hs'
   exact TO.store hT hi hx hy hb.1 rfl (Nat.eq_of_beq_eq_true hb.2) (Nat.le_of_ble_eq_true hc.1) hH (Nat.le_of_ble_eq_true hc.2) hs'.symm k
  ·cases h
 ·cases h
theorem exec1_ok(hT:TabOk P tab){c:Bool}{o:Oper}{env':Env}{H':Heap}(h:exec1 tab n c q all env H o=some (env',H'))(k:TO q P n all rest env' H' K):
  TO q P n all (o::rest) env H K:=by
 obtain⟨dst,op,ty,pos,aft,g⟩:=o
 simp only[exec1,Option.bind_eq_some_iff]at h
 obtain⟨b,hb,h⟩:=h
 cases b with
 | true=>
   simp only[cond_true]at h
   have key:TO q P n all (⟨dst,op,ty,pos,aft,none⟩::rest) env H K:=by
    cases dst with
    | some d=>
      simp only[exec0]at h
      obtain⟨hd,h⟩:=bif_some h
      split at h
      ·rename_i v hv
       cases h
       exact execV_ok hT hd hv k
      ·cases q with
       | true=>cases h
       | false=>
         simp only[cond_false,Option.bind_eq_some_iff,Option.some.injEq,Prod.mk.injEq]at h
         obtain⟨p,hp,rfl,rfl⟩:=h
         exact execH_ok hT hd hp k
    | none=>
      simp only[exec0]at h
      cases q with
      | true=>cases h
      | false=>
        simp only[cond_false,Option.bind_eq_some_iff,Option.some.injEq,Prod.mk.injEq]at h
        obtain⟨H2,hp,rfl,rfl⟩:=h
        unfold execN at hp
        split at hp
        ·exact storeH_ok hT hp k
        ·cases hp
   cases g with
   | none=>exact key
   | some g=>exact TO.want hb key
 | false=>
   simp only[cond_false]at h
   cases g with
   | none=>simp[wantB]at hb
   | some g=>
     cases dst with
     | some d=>
       obtain⟨hd,h⟩:=bif_some h
       cases h
       exact TO.pass hd hb k
     | none=>cases h;exact TO.pass0 hb k
end rules
def TLes:List T->List T->Prop
 | [],[]=>True
 | a::aas,b::bs=>TLe a b/\TLes aas bs
 | _,_=>False
theorem TLes.get:∀ {aas bs:List T},TLes aas bs->aas.length=bs.length/\∀(i:Nat) a b,aas[i]?=some a->bs[i]?=some b->TLe a b
 | [],[],_=>by simp
 | [],_::_,h=>by cases h
 | _::_,[],h=>by cases h
 | a::aas,b::bs,h=>by
   obtain⟨g1,g2⟩:=TLes.get h.2
   refine⟨by simp[g1],fun i x y hx hy=>?_⟩
   cases i with
   | zero=>simp at hx hy;subst hx;subst hy;exact h.1
   | succ i=>exact g2 i x y (by simpa using hx) (by simpa using hy)
theorem TLe.of_eq{a b:T}(h:a=b):TLe a b:=h ▸ .refl a
theorem TLe.ags{aas bs:List T}(h:TLes aas bs):TLe (.ag aas) (.ag bs):=.ag _ _ h.get.1 h.get.2
theorem unders_ren(r:Nat->Nat){vs:List SV}(h:unders 0 vs=true):rens r vs=vs:=rens_under (N:=0) (fun j hj=>by omega) vs h
section cmps
variable {P:Program}{n:Nat}{env:Env}{H:Heap}{K:TK}{all:Array Oper}{rest:List Oper}{q:Bool}
variable {d:Nat}{ty:TypeId}{pos:String}{aft:Array Edge}{t t':TypeId}{x y:Operand}{ik:IntKind}{a b:Int}
theorem TO.ceq(hd:Nat.ble (d+1) n=true)(hx:env.val x=some (.t (.v (.int ik a))))(hy:env.val y=some (.t (.v (.int ik b))))(ht:a=b->TO q P n all rest ((d,.t (.v (.bool true)))::env) H K)
  (hf:¬(a=b)->TO q P n all rest ((d,.t (.v (.bool false)))::env) H K):TO q P n all (⟨some d,.binOp .eql t x y t',ty,pos,aft,none⟩::rest) env H K:=
 TO.cmp (c:=(a == b)) hd hx hy (by cases ik <;> simp[binEval]) (fun h=>ht (by simpa using h)) (fun h=>hf (by simpa using h))
theorem TO.cne(hd:Nat.ble (d+1) n=true)(hx:env.val x=some (.t (.v (.int ik a))))(hy:env.val y=some (.t (.v (.int ik b))))(ht:a≠b->TO q P n all rest ((d,.t (.v (.bool true)))::env) H K)
  (hf:¬(a≠b)->TO q P n all rest ((d,.t (.v (.bool false)))::env) H K):TO q P n all (⟨some d,.binOp .neq t x y t',ty,pos,aft,none⟩::rest) env H K:=
 TO.cmp (c:=(a != b)) hd hx hy (by cases ik <;> simp[binEval]) (fun h=>ht (by simpa using h)) (fun h=>hf (by simpa using h))
theorem TO.clt(hd:Nat.ble (d+1) n=true)(hx:env.val x=some (.t (.v (.int ik a))))(hy:env.val y=some (.t (.v (.int ik b))))(ht:a<b->TO q P n all rest ((d,.t (.v (.bool true)))::env) H K)
  (hf:¬(a<b)->TO q P n all rest ((d,.t (.v (.bool false)))::env) H K):TO q P n all (⟨some d,.binOp .lss t x y t',ty,pos,aft,none⟩::rest) env H K:=
 TO.cmp (c:=(decide (a<b))) hd hx hy (by cases ik <;> simp[binEval]) (fun h=>ht (by simpa using h)) (fun h=>hf (by simpa using h))
theorem TO.cle(hd:Nat.ble (d+1) n=true)(hx:env.val x=some (.t (.v (.int ik a))))(hy:env.val y=some (.t (.v (.int ik b))))(ht:a≤b->TO q P n all rest ((d,.t (.v (.bool true)))::env) H K)
  (hf:¬(a≤b)->TO q P n all rest ((d,.t (.v (.bool false)))::env) H K):TO q P n all (⟨some d,.binOp .leq t x y t',ty,pos,aft,none⟩::rest) env H K:=
 TO.cmp (c:=(decide (a≤b))) hd hx hy (by cases ik <;> simp[binEval]) (fun h=>ht (by simpa using h)) (fun h=>hf (by simpa using h))
theorem TO.cgt(hd:Nat.ble (d+1) n=true)(hx:env.val x=some (.t (.v (.int ik a))))(hy:env.val y=some (.t (.v (.int ik b))))(ht:b<a->TO q P n all rest ((d,.t (.v (.bool true)))::env) H K)
  (hf:¬(b<a)->TO q P n all rest ((d,.t (.v (.bool false)))::env) H K):TO q P n all (⟨some d,.binOp .gtr t x y t',ty,pos,aft,none⟩::rest) env H K:=
 TO.cmp (c:=(decide (b<a))) hd hx hy (by cases ik <;> simp[binEval]) (fun h=>ht (by simpa using h)) (fun h=>hf (by simpa using h))
theorem TO.cge(hd:Nat.ble (d+1) n=true)(hx:env.val x=some (.t (.v (.int ik a))))(hy:env.val y=some (.t (.v (.int ik b))))(ht:b≤a->TO q P n all rest ((d,.t (.v (.bool true)))::env) H K)
  (hf:¬(b≤a)->TO q P n all rest ((d,.t (.v (.bool false)))::env) H K):TO q P n all (⟨some d,.binOp .geq t x y t',ty,pos,aft,none⟩::rest) env H K:=
 TO.cmp (c:=(decide (b≤a))) hd hx hy (by cases ik <;> simp[binEval]) (fun h=>ht (by simpa using h)) (fun h=>hf (by simpa using h))
theorem TO.seq'{l r:Str}(hd:Nat.ble (d+1) n=true)(hx:env.val x=some (.t (.v (str l))))(hy:env.val y=some (.t (.v (str r))))(ht:l=r->TO q P n all rest ((d,.t (.v (.bool true)))::env) H K)
  (hf:¬(l=r)->TO q P n all rest ((d,.t (.v (.bool false)))::env) H K):TO q P n all (⟨some d,.binOp .eql t x y t',ty,pos,aft,none⟩::rest) env H K:=
 TO.eqs hd hx hy (fun h=>ht (by simpa using h)) (fun h=>hf (by simpa using h))
theorem TO.sne'{l r:Str}(hd:Nat.ble (d+1) n=true)(hx:env.val x=some (.t (.v (str l))))(hy:env.val y=some (.t (.v (str r))))(ht:l≠r->TO q P n all rest ((d,.t (.v (.bool true)))::env) H K)
  (hf:l=r->TO q P n all rest ((d,.t (.v (.bool false)))::env) H K):TO q P n all (⟨some d,.binOp .neq t x y t',ty,pos,aft,none⟩::rest) env H K:=
 TO.nes hd hx hy (fun h=>hf (by simpa using h)) (fun h=>ht (by simpa using h))
theorem TR.condB{c:Operand}{a b:Code}{v:Bool}(hc:env.val c=some (.t (.v (.bool v))))(ht:v=true->TR P n a env H K)(hf:v=false->TR P n b env H K):TR P n (.cond c a b) env H K:=
 TR.cond hc ht hf
theorem TO.callV{cargs:List SV}{v:SV}{f:Operand}{fid:FuncId}{caps:List SV}{args:Array Operand}{ts:Array TypeId}{vs:List SV}(hs:Pure P fid cargs v)(hd:Nat.ble (d+1) n=true)
  (hf:env.val f=some (.fn fid caps))(ha:env.vals args.toList=some vs)(hl:Les (vs++caps) cargs)(hu:unders 0 cargs=true)(hv:v.under 0=true)
  (k:TO false P n all rest ((d,v)::env) H K):
  TO false P n all (⟨some d,.call { callee:=.value f,args:=args,argTypes:=ts },ty,pos,aft,none⟩::rest) env H K:=
 TO.callP hs hd hf ha (by rw[unders_ren _ hu];exact hl) hu (ren_under (N:=0) (fun j hj=>by omega) v hv) k
end cmps
inductive Fr1 where
 | thn (y:Code)
 | blk (i:Nat)
def Kf(P:Program)(n:Nat):List Fr1->TK->TK
 | [],K=>K
 | .thn y::s,K=>Then P n y (Kf P n s K)
 | .blk i::s,K=>InBlock i (Kf P n s K)
inductive St where
 | code (c:Code)
 | ops (q:Bool) (all:Array Oper) (l:List Oper)
 | ex (e:TExit)
structure Cfg where
 st:St
 env:Env
 H:Heap
 fr:List Fr1
def GG(P:Program)(n:Nat)(K:TK):Cfg->Prop
 | ⟨.code c,env,H,fr⟩=>TR P n c env H (Kf P n fr K)
 | ⟨.ops q all l,env,H,fr⟩=>TO q P n all l env H (Kf P n fr K)
 | ⟨.ex e,env,H,fr⟩=>Kf P n fr K e env H
def stepC(tab:Tab)(n:Nat)(c:Bool):Cfg->Option Cfg
 | ⟨.code (.seq x y),env,H,fr⟩=>some ⟨.code x,env,H,.thn y::fr⟩
 | ⟨.code (.block i b),env,H,fr⟩=>some ⟨.code b,env,H,.blk i::fr⟩
 | ⟨.code .skip,env,H,fr⟩=>some ⟨.ex .normal,env,H,fr⟩
 | ⟨.code (.exit i),env,H,fr⟩=>some ⟨.ex (.exit i),env,H,fr⟩
 | ⟨.code .ret,env,H,fr⟩=>some ⟨.ex .ret,env,H,fr⟩
 | ⟨.code (.cond x a b),env,H,fr⟩=>match env.val x with
   | some (.t (.v (.bool true)))=>some ⟨.code a,env,H,fr⟩
   | some (.t (.v (.bool false)))=>some ⟨.code b,env,H,fr⟩
   | _=>none
 | ⟨.code (.region _ ops false),env,H,fr⟩=>some ⟨.ops false ops ops.toList,env,H,fr⟩
 | ⟨.ops _ _ [],env,H,fr⟩=>some ⟨.ex .normal,env,H,fr⟩
 | ⟨.ops q all (o::r),env,H,fr⟩=>match exec1 tab n c q all env H o with
   | some (env',H')=>some ⟨.ops q all r,env',H',fr⟩
   | none=>none
 | ⟨.ex .normal,env,H,.thn y::fr⟩=>some ⟨.code y,env,H,fr⟩
 | ⟨.ex (.exit i),env,H,.thn _::fr⟩=>some ⟨.ex (.exit i),env,H,fr⟩
 | ⟨.ex .ret,env,H,.thn _::fr⟩=>some ⟨.ex .ret,env,H,fr⟩
 | ⟨.ex (.panic v),env,H,.thn _::fr⟩=>some ⟨.ex (.panic v),env,H,fr⟩
 | ⟨.ex .normal,env,H,.blk _::fr⟩=>some ⟨.ex .normal,env,H,fr⟩
 | ⟨.ex (.exit j),env,H,.blk i::fr⟩=>bif Nat.beq j i then some ⟨.ex .normal,env,H,fr⟩ else some ⟨.ex (.exit j),env,H,fr⟩
 | ⟨.ex .ret,env,H,.blk _::fr⟩=>some ⟨.ex .ret,env,H,fr⟩
 | ⟨.ex (.panic v),env,H,.blk _::fr⟩=>some ⟨.ex (.panic v),env,H,fr⟩
 | _=>none
section rules
variable {P:Program}{n:Nat}{K:TK}{tab:Tab}
theorem stepC_ok(hT:TabOk P tab){c:Bool}{x y:Cfg}(h:stepC tab n c x=some y)(k:GG P n K y):GG P n K x:=by
 unfold stepC at h
 split at h
 ·cases h;exact TR.seq k
 ·cases h;exact TR.block k
 ·cases h;exact TR.skip k
 ·cases h;exact TR.exit k
 ·cases h;exact TR.ret k
 ·split at h
  ·rename_i hx;cases h;exact TR.condT hx k
  ·rename_i hx;cases h;exact TR.condF hx k
  ·cases h
 ·rename_i id ops env H fr
  cases h
  obtain⟨l⟩:=ops
  exact TR.region (l:=l) k
 ·cases h;exact TO.nil k
 ·split at h
  ·rename_i env' H' he
   cases h
   exact exec1_ok hT he k
  ·cases h
 ·cases h;exact k
 ·cases h;exact k
 ·cases h;exact k
 ·cases h;exact k
 ·cases h;exact k
 ·rename_i j env H i fr
  cases hb:Nat.beq j i with
  | true=>rw[hb]at h;cases h;exact InBlock.same (K:=Kf P n fr K) hb k
  | false=>rw[hb]at h;cases h;exact InBlock.other (K:=Kf P n fr K) hb k
 ·cases h;exact k
 ·cases h;exact k
 ·cases h
def runC(tab:Tab)(n:Nat)(c:Bool):Nat->Cfg->Cfg
 | 0,x=>x
 | k+1,x=>match stepC tab n c x with
   | some y=>runC tab n c k y
   | none=>x
def run1(tab:Tab)(n:Nat)(c:Bool)(k:Nat)(x:Cfg):Option Cfg:=
 match stepC tab n c x with
 | some y=>some (runC tab n c k y)
 | none=>none
theorem runC_ok(hT:TabOk P tab){c:Bool}:∀(k:Nat) (x:Cfg),GG P n K (runC tab n c k x)->GG P n K x
 | 0,x,h=>h
 | k+1,x,h=>by
   simp only[runC]at h
   split at h
   ·rename_i y hy
    exact stepC_ok hT hy (runC_ok hT k y h)
   ·exact h
theorem run1_ok(hT:TabOk P tab){c:Bool}{k:Nat}{x y:Cfg}(h:run1 tab n c k x=some y)(hk:GG P n K y):GG P n K x:=by
 unfold run1 at h
 split at h
 ·rename_i z hz
  cases h
  exact stepC_ok hT hz (runC_ok hT k z hk)
 ·cases h
theorem TR.go0(hT:TabOk P tab)(k:Nat)(b:Bool){c:Code}{env env':Env}{H H':Heap}{st:St}{fr:List Fr1}(h:run1 tab n b k ⟨.code c,env,H,[]⟩=some ⟨st,env',H',fr⟩)(hk:GG P n K ⟨st,env',H',fr⟩):TR P n c env H K:=
 run1_ok hT h hk
theorem TR.go(hT:TabOk P tab)(k:Nat)(b:Bool){c:Code}{env env':Env}{H H':Heap}{st:St}{fr fr':List Fr1}(h:run1 tab n b k ⟨.code c,env,H,fr⟩=some ⟨st,env',H',fr'⟩)(hk:GG P n K ⟨st,env',H',fr'⟩):TR P n c env H (Kf P n fr K):=
 run1_ok hT h hk
theorem TO.go(hT:TabOk P tab)(k:Nat)(b:Bool){q:Bool}{all:Array Oper}{l:List Oper}{env env':Env}{H H':Heap}{st:St}{fr fr':List Fr1}(h:run1 tab n b k ⟨.ops q all l,env,H,fr⟩=some ⟨st,env',H',fr'⟩)(hk:GG P n K ⟨st,env',H',fr'⟩):TO q P n all l env H (Kf P n fr K):=
 run1_ok hT h hk
theorem TO.go0(hT:TabOk P tab)(k:Nat)(b:Bool){q:Bool}{all:Array Oper}{l:List Oper}{env env':Env}{H H':Heap}{st:St}{fr':List Fr1}(h:run1 tab n b k ⟨.ops q all l,env,H,[]⟩=some ⟨st,env',H',fr'⟩)(hk:GG P n K ⟨st,env',H',fr'⟩):TO q P n all l env H K:=
 run1_ok hT h hk
theorem TExit.go(hT:TabOk P tab)(k:Nat)(b:Bool){e:TExit}{env env':Env}{H H':Heap}{st:St}{fr fr':List Fr1}(h:run1 tab n b k ⟨.ex e,env,H,fr⟩=some ⟨st,env',H',fr'⟩)(hk:GG P n K ⟨st,env',H',fr'⟩):Kf P n fr K e env H:=
 run1_ok hT h hk
theorem TR.loopN{env:Env}{H:Heap}{c:Code}(len:Nat)(I:Nat->Prop)(E:Nat->Env)(G:Nat->Heap)(hI:I 0)
  (s1:∀k,k<len->I k->TR P n c (E k) (G k) (LoopK (fun k=>k≤len/\I k) (fun k=>len-k) E G k K))
  (s2:I len->TR P n c (E len) (G len) (LoopK (fun k=>k≤len/\I k) (fun k=>len-k) E G len K))
  (h0:env.sub (E 0):=by repeat' (first|exact trivial|refine And.intro rfl ?_|fail))(hH:H=G 0:=by rfl):TR P n (.loop c) env H K:=by
 refine TR.loop_ind (fun k=>k≤len/\I k) (fun k=>len-k) E G 0 ⟨Nat.zero_le _,hI⟩ h0 hH ?_
 rintro k ⟨hk,hi⟩
 by_cases h:k<len
 ·exact s1 k h hi
 ·have:k=len:=by omega
  subst this
  exact s2 hi
theorem LoopK.nextN{env:Env}{H:Heap}{len k:Nat}{I:Nat->Prop}{E:Nat->Env}{G:Nat->Heap}(hk:k<len)(hI:I (k+1))
  (h0:env.sub (E (k+1)):=by repeat' (first|exact trivial|refine And.intro rfl ?_|fail))(hH:H=G (k+1):=by rfl):
  LoopK (fun k=>k≤len/\I k) (fun k=>len-k) E G k K .normal env H:=
 LoopK.next (k+1) ⟨hk,hI⟩ (by omega) h0 hH
theorem TExit.fin{e:TExit}{env:Env}{H:Heap}(h:K e env H):Kf P n [] K e env H:=h
theorem GG.tr{c:Code}{env:Env}{H:Heap}{fr:List Fr1}(h:TR P n c env H (Kf P n fr K)):GG P n K ⟨.code c,env,H,fr⟩:=h
theorem GG.tr0{c:Code}{env:Env}{H:Heap}(h:TR P n c env H K):GG P n K ⟨.code c,env,H,[]⟩:=h
theorem GG.to{q:Bool}{all:Array Oper}{l:List Oper}{env:Env}{H:Heap}{fr:List Fr1}(h:TO q P n all l env H (Kf P n fr K)):GG P n K ⟨.ops q all l,env,H,fr⟩:=h
theorem GG.ex{e:TExit}{env:Env}{H:Heap}{fr:List Fr1}(h:Kf P n fr K e env H):GG P n K ⟨.ex e,env,H,fr⟩:=h
theorem GG.stop{e:TExit}{env:Env}{H:Heap}(h:K e env H):GG P n K ⟨.ex e,env,H,[]⟩:=h
end rules
end Go.TL
