import Derived.Test.YtcbhlhmebbkgnaaGreatPk12
import Derived.Test.YtcbhlhmebbkgnaaGreatPk20
import Derived.Test.YtcbhlhmebbkgnaaGreatPk21
import Derived.Test.YtcbhlhmebbkgnaaGreatPk23
import Derived.Test.YtcbhlhmebbkgnaaGreatPk24
set_option linter.unusedSimpArgs false
set_option linter.unusedVariables false
namespace Go.TL
open Go
section rules
variable {P:Program}{n:Nat}{env:Env}{H:Heap}{K:TK}{all:Array Oper}{rest:List Oper}{tab:Tab}
variable {d:Nat}{ty:TypeId}{pos:String}{aft:Array Edge}{q:Bool}
theorem TR.less{c:Code}(i:Nat){v v':SV}(hi:env.look i=some v)(hl:Le v v')(k:TR P n c ((i,v')::env) H K):TR P n c env H K:=by
 intro φ m a h1 h2 h3 h4
 refine k φ m a h1 h2 ⟨h3.1,fun j w hw=>?_⟩ h4
 by_cases hj:i=j
 ·subst hj
  rw[Env.look_cons_same]at hw
  cases hw
  obtain⟨x,x1,x2⟩:=h3.2 i _ hi
  exact⟨x,x1,hl m x x2⟩
 ·rw[Env.look_cons_other _ _ hj]at hw
  exact h3.2 j w hw
theorem TO.rw_nil(x sz:Nat){R:Nat}{e:TypeId}{ops:List Oper}(hx:env.look x=some (.rw R 0))(hH:H[R]?=some (.row e []))
  (k:TO q P n all ops ((x,.t (.sl sz []))::env) H K):TO q P n all ops env H K:=by
 intro φ m a h1 h2 h3 h4
 refine k φ m a h1 h2 ⟨h3.1,fun i v hv=>?_⟩ h4
 by_cases hi:x=i
 ·subst hi
  rw[Env.look_cons_same]at hv
  cases hv
  obtain⟨y,y1,y2⟩:=h3.2 x _ hx
  refine⟨y,y1,?_⟩
  cases y2 with
  | rw _ _ _ p hp hxs ho=>
    have hH1:m.H[R]?=some (.row e []):=by rw[h1];exact hH
    obtain⟨ad,cap,rfl,hc1,hc2,hc3,hc4⟩:=(ho 0 (by rw[hH1];rfl)).2 rfl
    cases ad with
    | none=>
      simp only at hc4
      subst hc4
      exact .t _ _ (.nil sz)
    | some a0=>
      obtain⟨rfl,_⟩:=hc4
      exact .t _ _ (.sl sz [] p.b 0 cap (fun _=>undef) (Nat.zero_le _) (fun i e h=>by simp at h) (fun i j h=>by simp at h) (fun i j h=>by simp at h) (fun i j h=>by simp at h) (fun i e j c h=>by simp at h))
 ·rw[Env.look_cons_other _ _ hi]at hv
  exact h3.2 i v hv
theorem TO.less(i:Nat){ops:List Oper}{v v':SV}(hi:env.look i=some v)(hl:Le v v')(k:TO q P n all ops ((i,v')::env) H K):TO q P n all ops env H K:=by
 intro φ m a h1 h2 h3 h4
 refine k φ m a h1 h2 ⟨h3.1,fun j w hw=>?_⟩ h4
 by_cases hj:i=j
 ·subst hj
  rw[Env.look_cons_same]at hw
  cases hw
  obtain⟨x,x1,x2⟩:=h3.2 i _ hi
  exact⟨x,x1,hl m x x2⟩
 ·rw[Env.look_cons_other _ _ hj]at hw
  exact h3.2 j w hw
theorem TO.shadow{ops:List Oper}{v x:SV}(k:TO q P n all ops ((d,v)::env) H K):TO q P n all ops ((d,v)::(d,x)::env) H K:=by
 intro φ m a h1 h2 h3 h4
 refine k φ m a h1 h2 ⟨h3.1,fun j w hw=>h3.2 j w ?_⟩ h4
 by_cases hj:d=j
 ·subst hj
  rw[Env.look_cons_same]at hw⊢;exact hw
 ·rw[Env.look_cons_other _ _ hj]at hw
  rw[Env.look_cons_other _ _ hj,Env.look_cons_other _ _ hj];exact hw
theorem grow_dead{m:M}(hm:HRel m):Step m ⟨m.A,m.β++[⟨0,0,0⟩],m.H++[.dead],m.w⟩/\HRel ⟨m.A,m.β++[⟨0,0,0⟩],m.H++[.dead],m.w⟩:=by
 have hlen:=hm.len
 have pick:∀(i:Nat) q c,(m.β++[(⟨0,0,0⟩:Place)])[i]?=some q->(m.H++[Blk.dead])[i]?=some c->c.live=true->m.β[i]?=some q/\m.H[i]?=some c:=by
  intro i q c h1 h2 hl
  by_cases hi:i<m.H.length
  ·rw[List.getElem?_append_left (by rw[hlen];exact hi)]at h1
   rw[List.getElem?_append_left hi]at h2
   exact⟨h1,h2⟩
  ·rw[List.getElem?_append_right (by omega)]at h2
   cases hj:i-m.H.length with
   | zero=>rw[hj]at h2;cases h2;cases hl
   | succ j=>rw[hj]at h2;cases h2
 have own:∀b o,Own ⟨m.A,m.β++[⟨0,0,0⟩],m.H++[.dead],m.w⟩ b o->Own m b o:=by
  rintro b o ⟨i,q,c,h1,h2,h3,h4⟩
  exact⟨i,q,c,(pick i q c h1 h2 h3).1,(pick i q c h1 h2 h3).2,h3,h4⟩
 have s:Step m ⟨m.A,m.β++[⟨0,0,0⟩],m.H++[.dead],m.w⟩:=by
  refine⟨rfl,rfl,rfl,Nat.le_refl _,fun _ _ h=>h,fun _ _ h=>.inl h,fun b o h=>.inl (own b o h),fun _ _ _ _=>rfl,fun _ _ _ _ _=>rfl,fun _ _ _=>rfl,fun _ _ h=>h,fun _ L h=>⟨L,h⟩,fun _ _ _ h=>h,fun i q hq=>⟨q,?_,?_⟩⟩
  ·show(m.β++[_])[i]?=some q
   rw[List.getElem?_append_left (List.getElem?_eq_some_iff.1 hq).1];exact hq
  ·show IdStep m.H[i]? (m.H++[Blk.dead])[i]? q q
   rw[List.getElem?_append_left (by rw[<-hlen];exact(List.getElem?_eq_some_iff.1 hq).1)]
   exact IdStep.refl _ _
 refine⟨s,by simp[hlen],fun i q c h1 h2=>?_,fun i j q r c l hij h1 h2 h3 h4 hc hl=>?_,fun b o h hn=>hm.still b o h (own b o hn),hm.inA,fun i q c h1 h2 hc hq=>hm.inO i q c (pick i q c h1 h2 hc).1 (pick i q c h1 h2 hc).2 hc hq⟩
 ·cases hlv:c.live with
  | false=>cases c <;> simp[Blk.live]at hlv;trivial
  | true=>exact(hm.blk i q c (pick i q c h1 h2 hlv).1 (pick i q c h1 h2 hlv).2).step hm s (fun o _ _=>⟨rfl,fun _=>rfl⟩) (fun _=>rfl)
 ·exact hm.apart i j q r c l hij (pick i q c h1 h2 hc).1 (pick i q c h1 h2 hc).2 (pick j r l h3 h4 hl).1 (pick j r l h3 h4 hl).2 hc hl
theorem TO.addDead{ops:List Oper}(k:TO false P n all ops env (H++[.dead]) K):TO false P n all ops env H K:=by
 intro φ m a h1 h2 h3 h4
 obtain⟨s,hm'⟩:=grow_dead h2
 exact TO.step' (m':=⟨m.A,m.β++[⟨0,0,0⟩],m.H++[.dead],m.w⟩) s (k φ ⟨m.A,m.β++[⟨0,0,0⟩],m.H++[.dead],m.w⟩ a (by rw[h1]) hm' (h3.step h2 s) (h4.step h2 s))
theorem TO.callW{H1:Heap}{cargs:List SV}{v:SV}{f:Operand}{fid:FuncId}{caps:List SV}{args:Array Operand}{ts:Array TypeId}{vs:List SV}(hs:Sound P fid cargs H fun r H'=>r= .ret v/\H'=H1)(hd:Nat.ble (d+1) n=true)
  (hf:env.val f=some (.fn fid caps))(ha:env.vals args.toList=some vs)(hl:Les (vs++caps) cargs)(k:TO false P n all rest ((d,v)::env) H1 K):
  TO false P n all (⟨some d,.call { callee:=.value f,args:=args,argTypes:=ts },ty,pos,aft,none⟩::rest) env H K:=
 TO.callA hs hd hf ha hl (fun u H' h=>by obtain⟨h,rfl⟩:=h;cases h;exact k) (fun u H' h=>by cases h.1)
end rules
section rules
variable {P:Program}{n:Nat}{env:Env}{H:Heap}{K:TK}{all:Array Oper}{rest:List Oper}{tab:Tab}{q:Bool}
variable {d:Nat}{ty:TypeId}{pos:String}{aft:Array Edge}
theorem TO.makeBound{f:FuncId}{bs:Array Operand}{vs:List SV}(hd:Nat.ble (d+1) n=true)(hv:env.vals bs.toList=some vs)(k:TO q P n all rest ((d,.bnd f vs)::env) H K):
  TO q P n all (⟨some d,.makeFunc (.func f) bs #[],ty,pos,aft,none⟩::rest) env H K:=
 TO.op hd (fun m ac g1 g2 g3=>⟨.func (.func f) (bs.map ac.eval) #[],fun w' hw'=>by simp[execOp,Instr.makeFunc],by
  obtain⟨h1,h2⟩:=g3.vals _ _ hv
  exact .bnd f vs _ (by simp[h1]) fun i c y hc hy=>h2 i c y hc (by simpa using hy)⟩) k
theorem Le.bnd{f:FuncId}{aas bs:List SV}(h:Les aas bs):Le (.bnd f aas) (.bnd f bs):=fun m x hx=>by
 cases hx with
 | bnd _ _ arr hs hr=>
   obtain⟨g1,g2⟩:=h.get
   refine .bnd f bs arr (by omega) fun i c y hc hy=>?_
   have hlt:=(List.getElem?_eq_some_iff.1 hc).1
   have ha:aas[i]?=some aas[i]:=List.getElem?_eq_getElem (by omega)
   exact g2 i _ c ha hc _ _ (hr i _ y ha hy)
theorem ARelB_of{m:M}{ac:Act}(g:ERel m n env ac.tmps){f:Operand}{fid:FuncId}{bs:List SV}{args:Array Operand}{vs:List SV}(hf:env.val f=some (.bnd fid bs))(ha:env.vals args.toList=some vs):
  ∃arr,ac.eval f= .func (.func fid) arr #[]/\ARel m (bs++vs) (arr++args.map ac.eval):=by
 have h:=g.val hf
 generalize hq:ac.eval f=z at h
 cases h with
 | bnd _ _ arr hs hr=>
   obtain⟨g1,g2⟩:=g.vals _ _ ha
   refine⟨arr,rfl,by simp[g1,hs],fun i s x hs' hx=>?_⟩
   by_cases hi:i<bs.length
   ·rw[List.getElem?_append_left hi]at hs'
    rw[Array.getElem?_append_left (by omega)]at hx
    exact hr _ s x hs' hx
   ·rw[List.getElem?_append_right (by omega)]at hs'
    rw[Array.getElem?_append_right (by omega)]at hx
    exact g2 (i-bs.length) s x hs' (by rw[hs]at hx;simpa using hx)
theorem callB_exec{ac:Act}{f:Operand}{fid:FuncId}{arr:Array Value}{args:Array Operand}{ts:Array TypeId}{w:World}{dd:Option Tmp}(hf:ac.eval f= .func (.func fid) arr #[])(hc:Callable P fid):
  (execOp ac.eval ⟨dd,.call { callee:=.value f,args:=args,argTypes:=ts },ty,pos,aft,none⟩).run P w= .ok (.enter fid (arr++args.map ac.eval)) w:=by
 obtain⟨fn,h1,h2,h3⟩:=hc
 have h2':¬fn.name= "runtime.NumGoroutine":=by simpa using h2
 have h3':¬fn.body=none:=by intro e;simp[e]at h3
 simp[execOp,resolve,hf,Deferred.ofValue,invoke,callFunc,h1,h2',h3']
theorem TO.callBnd{cargs:List SV}{v:SV}{f:Operand}{fid:FuncId}{bs:List SV}{args:Array Operand}{ts:Array TypeId}{vs:List SV}(hs:Pure P fid cargs v)(hd:Nat.ble (d+1) n=true)
  (hf:env.val f=some (.bnd fid bs))(ha:env.vals args.toList=some vs)(hl:Les (bs++vs) cargs)(hu:unders 0 cargs=true)(hv:v.under 0=true)
  (k:TO false P n all rest ((d,v)::env) H K):
  TO false P n all (⟨some d,.call { callee:=.value f,args:=args,argTypes:=ts },ty,pos,aft,none⟩::rest) env H K:=by
 intro φ m ac h1 h2 h3 h4
 subst h1
 obtain⟨arr,hq,har⟩:=ARelB_of h3 hf ha
 have hh:=hands_nil m.H
 have lies:=lies_cut h2 hh
 have hl':Les (bs++vs) (rens (names [] m.H.length) cargs):=by rw[unders_ren _ hu];exact hl
 have harc:ARel (cutM m [] []) cargs (arr++args.map ac.eval):=by
  have h5:=har.le hl'
  refine⟨by rw[h5.1,rens_eq];simp,fun i s x hs' hx=>lies.srel_down (h5.2 i _ x (by rw[rens_eq,List.getElem?_map,hs'];rfl) hx) (unders_get hu i s hs')⟩
 have hcall:=hs.2 (cutM m [] []) _ rfl (lies.hrel h2) harc
 refine wpListIn_plain rfl fun K' hK=>?_
 unfold Oper.wpIn
 refine⟨fun _ _=>trivial,?_⟩
 rw[semAt_val (callB_exec hq hs.1) (by intro d e;cases e)]
 simp only[Oper.uponIn]
 refine⟨fun h=>by simp[Fence.wide]at h,calls_fr (Calls.mono hcall ?_)⟩
 rintro e w' ⟨mc',r,rfl,s,hmc,hr,hR,hR2⟩
 subst hR
 obtain⟨st,hb⟩:=back_ok h2 hh s hmc
 have hlc:([]:List Nat).length≤mc'.H.length:=Nat.zero_le _
 cases e with
 | returned x=>
   have hbH:(back m mc' []).H=m.H:=by
    show patch m.H [] (mc'.H.map _)=m.H
    rw[hR2];simp[patch]
   refine hK _ _ (TO.step' (m':=back m mc' []) st (k φ (back m mc' []) _ hbH hb ((h3.step h2 st).put d (Nat.le_of_ble_eq_true hd) ?_) (by simpa [Act.put]using h4.step h2 st)))
   have:=back_srel h2 hh hmc hlc hr
   rw[ren_under (N:=0) (fun j hj=>by omega) v hv]at this
   exact this
 | _=>simp[ResRel]at hr
theorem TO.makeSliceC(hT:TabOk P tab){t e:TypeId}{i ie:TyI}{sz b c:Nat}{x y:Operand}(hd:Nat.ble (d+1) n=true)(ht:tab.get t=some i)(hk:i.k= .slice e)(he:tab.get e=some ie)(hs:ie.size=sz)(hpos:Nat.ble 1 sz=true)
  (hx:env.val x=some (.i (b:Int)))(hy:env.val y=some (.i (c:Int)))(hbc:b≤c)(h2:c≤10000000000)(hby:Nat.ble ie.bytes 4096=true)
  (k:TO false P n all rest ((d,.ms sz H.length 0 b)::env) (H++[.cells (zerosOf ie.zero c)]) K):TO false P n all (⟨some d,.makeSlice t x y,ty,pos,aft,none⟩::rest) env H K:=
 TO.eff hd (fun m ac g1 g2 g3=>by
  have hp':=Nat.le_of_ble_eq_true hpos
  have hb':=Nat.le_of_ble_eq_true hby
  obtain⟨ti,hti,hti1,hti2⟩:=(hT e ie he).info
  obtain⟨z,hz1,hz2,_,_⟩:=(hT e ie he).zero
  have hln:=(hT e ie he).len
  have hzl:z.cells.size=sz:=by
   have:=(zero_rel (A:=m.A) (w:=m.w) _ _ hz2).1
   simp at this;omega
  have hcm:c*ie.bytes≤10000000000*4096:=Nat.mul_le_mul h2 hb'
  have hw:IntKind.i64.wrap (c:Int)=c:=wrap_in (by omega) (by omega)
  have hwb:IntKind.i64.wrap (b:Int)=b:=wrap_in (by omega) (by omega)
  have hbig2:¬((c:Int)<b):=by omega
  have hbig:¬(281474976710656<(ti.bytes:Int)*(c:Int)):=by
   rw[hti2,<-Int.natCast_mul,Nat.mul_comm];omega
  have hneg:¬((c:Int)<0):=by omega
  have hnegb:¬((b:Int)<0):=by omega
  obtain⟨arr,harr⟩:∃arr:Array Value,arr=Builtin.zeroCells z.cells c:=⟨_,rfl⟩
  have hrun:(Instr.makeSlice t (.int .i64 (b:Int)) (.int .i64 (c:Int))).run P m.w= .ok (.slice (some ⟨m.w.heap.size,0,none⟩) b c) (m.w.alloc (.cells arr e)):=by
   by_cases h0:c*sz=0
   ·have hc0:c=0:=by rcases Nat.mul_eq_zero.1 h0 with h|h <;> omega
    subst hc0
    have hb0:b=0:=by omega
    subst hb0
    have ha:arr= #[]:=by rw[harr];simp[Builtin.zeroCells]
    rw[ha]
    have hw0:IntKind.i64.wrap (0:Int)=0:=by decide
    simp[Instr.makeSlice,underlying,(hT t i ht).slice hk,(hT e ie he).sizeOf,asInt,asIntOf,hw0,typeInfo,hti,newRow,askRoom,roomBytes]
    refine congrArg (fun a=>m.w.alloc (Obj.cells a e)) ?_
    simp[Array.range]
   ·have hroom:¬140737488355328<c*ti.bytes:=by rw[hti2];omega
    have hc0:¬c=0:=by rintro rfl;simp at h0
    have hs0:¬sz=0:=by omega
    rw[harr]
    simp[Instr.makeSlice,underlying,(hT t i ht).slice hk,(hT e ie he).sizeOf,hs,asInt,asIntOf,hw,hwb,typeInfo,hti,hbig,hbig2,hneg,hnegb,hz1,newRow,askRoom,roomBytes,hroom,h0,hc0,hs0,Builtin.zeroCells,hzl]
  have hsize:arr.size=c*ie.zero.length:=by
   rw[harr,zeroCells_size,hzl,hln,hs]
  obtain⟨s,hm'⟩:=grow_zeros g2 (ts:=ie.zero) (z:=z.cells) (e:=e) (arr:=arr) (c:=c) (N:=c) hz2 (by omega) (Nat.le_refl _) hsize (fun j hj=>by
   have hzz:z.cells.size=ie.zero.length:=by omega
   rw[harr,<-hzz]
   rw[<-hzz]at hj
   exact zeroCells_get _ _ _ (by omega) hj)
  refine⟨.slice (some ⟨m.w.heap.size,0,none⟩) b c,⟨m.A,m.β++[⟨m.w.heap.size,0,arr.size⟩],m.H++[.cells (zerosOf ie.zero c)],m.w.alloc (.cells arr e)⟩,by simp[execOp,(g3.val hx).v_eq,(g3.val hy).v_eq,hrun],s,hm',by rw[<-g1],?_⟩
  rw[<-g1]
  refine .ms sz m.H.length 0 b c ⟨m.w.heap.size,0,arr.size⟩ (by simp[g2.len]) (by intro q;simp[tlOf]) hbc ?_
  show 0+0+c*sz=arr.size
  rw[hsize,hln,hs];omega) k
theorem TO.makeSlice(hT:TabOk P tab){t e:TypeId}{i ie:TyI}{sz c:Nat}{x:Operand}(hd:Nat.ble (d+1) n=true)(ht:tab.get t=some i)(hk:i.k= .slice e)(he:tab.get e=some ie)(hs:ie.size=sz)(hpos:Nat.ble 1 sz=true)
  (hx:env.val x=some (.i (c:Int)))(h2:c≤10000000000)(hby:Nat.ble ie.bytes 4096=true)
  (k:TO false P n all rest ((d,.ms sz H.length 0 c)::env) (H++[.cells (zerosOf ie.zero c)]) K):TO false P n all (⟨some d,.makeSlice t x x,ty,pos,aft,none⟩::rest) env H K:=
 TO.makeSliceC hT hd ht hk he hs hpos hx hx (Nat.le_refl c) h2 hby k
theorem TO.copy_ms(hT:TabOk P tab){t t' e:TypeId}{i ie:TyI}{sz id off len:Nat}{cs:List SV}{ys:List T}{x y:Operand}{vy:SV}{H':Heap}(hd:Nat.ble (d+1) n=true)(ht:tab.get t=some i)(hk:i.k= .slice e)
  (he:tab.get e=some ie)(hs:ie.size=sz)(hpos:Nat.ble 1 sz=true)(hx:env.val x=some (.ms sz id off len))(hH:H[id]?=some (.cells cs))(hy:env.val y=some vy)(hvy:vy.elems sz=some ys)
  (hlen:ys.length≤len)(hfit:off+ys.length*sz≤cs.length)(hH':H.set id (.cells (splice cs off ((ys.map T.cells).flatten.map .t)))=H')
  (k:TO false P n all rest ((d,.any)::env) H' K):TO false P n all (⟨some d,.call { callee:=.builtin .copy,args:=#[x,y],argTypes:=#[t,t'] },ty,pos,aft,none⟩::rest) env H K:=
 TO.eff hd (fun m ac g1 g2 g3=>by
  have hp':=Nat.le_of_ble_eq_true hpos
  have hy':=(g3.val hy).elems hvy
  obtain⟨ad,cap',hq⟩:=hy'.slice_inv
  rw[hq]at hy'
  obtain⟨g,f0,f1,f2,f3⟩:=firstCells_run (P:=P) hy' (by omega)
  have h:=g3.val hx
  generalize hz:ac.eval x=z at h
  cases h with
  | ms _ _ _ _ cap p hp hn hc hh=>
    have hH1:m.H[id]?=some (.cells cs):=by rw[g1];exact hH
    obtain⟨b1,b2,b3⟩:=g2.blk id p _ hp hH1
    have hmin:min ys.length len=ys.length:=Nat.min_eq_left hlen
    obtain⟨l1,l2⟩:=flat_cells ys (fun e he=>by obtain⟨j,hj⟩:=List.getElem?_of_mem he;exact f2 j e hj)
    have hrun:(Builtin.copy_ #[t,t'] ty #[.slice (some ⟨p.b,p.lo+off,none⟩) len cap,ac.eval y]).run P m.w=
      ((storeCells ⟨p.b,p.lo+off,none⟩ ((List.range (ys.length*sz)).map g)).run P m.w).andThen fun _ w'=>.ok (goInt ys.length) w':=by
     rw[hq]
     simp[Builtin.copy_,underlying,(hT t i ht).slice hk,(hT e ie he).sizeOf,hs,Builtin.lenOf,hmin,f0 m.w rfl]
    by_cases h0:ys.length*sz=0
    ·have hys:ys=[]:=by
      rcases Nat.mul_eq_zero.1 h0 with h|h
      ·exact List.eq_nil_of_length_eq_zero h
      ·omega
     subst hys
     refine⟨goInt 0,m,?_,Step.refl m,g2,?_,.any _⟩
     ·simp[execOp,resolve,invoke,builtin,hz,hrun,storeCells]
     ·obtain⟨hlt,hg⟩:=List.getElem?_eq_some_iff.1 hH
      have h5:splice cs off ((List.map T.cells []).flatten.map .t)=cs:=by simp[splice]
      have h6:=List.set_getElem_self hlt
      rw[hg]at h6
      rw[g1,<-hH',h5]
      exact h6.symm
    ·obtain⟨s,hm'⟩:=upd_cells g2 (off:=off) (vs:=(ys.map T.cells).flatten.map .t) (ys:=(List.range (ys.length*sz)).map g) hp hH1 (by rw[List.length_map,l1];omega) (by rw[List.length_map,l1];omega) (by rw[List.length_map,l1];simp) (fun v hv=>by simp at hv;obtain⟨q,hq,rfl⟩:=hv;exact f1 q hq) (fun j c v hc' hv=>by
      have hj:=(List.getElem?_eq_some_iff.1 hv).1
      simp at hj
      simp[hj]at hv
      subst hv
      rw[List.getElem?_map]at hc'
      obtain⟨d1,d2,d3⟩:=divmod_lt (show 0<sz by omega) hj
      have hyq:ys[j / sz]?=some ys[j / sz]:=List.getElem?_eq_getElem d1
      have hcl:=f2 _ _ hyq
      have hyc:(ys[j / sz]).cells[j % sz]?=some ((ys[j / sz]).cells[j % sz]'(by omega)):=List.getElem?_eq_getElem (by omega)
      have:=l2 _ _ _ _ hyq hyc
      rw[d3]at this
      rw[this]at hc'
      cases hc'
      have hr:=f3 _ _ _ _ hyq hyc
      rw[d3]at hr
      exact .t _ _ hr)
     have hst:=run_storeCells_cells (P:=P) p.b (p.lo+off) ((List.range (ys.length*sz)).map g) 0 m.w (fun q hq=>(b2 _ (by omega) (by simp at hq;omega)).1) (fun q hq=>(b2 _ (by omega) (by simp at hq;omega)).2)
      (fun v hv=>by simp at hv;obtain⟨q,hq,rfl⟩:=hv;exact f1 q hq)
     refine⟨goInt ys.length,_,?_,s,hm',by rw[g1];exact hH',.any _⟩
     rw[hst]at hrun
     simp[execOp,resolve,invoke,builtin,hz,hrun]) k
theorem TO.copy_none(hT:TabOk P tab){t t' e:TypeId}{i ie:TyI}{sz:Nat}{x y:Operand}{vx vy:SV}(hd:Nat.ble (d+1) n=true)(ht:tab.get t=some i)(hk:i.k= .slice e)
  (he:tab.get e=some ie)(hs:ie.size=sz)(hpos:Nat.ble 1 sz=true)(hx:env.val x=some vx)(hvx:vx.elems sz=some [])(hy:env.val y=some vy)(hvy:vy.elems sz=some [])
  (k:TO false P n all rest ((d,.any)::env) H K):TO false P n all (⟨some d,.call { callee:=.builtin .copy,args:=#[x,y],argTypes:=#[t,t'] },ty,pos,aft,none⟩::rest) env H K:=
 TO.eff hd (fun m ac g1 g2 g3=>by
  have hp':=Nat.le_of_ble_eq_true hpos
  have hy':=(g3.val hy).elems hvy
  have hx':=(g3.val hx).elems hvx
  obtain⟨ad,cap',hq⟩:=hy'.slice_inv
  obtain⟨ad2,cap2,hq2⟩:=hx'.slice_inv
  rw[hq]at hy'
  obtain⟨g,f0,f1,f2,f3⟩:=firstCells_run (P:=P) hy' (by omega)
  refine⟨goInt 0,m,?_,Step.refl m,g2,g1,.any _⟩
  have hf:=f0 m.w rfl
  simp only[List.length_nil]at hf hq2
  have hrun:(Builtin.copy_ #[t,t'] ty #[ac.eval x,ac.eval y]).run P m.w= .ok (goInt 0) m.w:=by
   rw[hq,hq2]
   cases ad2 <;> simp[Builtin.copy_,underlying,(hT t i ht).slice hk,(hT e ie he).sizeOf,hs,Builtin.lenOf,hf,storeCells]
  simp[execOp,resolve,invoke,builtin,hrun]) k
theorem TO.slice_msEnd(hT:TabOk P tab){t e:TypeId}{i ie:TyI}{x z:Operand}{sz id off len:Nat}{ik:IntKind}(hd:Nat.ble (d+1) n=true)(ht:tab.get t=some i)(hk:i.k= .slice e)(he:tab.get e=some ie)(hsz:ie.size=sz)
  (hx:env.val x=some (.ms sz id off len))(hz:env.val z=some (.t (.v (.int ik (len:Int)))))
  (k:TO q P n all rest ((d,.t (.sl sz []))::env) H K):TO q P n all (⟨some d,.slice t x (some z) none none,ty,pos,aft,none⟩::rest) env H K:=
 TO.op hd (fun m ac g1 g2 g3=>by
  have h:=g3.val hx
  generalize hq:ac.eval x=v at h
  cases h with
  | ms _ _ _ _ cap p hp hn hc hh=>
    have hrun:=fun w'=>slice_sl_run (P:=P) hT ht hk he (some ⟨p.b,p.lo+off,none⟩) len cap (some (ac.eval z)) none len len w' (.inr ⟨ik,by rw[(g3.val hz).v_eq]⟩) (.inl ⟨rfl,rfl⟩) (Nat.le_refl _) hc
    by_cases hcl:cap=len
    ·refine⟨.slice (some ⟨p.b,p.lo+off,none⟩) 0 0,fun w' hw'=>?_,.t _ _ (.empty sz _)⟩
     have:=hrun w'
     simp only[hcl,Nat.sub_self]at this
     simp[execOp,hq,hcl,this]
    ·refine⟨.slice (some ⟨p.b,p.lo+off+len*sz,none⟩) 0 (cap-len),fun w' hw'=>?_,.t _ _ (.sl sz [] p.b (p.lo+off+len*sz) (cap-len) (fun _=>undef) (Nat.zero_le _) (by simp) (by simp) (by simp) (by simp) (by simp))⟩
     have:=hrun w'
     rw[if_neg (by omega),hsz]at this
     simp only[Option.map_some,addr_add,Nat.add_assoc,Nat.sub_self]at this
     simp[execOp,hq,Nat.add_assoc,this]) k
end rules
end Go.TL
namespace Go.Proofs.YtcbhlhmebbkgnaaGreat
open Go Go.TL
attribute [local irreducible] TR TO Then InBlock RetK Sound LoopK Kf GG ThenL
theorem wbd{G Q:Prop}{f:FuncId}{cargs:List SV}{v:SV}(hs:Pure Tryz.prog f cargs v)(k:Q)(h:Pure Tryz.prog f cargs v->Hold Q->G:=by
  intro hs k
  (apply Go.TL.TO.callBnd hs;exact rfl;exact rfl;exact rfl;exact Go.TL.Les.refl _;exact rfl;exact rfl;exact k.p)):G:=h hs ⟨k⟩
theorem wmb{G Q:Prop}(k:Q)(h:Hold Q->G:=by
  intro k
  (apply Go.TL.TO.makeBound;exact rfl;exact rfl;exact k.p)):G:=h ⟨k⟩
theorem wvb{G Q:Prop}{f:FuncId}{cargs:List SV}{v:SV}(hs:Pure Tryz.prog f cargs v)(k:Q)(h:Pure Tryz.prog f cargs v->Hold Q->G:=by
  intro hs k
  (apply Go.TL.TO.callV hs;exact rfl;exact rfl;exact rfl;(repeat' (first|exact trivial|exact Go.TL.Le.refl _|refine And.intro ?_ ?_|refine Go.TL.Le.tree rfl ?_|refine Go.TL.Le.bnd ?_|exact Go.TL.TLe.refl _|fail));exact rfl;exact rfl;exact k.p)):G:=h hs ⟨k⟩
def ExT(e:Ex):Prop:=wEx e≤1000000000/\∀x∈flat e,Arity x
def condT(w:Plc)(c:Ex):Int:=if(resT w false c).2≠0 then(resT w false c).2 else if(resT w false c).1.length≠1 then 9 else if(resT w false c).1.headD 0≠1 then 10 else 0
theorem condT_sound(w:Plc)(hw:SmallW w)(c:Ex)(hc:ExT c):Pure Tryz.prog 66 [.t (plcT w),.t (exT c)] (.i (condT w c)):=by
 have hs:=results_sound w hw c hc.1 hc.2 false
 unfold condT
 generalize resT w false c=r at*
 obtain⟨l,f⟩:=r
 simp only at*
 have hml:(l.map T.i).length=l.length:=List.length_map _
 have hx0:0<l.length->(l.map T.i)[(0:Int).toNat]?=some (T.i (l.headD 0)):=by cases l with|nil=>simp|cons a l=>intro _;rfl
 generalize l.headD 0=t0 at*
 rw[exT_eq]at hs⊢
 unfold exC at*
 unfold plcT plcC at*
 clear hc
 by_cases hl:l.length=1
 ·have hx:=hx0 (by omega)
  refine Sound.of tabOk Tryz.func66 (by kernel_rfl) rfl rfl ?_
  repeat' (first|refine wkt ?_|refine wk ?_|exact wkc|intro hc|refine wk2 ?_ ?_|refine wv hs ?_|fail)
  all_goals(refine RetK.pure rfl (Le.of_eq ?_) rfl;refine congrArg (fun z=>SV.t (T.v (Value.int IntKind.i64 z))) ?_;clear hs;grind)
 ·refine Sound.of tabOk Tryz.func66 (by kernel_rfl) rfl rfl ?_
  repeat' (first|refine wkt ?_|refine wk ?_|exact wkc|intro hc|refine wk2 ?_ ?_|refine wv hs ?_|fail)
  all_goals(refine RetK.pure rfl (Le.of_eq ?_) rfl;refine congrArg (fun z=>SV.t (T.v (Value.int IntKind.i64 z))) ?_;clear hs;grind)
theorem tranTy_sound(w:Plc)(hw:SmallW w)(t:Tran)(hc:ExT t.cond):Pure Tryz.prog 151 [.t (plcT w),.t (tranT t)] (.i (condT w t.cond)):=by
 have hs:=condT_sound w hw t.cond hc
 generalize condT w t.cond=z at*
 rw[exT_eq]at hs
 rw[show tranT t= .ag (tranC t) from rfl]
 unfold exC at hs
 unfold tranC
 unfold plcT plcC at*
 refine Sound.of tabOk Tryz.func151 (by kernel_rfl) rfl rfl ?_
 repeat' (first|refine wkt ?_|refine wk ?_|exact wkc|intro hc|refine wk2 ?_ ?_|refine wv hs ?_|fail)
 exact wkr
def eqnT(w:Plc)(q:Equ):Int:=if(resT w false q.right).2≠0 then(resT w false q.right).2 else if(resT w false q.right).1.length≠q.left.length then 9 else if q.left.map (fun s=>(lookT w.env s).1)=(resT w false q.right).1 then 0 else 10
theorem eqnT_sound(w:Plc)(hw:SmallW w)(q:Equ)(hq:q.left.length≤1000000000)(hc:ExT q.right):Pure Tryz.prog 62 [.t (plcT w),.t (equT q)] (.i (eqnT w q)):=by
 have hs:=results_sound w hw q.right hc.1 hc.2 false
 have hz:eqnT w q=eqnT w q:=rfl
 conv at hz=>rhs;unfold eqnT
 generalize eqnT w q=z at hz⊢
 generalize resT w false q.right=r at*
 obtain⟨l,f⟩:=r
 simp only at*
 have hml:(l.map T.i).length=l.length:=List.length_map _
 have hmq:(q.left.map T.s).length=q.left.length:=List.length_map _
 have hty:=fun s=>typeOf_sound w s hw.env
 rw[exT_eq]at hs
 rw[show equT q= .ag (equC q) from rfl]
 unfold exC at hs
 unfold equC
 unfold plcT plcC at*
 clear hc
 refine Sound.of tabOk Tryz.func62 (by kernel_rfl) rfl rfl ?_
 repeat' (first|refine wkt ?_|refine wk ?_|exact wkc|intro hc|refine wk2 ?_ ?_|refine wv hs ?_|fail)
 ·rw[if_pos hc]at hz;subst hz;exact wkr
 ·have hlq:=hc
  clear hc
  have hf:=hc
  rw[if_neg hf,if_pos (by rw[hml,hmq]at hlq;omega)]at hz;subst hz;exact wkr
 have hlq:=hc
 clear hc
 have hf:=hc
 rw[if_neg hf,if_neg (by rw[hml,hmq]at hlq;omega)]at hz
 have hll:l.length=q.left.length:=by rw[hml,hmq]at hlq;omega
 clear hs hlq
 refine TR.loopN q.left.length (fun k=>(q.left.take k).map (fun s=>(lookT w.env s).1)=l.take k) (fun k=>[(2,.cp [.sl 2 (w.p.enums.map enT),nodesT w.p.nodes,T.n w.node,declsT w.env] 0),(5,.t (intsT l)),(28,.t (.sl 1 (q.left.map T.s))),(29,.i (q.left.map T.s).length),(30,.i k)]) (fun _=>[]) rfl (fun k hlt ha=>?_) (fun ha=>?_)
 ·have hx:(q.left.map T.s)[k]?=some (T.s q.left[k]):=at_map T.s hlt
  have hy:(l.map T.i)[k]?=some (T.i (l[k]'(by omega))):=at_ints (by omega)
  have hs:=hty q.left[k]
  have t1:(q.left.take (k+1)).map (fun s=>(lookT w.env s).1)=(q.left.take k).map (fun s=>(lookT w.env s).1)++[(lookT w.env q.left[k]).1]:=by rw[List.take_succ_eq_append_getElem hlt,List.map_append];rfl
  have t2:l.take (k+1)=l.take k++[l[k]'(by omega)]:=List.take_succ_eq_append_getElem (by omega)
  have hne:(lookT w.env q.left[k]).1≠l[k]'(by omega)->¬q.left.map (fun s=>(lookT w.env s).1)=l:=fun h e=>h (by
   have:=congrArg (fun z=>z[k]?) e
   simp only[List.getElem?_map,List.getElem?_eq_getElem hlt,List.getElem?_eq_getElem (show k<l.length by omega),Option.map_some]at this
   exact Option.some.inj this)
  generalize (lookT w.env q.left[k])=u at*
  generalize l[k]'(by omega)=y at*
  generalize q.left[k]=x at*
  obtain⟨u1,u2⟩:=u
  clear hty
  repeat' (first|refine wkt ?_|refine wk ?_|exact wkc|intro hc|refine wk2 ?_ ?_|refine wv hs ?_|fail)
  ·rw[if_neg (hne hc)]at hz
   subst hz;exact wkr
  ·refine LoopK.nextN hlt ?_
   rw[t1,t2,ha,Decidable.not_not.1 hc]
 ·rw[show q.left.length=q.left.length from rfl,List.take_length,<-hll,List.take_length]at ha
  rw[if_pos ha]at hz;subst hz
  repeat' (first|refine wkt ?_|refine wk ?_|exact wkc|intro hc|refine wk2 ?_ ?_|fail)
  exact wkr
end Go.Proofs.YtcbhlhmebbkgnaaGreat
