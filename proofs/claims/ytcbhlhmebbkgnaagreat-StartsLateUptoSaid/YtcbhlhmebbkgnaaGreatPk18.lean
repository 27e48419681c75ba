import Derived.Test.YtcbhlhmebbkgnaaGreatPk7
import Derived.Test.YtcbhlhmebbkgnaaGreatPk8
import Derived.Test.YtcbhlhmebbkgnaaGreatPk14
import Derived.Test.YtcbhlhmebbkgnaaGreatPk16
import Derived.Test.YtcbhlhmebbkgnaaGreatPk17
set_option linter.unusedSimpArgs false
set_option linter.unusedVariables false
namespace Go.TL
open Go
section rules
variable {P:Program}{n:Nat}{env:Env}{H:Heap}{K:TK}{all:Array Oper}{rest:List Oper}{tab:Tab}
variable {d:Nat}{ty:TypeId}{pos:String}{aft:Array Edge}{q:Bool}
theorem TR.less{c:Code}(i:Nat){v v':SV}(hi:env.look i=some v)(hl:Le v v')(k:TR P n c ((i,v')::env) H K):TR P n c env H K:=by
 intro φ m a h1 h2 h3 h4
 refine k φ m a h1 h2 ⟨h3.1,fun j w hw=>?_⟩ h4
 by_cases hj:i=j
 ·subst hj
  rw[Env.zax]at hw
  cases hw
  obtain⟨x,x1,x2⟩:=h3.2 i _ hi
  exact⟨x,x1,hl m x x2⟩
 ·rw[Env.zas _ _ hj]at hw
  exact h3.2 j w hw
theorem TO.zuy(x sz:Nat){R:Nat}{e:TypeId}{ops:List Oper}(hx:env.look x=some (.rw R 0))(hH:H[R]?=some (.row e []))
  (k:TO q P n all ops ((x,.t (.sl sz []))::env) H K):TO q P n all ops env H K:=by
 intro φ m a h1 h2 h3 h4
 refine k φ m a h1 h2 ⟨h3.1,fun i v hv=>?_⟩ h4
 by_cases hi:x=i
 ·subst hi
  rw[Env.zax]at hv
  cases hv
  obtain⟨y,y1,y2⟩:=h3.2 x _ hx
  refine⟨y,y1,?_⟩
  cases y2 with
  | rw _ _ _ p hp hxs ho=>
    have hH1:m.H[R]?=some (.row e []):=by rw[h1];exact hH
    obtain⟨ad,cap,rfl,hc1,hc2,hc3,hc4⟩:=(ho 0 (by rw[hH1];rfl)).2 rfl
    cases ad with
    | none=>
      simp only at hc4
      subst hc4
      exact .t _ _ (.nil sz)
    | some a0=>
      obtain⟨rfl,_⟩:=hc4
      exact .t _ _ (.sl sz [] p.b 0 cap (fun _=>undef) (Nat.zero_le _) (fun i e h=>by simp at h) (fun i j h=>by simp at h) (fun i j h=>by simp at h) (fun i j h=>by simp at h) (fun i e j c h=>by simp at h))
 ·rw[Env.zas _ _ hi]at hv
  exact h3.2 i v hv
theorem TO.less(i:Nat){ops:List Oper}{v v':SV}(hi:env.look i=some v)(hl:Le v v')(k:TO q P n all ops ((i,v')::env) H K):TO q P n all ops env H K:=by
 intro φ m a h1 h2 h3 h4
 refine k φ m a h1 h2 ⟨h3.1,fun j w hw=>?_⟩ h4
 by_cases hj:i=j
 ·subst hj
  rw[Env.zax]at hw
  cases hw
  obtain⟨x,x1,x2⟩:=h3.2 i _ hi
  exact⟨x,x1,hl m x x2⟩
 ·rw[Env.zas _ _ hj]at hw
  exact h3.2 j w hw
theorem TO.shadow{ops:List Oper}{v x:SV}(k:TO q P n all ops ((d,v)::env) H K):TO q P n all ops ((d,v)::(d,x)::env) H K:=by
 intro φ m a h1 h2 h3 h4
 refine k φ m a h1 h2 ⟨h3.1,fun j w hw=>h3.2 j w ?_⟩ h4
 by_cases hj:d=j
 ·subst hj
  rw[Env.zax]at hw⊢;exact hw
 ·rw[Env.zas _ _ hj]at hw
  rw[Env.zas _ _ hj,Env.zas _ _ hj];exact hw
theorem zpN{m:M}(hm:HRel m):Step m ⟨m.A,m.β++[⟨0,0,0⟩],m.H++[.dead],m.w⟩/\HRel ⟨m.A,m.β++[⟨0,0,0⟩],m.H++[.dead],m.w⟩:=by
 have hlen:=hm.len
 have pick:∀(i:Nat) q c,(m.β++[(⟨0,0,0⟩:Place)])[i]?=some q->(m.H++[Blk.dead])[i]?=some c->c.live=true->m.β[i]?=some q/\m.H[i]?=some c:=by
  intro i q c h1 h2 hl
  by_cases hi:i<m.H.length
  ·rw[List.getElem?_append_left (by rw[hlen];exact hi)]at h1
   rw[List.getElem?_append_left hi]at h2
   exact⟨h1,h2⟩
  ·rw[List.getElem?_append_right (by omega)]at h2
   cases hj:i-m.H.length with
   | zero=>rw[hj]at h2;cases h2;cases hl
   | succ j=>rw[hj]at h2;cases h2
 have own:∀b o,Own ⟨m.A,m.β++[⟨0,0,0⟩],m.H++[.dead],m.w⟩ b o->Own m b o:=by
  rintro b o ⟨i,q,c,h1,h2,h3,h4⟩
  exact⟨i,q,c,(pick i q c h1 h2 h3).1,(pick i q c h1 h2 h3).2,h3,h4⟩
 have s:Step m ⟨m.A,m.β++[⟨0,0,0⟩],m.H++[.dead],m.w⟩:=by
  refine⟨rfl,rfl,rfl,Nat.le_refl _,fun _ _ h=>h,fun _ _ h=>.inl h,fun b o h=>.inl (own b o h),fun _ _ _ _=>rfl,fun _ _ _ _ _=>rfl,fun _ _ _=>rfl,fun _ _ h=>h,fun _ L h=>⟨L,h⟩,fun _ _ _ h=>h,fun i q hq=>⟨q,?_,?_⟩⟩
  ·show(m.β++[_])[i]?=some q
   rw[List.getElem?_append_left (List.getElem?_eq_some_iff.1 hq).1];exact hq
  ·show zbb m.H[i]? (m.H++[Blk.dead])[i]? q q
   rw[List.getElem?_append_left (by rw[<-hlen];exact(List.getElem?_eq_some_iff.1 hq).1)]
   exact zbb.refl _ _
 refine⟨s,by simp[hlen],fun i q c h1 h2=>?_,fun i j q r c l hij h1 h2 h3 h4 hc hl=>?_,fun b o h hn=>hm.still b o h (own b o hn),hm.inA,fun i q c h1 h2 hc hq=>hm.inO i q c (pick i q c h1 h2 hc).1 (pick i q c h1 h2 hc).2 hc hq⟩
 ·cases hlv:c.live with
  | false=>cases c <;> simp[Blk.live]at hlv;trivial
  | true=>exact(hm.blk i q c (pick i q c h1 h2 hlv).1 (pick i q c h1 h2 hlv).2).step hm s (fun o _ _=>⟨rfl,fun _=>rfl⟩) (fun _=>rfl)
 ·exact hm.apart i j q r c l hij (pick i q c h1 h2 hc).1 (pick i q c h1 h2 hc).2 (pick j r l h3 h4 hl).1 (pick j r l h3 h4 hl).2 hc hl
theorem TO.zto{ops:List Oper}(k:TO false P n all ops env (H++[.dead]) K):TO false P n all ops env H K:=by
 intro φ m a h1 h2 h3 h4
 obtain⟨s,hm'⟩:=zpN h2
 exact TO.zej (m':=⟨m.A,m.β++[⟨0,0,0⟩],m.H++[.dead],m.w⟩) s (k φ ⟨m.A,m.β++[⟨0,0,0⟩],m.H++[.dead],m.w⟩ a (by rw[h1]) hm' (h3.step h2 s) (h4.step h2 s))
theorem TO.ztH{H1:Heap}{cargs:List SV}{v:SV}{f:Operand}{fid:FuncId}{caps:List SV}{args:Array Operand}{ts:Array TypeId}{vs:List SV}(hs:Sound P fid cargs H fun r H'=>r= .ret v/\H'=H1)(hd:Nat.ble (d+1) n=true)
  (hf:env.val f=some (.fn fid caps))(ha:env.vals args.toList=some vs)(hl:Les (vs++caps) cargs)(k:TO false P n all rest ((d,v)::env) H1 K):
  TO false P n all (⟨some d,.call { callee:=.value f,args:=args,argTypes:=ts },ty,pos,aft,none⟩::rest) env H K:=
 TO.zux hs hd hf ha hl (fun u H' h=>by obtain⟨h,rfl⟩:=h;cases h;exact k) (fun u H' h=>by cases h.1)
end rules
section rules
variable {P:Program}{n:Nat}{env:Env}{H:Heap}{K:TK}{all:Array Oper}{rest:List Oper}{tab:Tab}{q:Bool}
variable {d:Nat}{ty:TypeId}{pos:String}{aft:Array Edge}
theorem TO.zqT{f:FuncId}{bs:Array Operand}{vs:List SV}(hd:Nat.ble (d+1) n=true)(hv:env.vals bs.toList=some vs)(k:TO q P n all rest ((d,.bnd f vs)::env) H K):
  TO q P n all (⟨some d,.makeFunc (.func f) bs #[],ty,pos,aft,none⟩::rest) env H K:=
 TO.op hd (fun m ac g1 g2 g3=>⟨.func (.func f) (bs.map ac.eval) #[],fun w' hw'=>by simp[execOp,Instr.makeFunc],by
  obtain⟨h1,h2⟩:=g3.vals _ _ hv
  exact .bnd f vs _ (by simp[h1]) fun i c y hc hy=>h2 i c y hc (by simpa using hy)⟩) k
theorem Le.bnd{f:FuncId}{aas bs:List SV}(h:Les aas bs):Le (.bnd f aas) (.bnd f bs):=fun m x hx=>by
 cases hx with
 | bnd _ _ arr hs hr=>
   obtain⟨g1,g2⟩:=h.get
   refine .bnd f bs arr (by omega) fun i c y hc hy=>?_
   have hlt:=(List.getElem?_eq_some_iff.1 hc).1
   have ha:aas[i]?=some aas[i]:=List.getElem?_eq_getElem (by omega)
   exact g2 i _ c ha hc _ _ (hr i _ y ha hy)
theorem zr1{m:M}{ac:Act}(g:ERel m n env ac.tmps){f:Operand}{fid:FuncId}{bs:List SV}{args:Array Operand}{vs:List SV}(hf:env.val f=some (.bnd fid bs))(ha:env.vals args.toList=some vs):
  ∃arr,ac.eval f= .func (.func fid) arr #[]/\ARel m (bs++vs) (arr++args.map ac.eval):=by
 have h:=g.val hf
 generalize hq:ac.eval f=z at h
 cases h with
 | bnd _ _ arr hs hr=>
   obtain⟨g1,g2⟩:=g.vals _ _ ha
   refine⟨arr,rfl,by simp[g1,hs],fun i s x hs' hx=>?_⟩
   by_cases hi:i<bs.length
   ·rw[List.getElem?_append_left hi]at hs'
    rw[Array.getElem?_append_left (by omega)]at hx
    exact hr _ s x hs' hx
   ·rw[List.getElem?_append_right (by omega)]at hs'
    rw[Array.getElem?_append_right (by omega)]at hx
    exact g2 (i-bs.length) s x hs' (by rw[hs]at hx;simpa using hx)
theorem zpl{ac:Act}{f:Operand}{fid:FuncId}{arr:Array Value}{args:Array Operand}{ts:Array TypeId}{w:World}{dd:Option Tmp}(hf:ac.eval f= .func (.func fid) arr #[])(hc:Callable P fid):
  (execOp ac.eval ⟨dd,.call { callee:=.value f,args:=args,argTypes:=ts },ty,pos,aft,none⟩).run P w= .ok (.enter fid (arr++args.map ac.eval)) w:=by
 obtain⟨fn,h1,h2,h3⟩:=hc
 have h2':¬fn.name= "runtime.NumGoroutine":=by simpa using h2
 have h3':¬fn.body=none:=by intro e;simp[e]at h3
 simp[execOp,resolve,hf,Deferred.ofValue,invoke,callFunc,h1,h2',h3']
theorem TO.ztj{cargs:List SV}{v:SV}{f:Operand}{fid:FuncId}{bs:List SV}{args:Array Operand}{ts:Array TypeId}{vs:List SV}(hs:Pure P fid cargs v)(hd:Nat.ble (d+1) n=true)
  (hf:env.val f=some (.bnd fid bs))(ha:env.vals args.toList=some vs)(hl:Les (bs++vs) cargs)(hu:unders 0 cargs=true)(hv:v.under 0=true)
  (k:TO false P n all rest ((d,v)::env) H K):
  TO false P n all (⟨some d,.call { callee:=.value f,args:=args,argTypes:=ts },ty,pos,aft,none⟩::rest) env H K:=by
 intro φ m ac h1 h2 h3 h4
 subst h1
 obtain⟨arr,hq,har⟩:=zr1 h3 hf ha
 have hh:=zmB m.H
 have lies:=zhM h2 hh
 have hl':Les (bs++vs) (rens (names [] m.H.length) cargs):=by rw[zjy _ hu];exact hl
 have harc:ARel (cutM m [] []) cargs (arr++args.map ac.eval):=by
  have h5:=har.le hl'
  refine⟨by rw[h5.1,zbJ];simp,fun i s x hs' hx=>lies.zd2 (h5.2 i _ x (by rw[zbJ,List.getElem?_map,hs'];rfl) hx) (zdT hu i s hs')⟩
 have hcall:=hs.2 (cutM m [] []) _ rfl (lies.hrel h2) harc
 refine wpListIn_plain rfl fun K' hK=>?_
 unfold Oper.wpIn
 refine⟨fun _ _=>trivial,?_⟩
 rw[zaT (zpl hq hs.1) (by intro d e;cases e)]
 simp only[Oper.uponIn]
 refine⟨fun h=>by simp[Fence.wide]at h,ze4 (Calls.mono hcall ?_)⟩
 rintro e w' ⟨mc',r,rfl,s,hmc,hr,hR,hR2⟩
 subst hR
 obtain⟨st,hb⟩:=znI h2 hh s hmc
 have hlc:([]:List Nat).length≤mc'.H.length:=Nat.zero_le _
 cases e with
 | returned x=>
   have hbH:(back m mc' []).H=m.H:=by
    show patch m.H [] (mc'.H.map _)=m.H
    rw[hR2];simp[patch]
   refine hK _ _ (TO.zej (m':=back m mc' []) st (k φ (back m mc' []) _ hbH hb ((h3.step h2 st).put d (Nat.le_of_ble_eq_true hd) ?_) (by simpa [Act.put]using h4.step h2 st)))
   have:=zdV h2 hh hmc hlc hr
   rw[zbN (N:=0) (fun j hj=>by omega) v hv]at this
   exact this
 | _=>simp[zb8]at hr
theorem TO.zjZ(hT:zaB P tab){t e:TypeId}{i ie:TyI}{sz b c:Nat}{x y:Operand}(hd:Nat.ble (d+1) n=true)(ht:tab.get t=some i)(hk:i.k= .slice e)(he:tab.get e=some ie)(hs:ie.size=sz)(hpos:Nat.ble 1 sz=true)
  (hx:env.val x=some (.i (b:Int)))(hy:env.val y=some (.i (c:Int)))(hbc:b≤c)(h2:c≤10000000000)(hby:Nat.ble ie.bytes 4096=true)
  (k:TO false P n all rest ((d,.ms sz H.length 0 b)::env) (H++[.cells (zaY ie.zero c)]) K):TO false P n all (⟨some d,.makeSlice t x y,ty,pos,aft,none⟩::rest) env H K:=
 TO.eff hd (fun m ac g1 g2 g3=>by
  have hp':=Nat.le_of_ble_eq_true hpos
  have hb':=Nat.le_of_ble_eq_true hby
  obtain⟨ti,hti,hti1,hti2⟩:=(hT e ie he).info
  obtain⟨z,hz1,hz2,_,_⟩:=(hT e ie he).zero
  have hln:=(hT e ie he).len
  have hzl:z.cells.size=sz:=by
   have:=(zbs (A:=m.A) (w:=m.w) _ _ hz2).1
   simp at this;omega
  have hcm:c*ie.bytes≤10000000000*4096:=Nat.mul_le_mul h2 hb'
  have hw:IntKind.i64.wrap (c:Int)=c:=zeJ (by omega) (by omega)
  have hwb:IntKind.i64.wrap (b:Int)=b:=zeJ (by omega) (by omega)
  have hbig2:¬((c:Int)<b):=by omega
  have hbig:¬(281474976710656<(ti.bytes:Int)*(c:Int)):=by
   rw[hti2,<-Int.natCast_mul,Nat.mul_comm];omega
  have hneg:¬((c:Int)<0):=by omega
  have hnegb:¬((b:Int)<0):=by omega
  obtain⟨arr,harr⟩:∃arr:Array Value,arr=Builtin.zeroCells z.cells c:=⟨_,rfl⟩
  have hrun:(Instr.makeSlice t (.int .i64 (b:Int)) (.int .i64 (c:Int))).run P m.w= .ok (.slice (some ⟨m.w.heap.size,0,none⟩) b c) (m.w.alloc (.cells arr e)):=by
   by_cases h0:c*sz=0
   ·have hc0:c=0:=by rcases Nat.mul_eq_zero.1 h0 with h|h <;> omega
    subst hc0
    have hb0:b=0:=by omega
    subst hb0
    have ha:arr= #[]:=by rw[harr];simp[Builtin.zeroCells]
    rw[ha]
    have hw0:IntKind.i64.wrap (0:Int)=0:=by decide
    simp[Instr.makeSlice,underlying,(hT t i ht).slice hk,(hT e ie he).sizeOf,asInt,asIntOf,hw0,typeInfo,hti,newRow,askRoom,roomBytes]
    refine congrArg (fun a=>m.w.alloc (Obj.cells a e)) ?_
    simp[Array.range]
   ·have hroom:¬140737488355328<c*ti.bytes:=by rw[hti2];omega
    have hc0:¬c=0:=by rintro rfl;simp at h0
    have hs0:¬sz=0:=by omega
    rw[harr]
    simp[Instr.makeSlice,underlying,(hT t i ht).slice hk,(hT e ie he).sizeOf,hs,asInt,asIntOf,hw,hwb,typeInfo,hti,hbig,hbig2,hneg,hnegb,hz1,newRow,askRoom,roomBytes,hroom,h0,hc0,hs0,Builtin.zeroCells,hzl]
  have hsize:arr.size=c*ie.zero.length:=by
   rw[harr,zbQ,hzl,hln,hs]
  obtain⟨s,hm'⟩:=zjF g2 (ts:=ie.zero) (z:=z.cells) (e:=e) (arr:=arr) (c:=c) (N:=c) hz2 (by omega) (Nat.le_refl _) hsize (fun j hj=>by
   have hzz:z.cells.size=ie.zero.length:=by omega
   rw[harr,<-hzz]
   rw[<-hzz]at hj
   exact zeg _ _ _ (by omega) hj)
  refine⟨.slice (some ⟨m.w.heap.size,0,none⟩) b c,⟨m.A,m.β++[⟨m.w.heap.size,0,arr.size⟩],m.H++[.cells (zaY ie.zero c)],m.w.alloc (.cells arr e)⟩,by simp[execOp,(g3.val hx).v_eq,(g3.val hy).v_eq,hrun],s,hm',by rw[<-g1],?_⟩
  rw[<-g1]
  refine .ms sz m.H.length 0 b c ⟨m.w.heap.size,0,arr.size⟩ (by simp[g2.len]) (by intro q;simp[tlOf]) hbc ?_
  show 0+0+c*sz=arr.size
  rw[hsize,hln,hs];omega) k
theorem TO.makeSlice(hT:zaB P tab){t e:TypeId}{i ie:TyI}{sz c:Nat}{x:Operand}(hd:Nat.ble (d+1) n=true)(ht:tab.get t=some i)(hk:i.k= .slice e)(he:tab.get e=some ie)(hs:ie.size=sz)(hpos:Nat.ble 1 sz=true)
  (hx:env.val x=some (.i (c:Int)))(h2:c≤10000000000)(hby:Nat.ble ie.bytes 4096=true)
  (k:TO false P n all rest ((d,.ms sz H.length 0 c)::env) (H++[.cells (zaY ie.zero c)]) K):TO false P n all (⟨some d,.makeSlice t x x,ty,pos,aft,none⟩::rest) env H K:=
 TO.zjZ hT hd ht hk he hs hpos hx hx (Nat.le_refl c) h2 hby k
theorem TO.zlf(hT:zaB P tab){t t' e:TypeId}{i ie:TyI}{sz id off len:Nat}{cs:List SV}{ys:List T}{x y:Operand}{vy:SV}{H':Heap}(hd:Nat.ble (d+1) n=true)(ht:tab.get t=some i)(hk:i.k= .slice e)
  (he:tab.get e=some ie)(hs:ie.size=sz)(hpos:Nat.ble 1 sz=true)(hx:env.val x=some (.ms sz id off len))(hH:H[id]?=some (.cells cs))(hy:env.val y=some vy)(hvy:vy.elems sz=some ys)
  (hlen:ys.length≤len)(hfit:off+ys.length*sz≤cs.length)(hH':H.set id (.cells (splice cs off ((ys.map T.cells).flatten.map .t)))=H')
  (k:TO false P n all rest ((d,.any)::env) H' K):TO false P n all (⟨some d,.call { callee:=.builtin .copy,args:=#[x,y],argTypes:=#[t,t'] },ty,pos,aft,none⟩::rest) env H K:=
 TO.eff hd (fun m ac g1 g2 g3=>by
  have hp':=Nat.le_of_ble_eq_true hpos
  have hy':=(g3.val hy).elems hvy
  obtain⟨ad,cap',hq⟩:=hy'.zbP
  rw[hq]at hy'
  obtain⟨g,f0,f1,f2,f3⟩:=zbw (P:=P) hy' (by omega)
  have h:=g3.val hx
  generalize hz:ac.eval x=z at h
  cases h with
  | ms _ _ _ _ cap p hp hn hc hh=>
    have hH1:m.H[id]?=some (.cells cs):=by rw[g1];exact hH
    obtain⟨b1,b2,b3⟩:=g2.blk id p _ hp hH1
    have hmin:min ys.length len=ys.length:=Nat.min_eq_left hlen
    obtain⟨l1,l2⟩:=zcz ys (fun e he=>by obtain⟨j,hj⟩:=List.getElem?_of_mem he;exact f2 j e hj)
    have hrun:(Builtin.copy_ #[t,t'] ty #[.slice (some ⟨p.b,p.lo+off,none⟩) len cap,ac.eval y]).run P m.w=
      ((storeCells ⟨p.b,p.lo+off,none⟩ ((List.range (ys.length*sz)).map g)).run P m.w).andThen fun _ w'=>.ok (goInt ys.length) w':=by
     rw[hq]
     simp[Builtin.copy_,underlying,(hT t i ht).slice hk,(hT e ie he).sizeOf,hs,Builtin.lenOf,hmin,f0 m.w rfl]
    by_cases h0:ys.length*sz=0
    ·have hys:ys=[]:=by
      rcases Nat.mul_eq_zero.1 h0 with h|h
      ·exact List.eq_nil_of_length_eq_zero h
      ·omega
     subst hys
     refine⟨goInt 0,m,?_,Step.refl m,g2,?_,.any _⟩
     ·simp[execOp,resolve,invoke,builtin,hz,hrun,storeCells]
     ·obtain⟨hlt,hg⟩:=List.getElem?_eq_some_iff.1 hH
      have h5:splice cs off ((List.map T.cells []).flatten.map .t)=cs:=by simp[splice]
      have h6:=List.set_getElem_self hlt
      rw[hg]at h6
      rw[g1,<-hH',h5]
      exact h6.symm
    ·obtain⟨s,hm'⟩:=zfO g2 (off:=off) (vs:=(ys.map T.cells).flatten.map .t) (ys:=(List.range (ys.length*sz)).map g) hp hH1 (by rw[List.length_map,l1];omega) (by rw[List.length_map,l1];omega) (by rw[List.length_map,l1];simp) (fun v hv=>by simp at hv;obtain⟨q,hq,rfl⟩:=hv;exact f1 q hq) (fun j c v hc' hv=>by
      have hj:=(List.getElem?_eq_some_iff.1 hv).1
      simp at hj
      simp[hj]at hv
      subst hv
      rw[List.getElem?_map]at hc'
      obtain⟨d1,d2,d3⟩:=zfJ (show 0<sz by omega) hj
      have hyq:ys[j / sz]?=some ys[j / sz]:=List.getElem?_eq_getElem d1
      have hcl:=f2 _ _ hyq
      have hyc:(ys[j / sz]).cells[j % sz]?=some ((ys[j / sz]).cells[j % sz]'(by omega)):=List.getElem?_eq_getElem (by omega)
      have:=l2 _ _ _ _ hyq hyc
      rw[d3]at this
      rw[this]at hc'
      cases hc'
      have hr:=f3 _ _ _ _ hyq hyc
      rw[d3]at hr
      exact .t _ _ hr)
     have hst:=run_storeCells_cells (P:=P) p.b (p.lo+off) ((List.range (ys.length*sz)).map g) 0 m.w (fun q hq=>(b2 _ (by omega) (by simp at hq;omega)).1) (fun q hq=>(b2 _ (by omega) (by simp at hq;omega)).2)
      (fun v hv=>by simp at hv;obtain⟨q,hq,rfl⟩:=hv;exact f1 q hq)
     refine⟨goInt ys.length,_,?_,s,hm',by rw[g1];exact hH',.any _⟩
     rw[hst]at hrun
     simp[execOp,resolve,invoke,builtin,hz,hrun]) k
theorem TO.zrk(hT:zaB P tab){t t' e:TypeId}{i ie:TyI}{sz:Nat}{x y:Operand}{vx vy:SV}(hd:Nat.ble (d+1) n=true)(ht:tab.get t=some i)(hk:i.k= .slice e)
  (he:tab.get e=some ie)(hs:ie.size=sz)(hpos:Nat.ble 1 sz=true)(hx:env.val x=some vx)(hvx:vx.elems sz=some [])(hy:env.val y=some vy)(hvy:vy.elems sz=some [])
  (k:TO false P n all rest ((d,.any)::env) H K):TO false P n all (⟨some d,.call { callee:=.builtin .copy,args:=#[x,y],argTypes:=#[t,t'] },ty,pos,aft,none⟩::rest) env H K:=
 TO.eff hd (fun m ac g1 g2 g3=>by
  have hp':=Nat.le_of_ble_eq_true hpos
  have hy':=(g3.val hy).elems hvy
  have hx':=(g3.val hx).elems hvx
  obtain⟨ad,cap',hq⟩:=hy'.zbP
  obtain⟨ad2,cap2,hq2⟩:=hx'.zbP
  rw[hq]at hy'
  obtain⟨g,f0,f1,f2,f3⟩:=zbw (P:=P) hy' (by omega)
  refine⟨goInt 0,m,?_,Step.refl m,g2,g1,.any _⟩
  have hf:=f0 m.w rfl
  simp only[List.length_nil]at hf hq2
  have hrun:(Builtin.copy_ #[t,t'] ty #[ac.eval x,ac.eval y]).run P m.w= .ok (goInt 0) m.w:=by
   rw[hq,hq2]
   cases ad2 <;> simp[Builtin.copy_,underlying,(hT t i ht).slice hk,(hT e ie he).sizeOf,hs,Builtin.lenOf,hf,storeCells]
  simp[execOp,resolve,invoke,builtin,hrun]) k
theorem TO.znk(hT:zaB P tab){t e:TypeId}{i ie:TyI}{x z:Operand}{sz id off len:Nat}{ik:IntKind}(hd:Nat.ble (d+1) n=true)(ht:tab.get t=some i)(hk:i.k= .slice e)(he:tab.get e=some ie)(hsz:ie.size=sz)
  (hx:env.val x=some (.ms sz id off len))(hz:env.val z=some (.t (.v (.int ik (len:Int)))))
  (k:TO q P n all rest ((d,.t (.sl sz []))::env) H K):TO q P n all (⟨some d,.slice t x (some z) none none,ty,pos,aft,none⟩::rest) env H K:=
 TO.op hd (fun m ac g1 g2 g3=>by
  have h:=g3.val hx
  generalize hq:ac.eval x=v at h
  cases h with
  | ms _ _ _ _ cap p hp hn hc hh=>
    have hrun:=fun w'=>zcR (P:=P) hT ht hk he (some ⟨p.b,p.lo+off,none⟩) len cap (some (ac.eval z)) none len len w' (.inr ⟨ik,by rw[(g3.val hz).v_eq]⟩) (.inl ⟨rfl,rfl⟩) (Nat.le_refl _) hc
    by_cases hcl:cap=len
    ·refine⟨.slice (some ⟨p.b,p.lo+off,none⟩) 0 0,fun w' hw'=>?_,.t _ _ (.empty sz _)⟩
     have:=hrun w'
     simp only[hcl,Nat.sub_self]at this
     simp[execOp,hq,hcl,this]
    ·refine⟨.slice (some ⟨p.b,p.lo+off+len*sz,none⟩) 0 (cap-len),fun w' hw'=>?_,.t _ _ (.sl sz [] p.b (p.lo+off+len*sz) (cap-len) (fun _=>undef) (Nat.zero_le _) (by simp) (by simp) (by simp) (by simp) (by simp))⟩
     have:=hrun w'
     rw[if_neg (by omega),hsz]at this
     simp only[Option.map_some,zbF,Nat.add_assoc,Nat.sub_self]at this
     simp[execOp,hq,Nat.add_assoc,this]) k
end rules
end Go.TL
namespace Go.Proofs.YtcbhlhmebbkgnaaGreat
open Go Go.TL
attribute [local irreducible] TR TO Then zaw RetK Sound zab Kf GG zaZ
theorem wbd{G Q:Prop}{f:FuncId}{cargs:List SV}{v:SV}(hs:Pure Tryz.prog f cargs v)(k:Q)(h:Pure Tryz.prog f cargs v->Hold Q->G:=by
  intro hs k
  (apply TO.ztj hs;(iterate 3 exact rfl);exact Go.TL.Les.refl _;exact rfl;exact rfl;exact k.p)):G:=h hs ⟨k⟩
theorem wmb{G Q:Prop}(k:Q)(h:Hold Q->G:=by
  intro k
  (apply TO.zqT;exact rfl;exact rfl;exact k.p)):G:=h ⟨k⟩
theorem wvb{G Q:Prop}{f:FuncId}{cargs:List SV}{v:SV}(hs:Pure Tryz.prog f cargs v)(k:Q)(h:Pure Tryz.prog f cargs v->Hold Q->G:=by
  intro hs k
  (apply TO.zev hs;(iterate 3 exact rfl);(repeat' (first|exact trivial|exact Le.refl _|refine And.intro ?_ ?_|refine Le.tree rfl ?_|refine Le.bnd ?_|exact TLe.refl _|fail));exact rfl;exact rfl;exact k.p)):G:=h hs ⟨k⟩
def ExT(e:Ex):Prop:=wEx e≤1000000000/\∀x∈flat e,Arity x
def zbS(w:Plc)(c:Ex):Int:=if(resT w false c).2≠0 then(resT w false c).2 else if(resT w false c).1.length≠1 then 9 else if(resT w false c).1.headD 0≠1 then 10 else 0
theorem zfp(w:Plc)(hw:zbp w)(c:Ex)(hc:ExT c):Pure Tryz.prog 66 [.t (plcT w),.t (exT c)] (.i (zbS w c)):=by
 have hs:=zd6 w hw c hc.1 hc.2 false
 unfold zbS
 generalize resT w false c=r at*
 obtain⟨l,f⟩:=r
 simp only at*
 have hml:(l.map T.i).length=l.length:=List.length_map _
 have hx0:0<l.length->(l.map T.i)[(0:Int).toNat]?=some (T.i (l.headD 0)):=by cases l with|nil=>simp|cons a l=>intro _;rfl
 generalize l.headD 0=t0 at*
 rw[zaA]at hs⊢
 unfold exC at*
 unfold plcT plcC at*
 clear hc
 by_cases hl:l.length=1
 ·have hx:=hx0 (by omega)
  refine so Tryz.func66 ?_
  repeat' (first|refine wu ?_|exact wkc|intro hc|refine wk2 ?_ ?_|refine wv hs ?_|fail)
  all_goals(refine RetK.pure rfl (Le.of_eq ?_) rfl;refine congrArg (fun z=>SV.t (T.v (Value.int IntKind.i64 z))) ?_;clear hs;grind)
 ·refine so Tryz.func66 ?_
  repeat' (first|refine wu ?_|exact wkc|intro hc|refine wk2 ?_ ?_|refine wv hs ?_|fail)
  all_goals(refine RetK.pure rfl (Le.of_eq ?_) rfl;refine congrArg (fun z=>SV.t (T.v (Value.int IntKind.i64 z))) ?_;clear hs;grind)
theorem zhi(w:Plc)(hw:zbp w)(t:Tran)(hc:ExT t.cond):Pure Tryz.prog 151 [.t (plcT w),.t (zat t)] (.i (zbS w t.cond)):=by
 have hs:=zfp w hw t.cond hc
 generalize zbS w t.cond=z at*
 rw[zaA]at hs
 rw[show zat t= .ag (zgC t) from rfl]
 unfold exC at hs
 unfold zgC
 unfold plcT plcC at*
 refine so Tryz.func151 ?_
 repeat' (first|refine wu ?_|exact wkc|intro hc|refine wk2 ?_ ?_|refine wv hs ?_|fail)
 exact wkr
def eqnT(w:Plc)(q:Equ):Int:=if(resT w false q.right).2≠0 then(resT w false q.right).2 else if(resT w false q.right).1.length≠q.left.length then 9 else if q.left.map (fun s=>(zbu w.env s).1)=(resT w false q.right).1 then 0 else 10
theorem zjE(w:Plc)(hw:zbp w)(q:Equ)(hq:q.left.length≤1000000000)(hc:ExT q.right):Pure Tryz.prog 62 [.t (plcT w),.t (equT q)] (.i (eqnT w q)):=by
 have hs:=zd6 w hw q.right hc.1 hc.2 false
 have hz:eqnT w q=eqnT w q:=rfl
 conv at hz=>rhs;unfold eqnT
 generalize eqnT w q=z at hz⊢
 generalize resT w false q.right=r at*
 obtain⟨l,f⟩:=r
 simp only at*
 have hml:(l.map T.i).length=l.length:=List.length_map _
 have hmq:(q.left.map T.s).length=q.left.length:=List.length_map _
 have hty:=fun s=>zeN w s hw.env
 rw[zaA]at hs
 rw[show equT q= .ag (equC q) from rfl]
 unfold exC at hs
 unfold equC
 unfold plcT plcC at*
 clear hc
 refine so Tryz.func62 ?_
 repeat' (first|refine wu ?_|exact wkc|intro hc|refine wk2 ?_ ?_|refine wv hs ?_|fail)
 ·rw[if_pos hc]at hz;subst hz;exact wkr
 ·have hlq:=hc
  clear hc
  have hf:=hc
  rw[if_neg hf,if_pos (by rw[hml,hmq]at hlq;omega)]at hz;subst hz;exact wkr
 have hlq:=hc
 clear hc
 have hf:=hc
 rw[if_neg hf,if_neg (by rw[hml,hmq]at hlq;omega)]at hz
 have hll:l.length=q.left.length:=by rw[hml,hmq]at hlq;omega
 clear hs hlq
 refine TR.zal q.left.length (fun k=>(q.left.take k).map (fun s=>(zbu w.env s).1)=l.take k) (fun k=>[(2,.cp [.sl 2 (w.p.enums.map enT),zag w.p.nodes,T.n w.node,zac w.env] 0),(5,.t (za5 l)),(28,.t (.sl 1 (q.left.map T.s))),(29,.i (q.left.map T.s).length),(30,.i k)]) (fun _=>[]) rfl (fun k hlt ha=>?_) (fun ha=>?_)
 ·have hx:(q.left.map T.s)[k]?=some (T.s q.left[k]):=zaX T.s hlt
  have hy:(l.map T.i)[k]?=some (T.i (l[k]'(by omega))):=zdM (by omega)
  have hs:=hty q.left[k]
  have t1:(q.left.take (k+1)).map (fun s=>(zbu w.env s).1)=(q.left.take k).map (fun s=>(zbu w.env s).1)++[(zbu w.env q.left[k]).1]:=by rw[List.take_succ_eq_append_getElem hlt,List.map_append];rfl
  have t2:l.take (k+1)=l.take k++[l[k]'(by omega)]:=List.take_succ_eq_append_getElem (by omega)
  have hne:(zbu w.env q.left[k]).1≠l[k]'(by omega)->¬q.left.map (fun s=>(zbu w.env s).1)=l:=fun h e=>h (by
   have:=congrArg (fun z=>z[k]?) e
   simp only[List.getElem?_map,List.getElem?_eq_getElem hlt,List.getElem?_eq_getElem (show k<l.length by omega),Option.map_some]at this
   exact Option.some.inj this)
  generalize (zbu w.env q.left[k])=u at*
  generalize l[k]'(by omega)=y at*
  generalize q.left[k]=x at*
  obtain⟨u1,u2⟩:=u
  clear hty
  repeat' (first|refine wu ?_|exact wkc|intro hc|refine wk2 ?_ ?_|refine wv hs ?_|fail)
  ·rw[if_neg (hne hc)]at hz
   subst hz;exact wkr
  ·refine zab.zak hlt ?_
   rw[t1,t2,ha,Decidable.not_not.1 hc]
 ·rw[show q.left.length=q.left.length from rfl,List.take_length,<-hll,List.take_length]at ha
  rw[if_pos ha]at hz;subst hz
  repeat' (first|refine wu ?_|exact wkc|intro hc|refine wk2 ?_ ?_|fail)
  exact wkr
theorem zfS(fid:FuncId)(b:T)(f:Ex->Int)(l:List Ex)(hl:l.length≤1000000000)(hp:∀x∈l,Pure Tryz.prog fid [.t b,.t (exT x)] (.i (f x))):
  Pure Tryz.prog 65 [.t (.sl 6 (l.map exT)),.bnd fid [.t b]] (.i (zaa f l)):=by
 have hml:(l.map exT).length=l.length:=List.length_map _
 refine so Tryz.func65 ?_
 repeat' (first|refine wk ?_|exact wkc|intro hc|refine wk2 ?_ ?_|fail)
 refine TR.zal l.length (fun k=>zaa f (l.take k)=0) (fun k=>[(1,.bnd fid [.t b]),(8,.t (.sl 6 (l.map exT))),(9,.i (l.map exT).length),(10,.i k)]) (fun _=>[]) rfl (fun k hlt ha=>?_) (fun ha=>?_)
 ·have hx:=zaX exT hlt
  have g1:=zan (f:=f) hlt ha
  have g2:=zai (f:=f) hlt ha
  have hd:=hp _ (List.getElem_mem hlt)
  generalize l[k]=x at*
  generalize f x=fx at*
  rw[zaA x]at hx hd
  unfold exC at*
  repeat' (first|refine wkt ?_|refine wka ?_|refine wk ?_|exact wkc|intro hc|refine wk2 ?_ ?_|refine wbd hd ?_|fail)
  ·rw[g1 hc];exact wkr
  ·exact zab.zak hlt (g2 (Decidable.not_not.1 hc))
 ·rw[zar ha]
  repeat' (first|refine wk ?_|exact wkc|intro hc|refine wk2 ?_ ?_|fail)
  exact wkr
theorem zfG(fid:FuncId)(b:T)(f:Tran->Int)(l:List Tran)(hl:l.length≤1000000000)(hp:∀x∈l,Pure Tryz.prog fid [.t b,.t (zat x)] (.i (f x))):
  Pure Tryz.prog 150 [.t (.sl 8 (l.map zat)),.bnd fid [.t b]] (.i (zaa f l)):=by
 have hml:(l.map zat).length=l.length:=List.length_map _
 refine so Tryz.func150 ?_
 repeat' (first|refine wk ?_|exact wkc|intro hc|refine wk2 ?_ ?_|fail)
 refine TR.zal l.length (fun k=>zaa f (l.take k)=0) (fun k=>[(1,.bnd fid [.t b]),(8,.t (.sl 8 (l.map zat))),(9,.i (l.map zat).length),(10,.i k)]) (fun _=>[]) rfl (fun k hlt ha=>?_) (fun ha=>?_)
 ·have hx:=zaX zat hlt
  have g1:=zan (f:=f) hlt ha
  have g2:=zai (f:=f) hlt ha
  have hd:=hp _ (List.getElem_mem hlt)
  generalize l[k]=x at*
  generalize f x=fx at*
  rw[(show ∀t:Tran,zat t= .ag (zgC t) from fun _=>rfl) x]at hx hd
  unfold zgC at*
  repeat' (first|refine wkt ?_|refine wka ?_|refine wk ?_|exact wkc|intro hc|refine wk2 ?_ ?_|refine wbd hd ?_|fail)
  ·rw[g1 hc];exact wkr
  ·exact zab.zak hlt (g2 (Decidable.not_not.1 hc))
 ·rw[zar ha]
  repeat' (first|refine wk ?_|exact wkc|intro hc|refine wk2 ?_ ?_|fail)
  exact wkr
theorem zk3(fid:FuncId)(b:T)(f:Equ->Int)(l:List Equ)(hl:l.length≤1000000000)(hp:∀x∈l,Pure Tryz.prog fid [.t b,.t (equT x)] (.i (f x))):
  Pure Tryz.prog 153 [.t (.sl 7 (l.map equT)),.bnd fid [.t b]] (.i (zaa f l)):=by
 have hml:(l.map equT).length=l.length:=List.length_map _
 refine so Tryz.func153 ?_
 repeat' (first|refine wk ?_|exact wkc|intro hc|refine wk2 ?_ ?_|fail)
 refine TR.zal l.length (fun k=>zaa f (l.take k)=0) (fun k=>[(1,.bnd fid [.t b]),(8,.t (.sl 7 (l.map equT))),(9,.i (l.map equT).length),(10,.i k)]) (fun _=>[]) rfl (fun k hlt ha=>?_) (fun ha=>?_)
 ·have hx:=zaX equT hlt
  have g1:=zan (f:=f) hlt ha
  have g2:=zai (f:=f) hlt ha
  have hd:=hp _ (List.getElem_mem hlt)
  generalize l[k]=x at*
  generalize f x=fx at*
  rw[(show ∀t:Equ,equT t= .ag (equC t) from fun _=>rfl) x]at hx hd
  unfold equC at*
  repeat' (first|refine wkt ?_|refine wka ?_|refine wk ?_|exact wkc|intro hc|refine wk2 ?_ ?_|refine wbd hd ?_|fail)
  ·rw[g1 hc];exact wkr
  ·exact zab.zak hlt (g2 (Decidable.not_not.1 hc))
 ·rw[zar ha]
  repeat' (first|refine wk ?_|exact wkc|intro hc|refine wk2 ?_ ?_|fail)
  exact wkr
theorem zkV(fid:FuncId)(b:T)(f:Sta->Int)(l:List Sta)(hl:l.length≤1000000000)(hp:∀x∈l,Pure Tryz.prog fid [.t b,.t (staT x)] (.i (f x))):
  Pure Tryz.prog 100 [.t (.sl 6 (l.map staT)),.bnd fid [.t b]] (.i (zaa f l)):=by
 have hml:(l.map staT).length=l.length:=List.length_map _
 refine so Tryz.func100 ?_
 repeat' (first|refine wk ?_|exact wkc|intro hc|refine wk2 ?_ ?_|fail)
 refine TR.zal l.length (fun k=>zaa f (l.take k)=0) (fun k=>[(1,.bnd fid [.t b]),(8,.t (.sl 6 (l.map staT))),(9,.i (l.map staT).length),(10,.i k)]) (fun _=>[]) rfl (fun k hlt ha=>?_) (fun ha=>?_)
 ·have hx:=zaX staT hlt
  have g1:=zan (f:=f) hlt ha
  have g2:=zai (f:=f) hlt ha
  have hd:=hp _ (List.getElem_mem hlt)
  generalize l[k]=x at*
  generalize f x=fx at*
  rw[zf6 x]at hx hd
  unfold staC at*
  repeat' (first|refine wkt ?_|refine wka ?_|refine wk ?_|exact wkc|intro hc|refine wk2 ?_ ?_|refine wbd hd ?_|fail)
  ·rw[g1 hc];exact wkr
  ·exact zab.zak hlt (g2 (Decidable.not_not.1 hc))
 ·rw[zar ha]
  repeat' (first|refine wk ?_|exact wkc|intro hc|refine wk2 ?_ ?_|fail)
  exact wkr
theorem zfB(fid:FuncId)(b:T)(f:Auto->Int)(l:List Auto)(hl:l.length≤1000000000)(hp:∀x∈l,Pure Tryz.prog fid [.t b,.t (zaj x)] (.i (f x))):
  Pure Tryz.prog 63 [.t (.sl 1 (l.map zaj)),.bnd fid [.t b]] (.i (zaa f l)):=by
 have hml:(l.map zaj).length=l.length:=List.length_map _
 refine so Tryz.func63 ?_
 repeat' (first|refine wk ?_|exact wkc|intro hc|refine wk2 ?_ ?_|fail)
 refine TR.zal l.length (fun k=>zaa f (l.take k)=0) (fun k=>[(1,.bnd fid [.t b]),(8,.t (.sl 1 (l.map zaj))),(9,.i (l.map zaj).length),(10,.i k)]) (fun _=>[]) rfl (fun k hlt ha=>?_) (fun ha=>?_)
 ·have hx:=zaX zaj hlt
  have g1:=zan (f:=f) hlt ha
  have g2:=zai (f:=f) hlt ha
  have hd:=hp _ (List.getElem_mem hlt)
  generalize l[k]=x at*
  generalize f x=fx at*
  rw[zeO x]at hx hd
  unfold zcg at*
  repeat' (first|refine wkt ?_|refine wka ?_|refine wk ?_|exact wkc|intro hc|refine wk2 ?_ ?_|refine wbd hd ?_|fail)
  ·rw[g1 hc];exact wkr
  ·exact zab.zak hlt (g2 (Decidable.not_not.1 hc))
 ·rw[zar ha]
  repeat' (first|refine wk ?_|exact wkc|intro hc|refine wk2 ?_ ?_|fail)
  exact wkr
def zad{α β:Type}(f:β->α->β×Int):β->List α->β×Int
 | a,[]=>(a,0)
 | a,x::l=>if(f a x).2=0 then zad f (f a x).1 l else f a x
theorem zeK{α β:Type}(f:β->α->β×Int):∀(l r:List α) (a:β),zad f a (l++r)=if(zad f a l).2=0 then zad f (zad f a l).1 r else zad f a l
 | [],r,a=>by simp[zad]
 | x::l,r,a=>by
   simp only[List.cons_append,zad]
   by_cases h:(f a x).2=0
   ·simp only[h,if_true];exact zeK f l r _
   ·simp[h]
theorem zaN{α β:Type}{f:β->α->β×Int}{a:β}{l:List α}{k:Nat}(hk:k<l.length)(h:(zad f a (l.take k)).2=0):zad f a (l.take (k+1))=f (zad f a (l.take k)).1 l[k]:=by
 rw[List.take_succ_eq_append_getElem hk,zeK,if_pos h,zad]
 split
 ·rename_i h2
  generalize f (zad f a (l.take k)).1 l[k]=z at*
  obtain⟨z1,z2⟩:=z
  simp only at h2;subst h2;rfl
 ·rfl
theorem zbl{α β:Type}{f:β->α->β×Int}{a:β}{l:List α}{k:Nat}(hk:k<l.length)(h:(zad f a (l.take k)).2=0)(hn:(f (zad f a (l.take k)).1 l[k]).2≠0):zad f a l=f (zad f a (l.take k)).1 l[k]:=by
 conv=>lhs;rw[<-List.take_append_drop k l]
 rw[zeK,if_pos h,List.drop_eq_getElem_cons hk,zad,if_neg hn]
def Lv.zg1(a:Lv)(s:Str):Lv:={ a with own:=ins a.own s }
theorem Lv.ok.zg1{a:Lv}(h:a.ok){s:Str}(hs:s.length≤1000000000):(a.zg1 s).ok:=⟨h.own.ins hs,h.done⟩
def zbz(seen:List (Int×Str×Int))(vis0:List Str)(a:Lv)(d:Decl):Lv×Int:=(a.zg1 d.name,if(zay seen 0 d.name).isSome=true\/d.name∈vis0++a.own then 7 else 0)
def zif(seen:List (Int×Str×Int))(vis0:List Str)(a:Lv)(l:List Decl):Lv×Int:=zad (zbz seen vis0) a l
theorem Ch.zqS{h:Ch}(hk:h.ok):h.top.ok:=by
 cases h
 case one=>exact hk
 case c1=>exact hk.2
 case c2=>exact hk.2.2
 case c3=>exact hk.2.2.2
 case c4=>exact hk.2.2.2.2
theorem Ch.zrc{h:Ch}(hk:h.ok){x:Lv}(hx:x.ok):(h.set x).ok:=by
 cases h
 case one=>exact hx
 case c1=>exact⟨hk.1,hx⟩
 case c2=>exact⟨hk.1,hk.2.1,hx⟩
 case c3=>exact⟨hk.1,hk.2.1,hk.2.2.1,hx⟩
 case c4=>exact⟨hk.1,hk.2.1,hk.2.2.1,hk.2.2.2.1,hx⟩
@[simp] theorem Ch.znf (h:Ch) (x:Lv):(h.set x).top=x:=by cases h <;> rfl
@[simp] theorem Ch.zkR (h:Ch) (x:Lv):(h.set x).vis0=h.vis0:=by cases h <;> rfl
@[simp] theorem Ch.ztZ (h:Ch) (x:Lv):(h.set x).low=h.low:=by cases h <;> rfl
@[simp] theorem Ch.set_set (h:Ch) (x y:Lv):(h.set x).set y=h.set y:=by cases h <;> rfl
theorem zfC(p:Prog)(n q:Int)(seen:List (Int×Str×Int))(hse:za4 seen)(h:Ch)(hk0:h.ok)(l:List Decl)(hw:(zac l).w≤1000000000):
  SS 145 [.ref h.id 0,.t (zac l)] p n q seen h (h.set (zif seen h.vis0 h.top l).1) (zif seen h.vis0 h.top l).2:=by
 have hml:(l.map zah).length=l.length:=List.length_map _
 have hlb:l.length≤1000000000:=Nat.le_trans (Nat.le_of_lt (zaq zah 3 l)) hw
 unfold zif
 have ht0:=Ch.zqS hk0
 have hset:=fun{x:Lv} (hx:x.ok)=>Ch.zrc hk0 hx
 clear hk0
 revert ht0 hset
 revert h
 refine Ch.lt fun h=>?_
 cases h
 all_goals
  intro g ht0 hset
  refine Sound.err rfl (fun _=>rfl) ?_
  refine so Tryz.func145 ?_
  refine TR.dead ?_
  repeat' (first|refine wu ?_|exact wkc|intro hc|refine wk2 ?_ ?_|fail)
  refine TR.zal l.length (fun k=>(zad (zbz seen g.vis0) g.top (l.take k)).2=0/\(zad (zbz seen g.vis0) g.top (l.take k)).1.ok) (fun k=>[(0,.ref 0 0),(1,.ref g.id 0),(10,.t (zac l)),(11,.i (l.map zah).length),(12,.i k)]) (fun k=>full p n q seen (g.set (zad (zbz seen g.vis0) g.top (l.take k)).1)) ⟨rfl,ht0⟩ (fun k hlt ha=>?_) (fun ha=>?_)
  ·have hx:=zbh hlt
   have hno:l[k].name.length≤1000000000:=by have:=(za6 (List.getElem_mem hlt)).1;omega
   have g1:=zbl (f:=(zbz seen g.vis0)) hlt ha.1
   have g2:=zaN (f:=(zbz seen g.vis0)) hlt ha.1
   obtain⟨ha1,ha2⟩:=ha
   generalize (zad (zbz seen g.vis0) g.top (l.take k)).1=st at*
   generalize l[k]=x at*
   have hk:=hset ha2
   have hown:=ha2.own
   have hz:((zbz seen g.vis0) st x).2=if(zay seen 0 x.name).isSome=true\/x.name∈g.vis0++st.own then 7 else 0:=rfl
   have hz1:((zbz seen g.vis0) st x).1=st.zg1 x.name:=rfl
   have hok:=ha2.zg1 hno
   generalize (zbz seen g.vis0) st x=fx at*
   unfold zb4 at hx
   repeat' (first|refine wkt ?_|refine wka ?_|refine wkD ?_|refine wk ?_|exact wkc|intro hc|refine wk2 ?_ ?_|(apply TO.zer;(iterate 4 exact rfl);assumption;assumption)|(apply TO.zjP;(iterate 3 exact rfl);assumption)|(apply TO.zp3;(iterate 4 exact rfl);assumption;assumption;exact rfl)|refine wms ?_|(apply TO.sees hk;exact rfl;exact rfl;(first|exact rfl|exact Ch.tk _ _ _ _ _);assumption)|(apply TO.defined hk;exact rfl;exact rfl;(first|exact rfl|exact Ch.tk _ _ _ _ _);assumption)|(apply TO.zkd;(iterate 4 exact rfl);assumption;decide;assumption)|fail)
   all_goals simp only[Ch.vis,Ch.zkR,Ch.znf]at*
   all_goals first
    | ((repeat' (first|refine zab.panic ?_|refine wk ?_|fail));apply retS;(first|assumption|decide);(clear hx;first|grind|grind [orE]);(first|exact lb|exact Nat.le_refl _|(simp[Ch.len];done)|(simp[Ch.len];omega)))
    | (refine zab.zak hlt ⟨by rw[g2];clear hx;grind,by rw[g2,hz1];exact hok⟩ ?_ (by rw[g2,hz1];rfl)
       repeat' (first|exact trivial|refine And.intro rfl ?_|fail))
  ·obtain⟨ha1,ha2⟩:=ha
   rw[List.take_length]at*
   repeat' (first|refine wu ?_|exact wkc|intro hc|refine wk2 ?_ ?_|fail)
   exact zkK ha1 rfl rfl rfl rfl
end Go.Proofs.YtcbhlhmebbkgnaaGreat
namespace Go.TL
open Go
def zhI(ops:Array Oper)(k:Nat):Bool:=(List.range ops.size).all fun j=>Nat.blt j k || (List.range j).all fun i=>(cov ops 40 (zcc ops j)).contains i
theorem zqW{ops:Array Oper}{L:Array Bool}{k j:Nat}(hs:L.size=ops.size)(hf:zhI ops k=true)(hdc:DC ops L)(hj:j∈Region.ready .any ops L)(hk:k≤j):∀i,i<j->L[i]?=some true:=by
 intro i hi
 obtain⟨h1,h2⟩:=(zbe hs).1 hj
 have hlt:=(Array.getElem?_eq_some_iff.1 h1).1
 have:=List.all_eq_true.1 hf j (by simp;omega)
 simp only[Bool.or_eq_true]at this
 rcases this with h|h
 ·simp at h;omega
 ·have:=List.all_eq_true.1 h i (by simpa using hi)
  exact zdU hdc 40 _ h2 i (by simpa using this)
section rules
variable {P:Program}{all:Array Oper}
theorem zsg{r:Option Nat}{C:World->Prop}{Q:Act->Prop}{Q':Exit->Act->World->Prop}{k n2:Nat}(hd:zlA all=true)(hf:zhI all k=true)(hp:∀(i:Nat) o,i<k->all[i]?=some o->Op.plain o.op=true)
  (hQ:∀(L:Array Bool) a w,L.size=all.size->(∀(i:Nat),i<k->i<all.size->L[i]?=some true)->(∀(i:Nat),k≤i->i<all.size->L[i]?=some false)->C w->Q a->wpAnyIn (Fr r) 0 P .any all Q' n2 L a w):
  ∀(u:Nat) (L M:Array Bool) (a:Act) (w:World),L.size=all.size->M.size=all.size->(∀(i:Nat),i<k->M[i]?=L[i]?)->(∀(i:Nat),k≤i->i<all.size->M[i]?=some true)->(∀(i:Nat),k≤i->i<all.size->L[i]?=some false)->
   DC all L->C w->wpAnyQIn (Fr r) 0 P .any all C Q u M a->wpAnyIn (Fr r) 0 P .any all Q' (u+n2) L a w:=by
 intro u
 have full:∀(L M:Array Bool),L.size=all.size->M.size=all.size->(∀(i:Nat),i<k->M[i]?=L[i]?)->(∀(i:Nat),k≤i->i<all.size->M[i]?=some true)->DC all L->Region.ready .any all M=[]->∀(i:Nat),i<k->i<all.size->L[i]?=some true:=by
  intro L M hL hM h1 h2 hdc hr i hi hia
  refine Classical.byContradiction fun hne=>?_
  have hMi:M[i]?=some false:=by
   rw[h1 i hi]
   have:L[i]?=some (L[i]'(by omega)):=Array.getElem?_eq_getElem (by omega)
   rw[this]at hne⊢
   cases h:L[i]'(by omega)
   ·rfl
   ·rw[h]at hne;exact absurd rfl hne
  obtain⟨m,_,hm,_⟩:=zck hM hd hMi
  rw[hr]at hm;cases hm
 induction u with
 | zero=>
   intro L M a w hL hM h1 h2 h3 hdc hC h
   rw[Nat.zero_add]
   exact hQ L a w hL (full L M hL hM h1 h2 hdc h.1) h3 hC h.2
 | succ u ih=>
   intro L M a w hL hM h1 h2 h3 hdc hC h
   by_cases hr:Region.ready .any all M=[]
   ·exact zic _ _ _ _ (hQ L a w hL (full L M hL hM h1 h2 hdc hr) h3 hC (h.1 hr)) (u+1)
   ·
    obtain⟨x,hx⟩:=List.exists_mem_of_ne_nil _ hr
    have hx1:=((zbe hM).1 hx).1
    have hxl:=(Array.getElem?_eq_some_iff.1 hx1).1
    have hxk:x<k:=Nat.lt_of_not_le fun hle=>by rw[h2 x hle (by omega)]at hx1;cases hx1
    have hLx:L[x]?=some false:=by rw[<-h1 x hxk];exact hx1
    rw[show u+1+n2=(u+n2)+1 from by omega]
    refine⟨fun h0=>?_,fun i hi=>?_⟩
    ·obtain⟨m,_,hm,_⟩:=zck hL hd hLx
     rw[h0]at hm;cases hm
    ·have hik:i<k:=Nat.lt_of_not_le fun hle=>by
      have:=zqW hL hf hdc hi hle x (by omega)
      rw[this]at hLx;cases hLx
     obtain⟨g1,g2⟩:=(zbe hL).1 hi
     have hiM:i∈Region.ready .any all M:=by
      refine(zbe hM).2 ⟨by rw[h1 i hik];exact g1,fun j hj=>?_⟩
      have hjl:=(Array.getElem?_eq_some_iff.1 (g2 j hj)).1
      by_cases hjk:j<k
      ·rw[h1 j hjk];exact g2 j hj
      ·exact h2 j (by omega) (by omega)
     have hnext:∀a' w',C w'->wpAnyQIn (Fr r) 0 P .any all C Q u (M.setIfInBounds i true) a'->wpAnyIn (Fr r) 0 P .any all Q' (u+n2) (L.setIfInBounds i true) a' w':=by
      intro a' w' hC' hk'
      refine ih (L.setIfInBounds i true) (M.setIfInBounds i true) a' w' (by simpa using hL) (by simpa using hM) ?_ ?_ ?_ (zqR hL hdc hi) hC' hk'
      ·intro j hj
       rw[Array.getElem?_setIfInBounds,Array.getElem?_setIfInBounds,h1 j hj,hL,hM]
      ·intro j hj hja
       rw[Array.getElem?_setIfInBounds,if_neg (by omega)]
       exact h2 j hj hja
      ·intro j hj hja
       rw[Array.getElem?_setIfInBounds,if_neg (by omega)]
       exact h3 j hj hja
     have h4:=h.2 i hiM
     unfold qOpIn at h4
     unfold wpOpIn
     cases ho:all[i]? with
     | none=>simp only[ho]at h4⊢;exact hnext _ _ hC h4
     | some o=>
       simp only[ho]at h4⊢
       obtain⟨_,h4⟩:=h4
       split
       ·rename_i hwt
        rw[if_pos hwt]at h4
        exact zfl (hp i o hik ho) hC (fun a' w' hw' hk=>hnext a' w' hw' hk) h4
       ·rename_i hwt
        rw[if_neg hwt]at h4
        exact⟨fun _ _=>trivial,hnext _ _ hC h4⟩
theorem znY{r:Option Nat}{Q':Exit->Act->World->Prop}{k:Nat}(hd:zlA all=true)(hf:zhI all k=true):∀(l:List Oper) (p:Nat) (L:Array Bool) (a:Act) (w:World),k≤p->(∀j,l[j]?=all[p+j]?)->L.size=all.size->
   (∀(i:Nat),i<p->i<all.size->L[i]?=some true)->(∀(i:Nat),p≤i->i<all.size->L[i]?=some false)->wpListIn (Fr r) 0 P all Q' l a w->wpAnyIn (Fr r) 0 P .any all Q' l.length L a w
 | [],p,L,a,w,hk,hl,hL,h1,h2,h=>by
   have hsz:all.size≤p:=Nat.le_of_not_lt fun hlt=>by
    have:=hl 0
    rw[Nat.add_zero,Array.getElem?_eq_getElem hlt]at this
    cases this
   refine⟨?_,h⟩
   refine List.eq_nil_iff_forall_not_mem.2 fun i hi=>?_
   have:=((zbe hL).1 hi).1
   have hlt:=(Array.getElem?_eq_some_iff.1 this).1
   rw[h1 i (by omega) (by omega)]at this
   cases this
 | o::l,p,L,a,w,hk,hl,hL,h1,h2,h=>by
   have hpo:all[p]?=some o:=by simpa using (hl 0).symm
   have hpl:=(Array.getElem?_eq_some_iff.1 hpo).1
   have hLp:=h2 p (Nat.le_refl _) hpl
   have hdc:DC all L:=by
    intro i hi j hj
    have hil:=(Array.getElem?_eq_some_iff.1 hi).1
    have hip:i<p:=Nat.lt_of_not_le fun hle=>by rw[h2 i hle (by omega)]at hi;cases hi
    have:=List.all_eq_true.1 hd i (by simp;omega)
    have:=List.all_eq_true.1 this j hj
    have hji:j<i:=by simpa using this
    exact h1 j (by omega) (by omega)
   refine⟨fun h0=>?_,fun i hi=>?_⟩
   ·obtain⟨m,_,hm,_⟩:=zck hL hd hLp
    rw[h0]at hm;cases hm
   ·have hi1:=((zbe hL).1 hi).1
    have hil:=(Array.getElem?_eq_some_iff.1 hi1).1
    have hip:p≤i:=Nat.le_of_not_lt fun hlt=>by rw[h1 i hlt (by omega)]at hi1;cases hi1
    have hipe:i=p:=by
     refine Classical.byContradiction fun hne=>?_
     have:=zqW hL hf hdc hi (by omega) p (by omega)
     rw[this]at hLp;cases hLp
    subst hipe
    have hnext:∀a' w',wpListIn (Fr r) 0 P all Q' l a' w'->wpAnyIn (Fr r) 0 P .any all Q' l.length (L.setIfInBounds i true) a' w':=by
     intro a' w' h'
     refine znY hd hf l (i+1) (L.setIfInBounds i true) a' w' (by omega) (fun j=>?_) (by simpa using hL) (fun j hj hja=>?_) (fun j hj hja=>?_) h'
     ·have:=hl (j+1)
      simp only[List.getElem?_cons_succ]at this
      rw[this];congr 1;omega
     ·rw[Array.getElem?_setIfInBounds]
      split
      ·first|rfl|rw[if_pos (by omega)]
      ·exact h1 j (by omega) hja
     ·rw[Array.getElem?_setIfInBounds,if_neg (by omega)]
      exact h2 j (by omega) hja
    unfold wpListIn at h
    unfold wpOpIn
    simp only[hpo]
    split
    ·rename_i hw
     rw[if_pos hw]at h
     exact Oper.wpIn_mono (fun a w h=>hnext a w h) h
    ·rename_i hw
     rw[if_neg hw]at h
     exact⟨h.1,hnext _ _ h.2⟩
def zoA(ops:Array Oper)(k:Nat):Bool:=
 Region.noSelect ops && (Nat.ble k ops.size && (zlA ops && (zhI ops k && Region.lexFrom .any ops k 0 (Array.replicate k false++Array.replicate (ops.size-k) true))))
theorem TR.zpX{n:Nat}{env:Env}{H:Heap}{K:TK}(k:Nat){id:Nat}{l:List Oper}(hm:P.follows .mixedOrders=true)(hB:zoA l.toArray k=true)(hp:(l.take k).all (fun o=>Op.plain o.op)=true)
  (h:TO true P n l.toArray (l.take k) env H (zaZ P n l.toArray (l.drop k) H K)):TR P n (.region id l.toArray true) env H K:=by
 simp only[zoA,Bool.and_eq_true]at hB
 obtain⟨hB1,hB2,hB3,hB4,hB5⟩:=hB
 have hk:k≤l.length:=by simpa using Nat.le_of_ble_eq_true hB2
 intro φ m a h1 h2 h3 h4
 have hq:=h φ m a h1 h2 h3 h4
 simp only at hq
 refine zbU (wpIn_region_any hm ?_)
 have hlt:(l.take k).length=k:=by simp;omega
 have:=zsg (P:=P) (all:=l.toArray) (r:=φ.r) (C:=Keeps m.w) (Q:=fun a'=>∀w',Keeps m.w w'->wpListIn (Fr φ.r) 0 P l.toArray (Post φ m n K) (l.drop k) a' w')
  (Q':=Post φ m n K) (k:=k) (n2:=(l.drop k).length) hB3 hB4 (fun i o hi ho=>List.all_eq_true.1 hp o (List.mem_of_getElem? (i:=i) (by rw[List.getElem?_take,if_pos hi];simpa using ho)))
  (fun L a' w' hL g1 g2 hC hQ=>znY hB3 hB4 (l.drop k) k L a' w' (Nat.le_refl _) (fun j=>by simp) hL g1 g2 (hQ w' hC))
  k (Array.replicate l.toArray.size false) (Array.replicate k false++Array.replicate (l.toArray.size-k) true) a { m.w with drawn:=m.w.drawn+1 } (by simp) (by simp;omega)
  (fun i hi=>by
    rw[Array.getElem?_append_left (by simpa using hi),Array.getElem?_replicate,Array.getElem?_replicate,if_pos hi,if_pos (by simp;omega)])
  (fun i hi hia=>by
    rw[Array.getElem?_append_right (by simpa using hi),Array.getElem?_replicate,if_pos (by simp at hia⊢;omega)])
  (fun i hi hia=>by rw[Array.getElem?_replicate,if_pos hia])
  (fun i hi=>by rw[Array.getElem?_replicate]at hi;split at hi <;> cases hi)
  ⟨rfl,rfl,rfl,Nat.le_refl _,fun _ _=>rfl⟩ ?_
 ·have e:k+(l.drop k).length=l.toArray.size:=by simp;omega
  rw[e]at this
  exact this
 ·have hx:=zk8 (F:=Fr φ.r) (N:=0) (P:=P) (C:=Keeps m.w) (md:=.any) (Q:=fun a'=>∀w',Keeps m.w w'->wpListIn (Fr φ.r) 0 P l.toArray (Post φ m n K) (l.drop k) a' w') hB1 (l.take k) 0
   (Array.replicate k false++Array.replicate (l.toArray.size-k) true) a (fun j hj=>by rw[List.getElem?_take,if_pos (by omega)];simp) (by rw[hlt];exact hB5) (zgk _ a (zcK ?_ _ a hq))
  ·rw[hlt]at hx;exact hx
  ·rintro a' ⟨env',g1,g2,g3⟩ w' hw'
   obtain⟨s,hm'⟩:=zeL h2 hw'
   have:=g3 φ ⟨m.A,m.β,m.H,w'⟩ a' h1 hm' (g1.step h2 s) (g2.step h2 s)
   exact TO.zej s this
theorem TR.zrF{n:Nat}{env:Env}{H:Heap}{K:TK}{id:Nat}{l:List Oper}(hm:P.follows .mixedOrders=true)(hB:zoA l.toArray (l.length-1)=true)(hp:(l.take (l.length-1)).all (fun o=>Op.plain o.op)=true)
  (h:TO true P n l.toArray (l.take (l.length-1)) env H (zaZ P n l.toArray (l.drop (l.length-1)) H K)):TR P n (.region id l.toArray true) env H K:=TR.zpX _ hm hB hp h
theorem TR.zsj{n:Nat}{env:Env}{H:Heap}{K:TK}{id:Nat}{l:List Oper}(hm:P.follows .mixedOrders=true)(hB:zoA l.toArray (l.length-2)=true)(hp:(l.take (l.length-2)).all (fun o=>Op.plain o.op)=true)
  (h:TO true P n l.toArray (l.take (l.length-2)) env H (zaZ P n l.toArray (l.drop (l.length-2)) H K)):TR P n (.region id l.toArray true) env H K:=TR.zpX _ hm hB hp h
end rules
end Go.TL
