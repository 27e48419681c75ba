import Derived.RangeFuncNested
import Derived.WalkSmall
import Derived.RecoverIn
import Derived.Test.YtcbhlhmebbkgnaaGreatPk5
set_option linter.unusedSimpArgs false
set_option linter.unusedVariables false
namespace Go.TL
open Go
theorem zmx{m:M}(hm:HRel m){fn n:Nat}{env:Env}{ps:Array Tmp}{as bo:Code}{L:Loop}{w1:World}{l:Nat}(hos:w1.os=m.w.os)(htp:w1.tape=m.w.tape)(hou:w1.output=m.w.output)(hl:m.w.heap.size≤l)(hlt:l<w1.heap.size)(hsz:m.w.heap.size≤w1.heap.size)
  (hkeep:∀b,b<m.w.heap.size->w1.heap[b]?=m.w.heap[b]?)(hL:w1.heap[l]?=some (.loop L))(hh:L.fn=fn/\L.state= .ready/\L.pending=none/\L.params=ps/\L.assign=as/\L.body=bo)(hE:ERel m n env L.tmps):
  Step m ⟨m.A,m.β++[⟨l,0,1⟩],m.H++[.loop fn .ready none n env ps as bo],w1⟩/\HRel ⟨m.A,m.β++[⟨l,0,1⟩],m.H++[.loop fn .ready none n env ps as bo],w1⟩:=by
 refine grow hm (A':=m.A) (βn:=[⟨l,0,1⟩]) (Hn:=[.loop fn .ready none n env ps as bo]) hos htp hou hsz hkeep (fun _ _ h=>h) (fun _ _ h=>.inl h) rfl ?_ ?_ (fun b o h h'=>absurd h h') ?_
 ·intro i p k h1 h2 _
  cases i with
  | zero=>simp at h1;subst h1;exact .inl ⟨hl,hlt⟩
  | succ i=>simp at h1
 ·intro i j p q hij h1 h2
  cases i <;> cases j <;> simp at h1 h2 hij
 ·intro s i p k h1 h2
  cases i with
  | zero=>
    simp at h1 h2;subst h1;subst h2
    exact⟨rfl,rfl,L,hL,hh,hE.step hm s⟩
  | succ i=>simp at h1
theorem ztD{m:M}(hm:HRel m){id:Nat}{k:Blk}(hH:m.H[id]?=some k)(hk:k.obj=true):Step m ⟨m.A,m.β,m.H.set id .dead,m.w⟩/\HRel ⟨m.A,m.β,m.H.set id .dead,m.w⟩:=by
 have hid:=(List.getElem?_eq_some_iff.1 hH).1
 have pick:∀(i:Nat) c,(m.H.set id .dead)[i]?=some c->c.live=true->i≠id/\m.H[i]?=some c:=by
  intro i c h2 hl
  by_cases hi:i=id
  ·subst hi
   rw[List.getElem?_set_self hid]at h2
   cases h2;simp[Blk.live]at hl
  ·rw[List.getElem?_set_ne (by omega)]at h2
   exact⟨hi,h2⟩
 have own:∀b o,Own ⟨m.A,m.β,m.H.set id .dead,m.w⟩ b o->Own m b o:=by
  rintro b o ⟨i,q,c,h1,h2,h3,h4⟩
  exact⟨i,q,c,h1,(pick i c h2 h3).2,h3,h4⟩
 have s:Step m ⟨m.A,m.β,m.H.set id .dead,m.w⟩:=by
  refine⟨rfl,rfl,rfl,Nat.le_refl _,fun _ _ h=>h,fun _ _ h=>.inl h,fun b o h=>.inl (own b o h),fun _ _ _ _=>rfl,fun _ _ _ _ _=>rfl,fun _ _ _=>rfl,fun _ _ h=>h,fun _ L h=>⟨L,h⟩,fun _ _ _ h=>h,fun i q hq=>⟨q,hq,?_⟩⟩
  by_cases hi:i=id
  ·subst hi
   show zbb m.H[i]? (m.H.set i .dead)[i]? q q
   rw[hH,List.getElem?_set_self hid]
   unfold zbb
   split
   ·rename_i n e;cases k <;> simp[Blk.obj]at hk <;> simp[tlOf]at e
   ·exact⟨rfl,fun n h=>by cases h⟩
  ·refine zcl ?_
   show(m.H.set id .dead)[i]?=m.H[i]?
   rw[List.getElem?_set_ne (by omega)]
 refine⟨s,by simpa using hm.len,fun i q c h1 h2=>?_,fun i j q r c l hij h1 h2 h3 h4 hc hl=>?_,fun b o h hn=>hm.still b o h (own b o hn),hm.inA,fun i q c h1 h2 hc hq=>hm.inO i q c h1 (pick i c h2 hc).2 hc hq⟩
 ·cases hlv:c.live with
  | false=>cases c <;> simp[Blk.live]at hlv;trivial
  | true=>exact(hm.blk i q c h1 (pick i c h2 hlv).2).step hm s (fun o _ _=>⟨rfl,fun _=>rfl⟩) (fun _=>rfl)
 ·exact hm.apart i j q r c l hij h1 (pick i c h2 hc).2 h3 (pick j l h4 hl).2 hc hl
section rules
variable {P:Program}{n:Nat}{env:Env}{H:Heap}{K:TK}{all:Array Oper}{rest:List Oper}{tab:Tab}{q:Bool}
variable {d:Nat}{ty:TypeId}{pos:String}{aft:Array Edge}
def zqy(id:Nat)(env:Env)(K:TK)(v:Res)(H':Heap):Prop:=
 match v with
 | .panic v=>K (.panic v) env H'
 | .ret _=>∃fn st pe n' env' ps as bo,H'[id]?=some (.loop fn st pe n' env' ps as bo)/\st≠ .busy/\
   match pe with
   | none=>K .normal env (H'.set id .dead)
   | some .ret=>K .ret env (H'.set id .dead)
   | some (.exit i)=>K (.exit i) env (H'.set id .dead)
   | _=>False
theorem TR.rangeFunc{g:Operand}{ps:Array Tmp}{assign body:Code}{gf:FuncId}{caps:List SV}(hg:env.val g=some (.fn gf caps))
  (hs:∀fn,(P.funcs[fn]?).isSome=true->Sound P gf (.yl H.length::caps) (H++[.loop fn .ready none n env ps assign body]) (zqy H.length env K)):TR P n (.rangeFunc g ps assign body) env H K:=by
 intro φ m a h1 h2 h3 h4 b k cs hro hfn
 have hS:=hs b.fn hfn
 subst h1
 obtain⟨l,mk,w1,he,hl,hlt,hsz,hos,htp,hou,hkeep,hL,hdef⟩:∃l mk w1,(Instr.enterLoop b.fn a.tmps ps assign body b.roundOf).run P m.w= .ok (l,mk) w1/\m.w.heap.size≤l/\l<w1.heap.size/\m.w.heap.size≤w1.heap.size/\w1.os=m.w.os/\w1.tape=m.w.tape/\w1.output=m.w.output/\
   (∀b,b<m.w.heap.size->w1.heap[b]?=m.w.heap[b]?)/\(∃dd,w1.heap[l]?=some (.loop { state:=.ready,pending:=none,fn:=b.fn,tmps:=a.tmps,params:=ps,assign,body,defers:=dd }))/\zdK φ w1 (mk++a.defers):=by
  obtain⟨⟨ks,d1,d2,d3,d4⟩,d5,d6⟩:=h4
  rw[hro]
  cases hr:φ.r with
  | none=>
    refine⟨_,_,_,run_enterLoop_outer _ _ _ _ _,by simp,by simp,by simp;omega,rfl,rfl,rfl,fun b hb=>?_,⟨m.w.heap.size,?_⟩,⟨⟨m.w.heap.size::ks,?_,fun h=>by simp[hr]at h,?_,?_⟩,by simp;omega,fun l h=>by simp[hr]at h⟩⟩
    ·rw[RowKit.Below.heap_alloc _ _ _ (by simp;omega),RowKit.Below.heap_alloc _ _ _ hb]
    ·have:=World.alloc_heap_new (m.w.alloc (.deferred (some []))) (.loop { state:=.ready,pending:=none,fn:=b.fn,tmps:=a.tmps,params:=ps,assign,body,defers:=m.w.heap.size })
     simpa using this
    ·simp[d1,mark]
    ·refine List.nodup_cons.2 ⟨fun h=>?_,d3⟩
     have:=(Array.getElem?_eq_some_iff.1 (d4 _ h).2).1
     omega
    ·intro k hk
     rcases List.mem_cons.1 hk with rfl|hk
     ·refine⟨d5,?_⟩
      rw[RowKit.Below.heap_alloc _ _ _ (by simp)]
      exact World.alloc_heap_new _ _
     ·obtain⟨g1,g2⟩:=d4 k hk
      have hlt:=(Array.getElem?_eq_some_iff.1 g2).1
      exact⟨g1,by rw[RowKit.Below.heap_alloc _ _ _ (by simp;omega),RowKit.Below.heap_alloc _ _ _ hlt];exact g2⟩
  | some l0=>
    obtain⟨L0,hL0⟩:=d6 l0 hr
    refine⟨_,_,_,run_enterLoop_inner hL0 _ _ _ _ _,by simp,by simp,by simp,rfl,rfl,rfl,fun b hb=>RowKit.Below.heap_alloc _ _ _ hb,⟨L0.defers,World.alloc_heap_new _ _⟩,⟨⟨ks,by simpa using d1,d2,d3,fun k hk=>?_⟩,by simp;omega,fun l hl=>?_⟩⟩
    ·obtain⟨g1,g2⟩:=d4 k hk
     exact⟨g1,by rw[RowKit.Below.heap_alloc _ _ _ (Array.getElem?_eq_some_iff.1 g2).1];exact g2⟩
    ·obtain⟨L1,hL1⟩:=d6 l hl
     exact⟨L1,by rw[RowKit.Below.heap_alloc _ _ _ (Array.getElem?_eq_some_iff.1 hL1).1];exact hL1⟩
 obtain⟨dd,hL⟩:=hL
 obtain⟨s1,hm1⟩:=zmx (fn:=b.fn) (n:=n) (env:=env) (ps:=ps) (as:=assign) (bo:=body) h2 hos htp hou hl hlt hsz hkeep hL ⟨rfl,rfl,rfl,rfl,rfl,rfl⟩ h3
 generalize hM:(⟨m.A,m.β++[⟨l,0,1⟩],m.H++[.loop b.fn .ready none n env ps assign body],w1⟩:M)=m1 at s1 hm1
 have hm1w:m1.w=w1:=by rw[<-hM]
 have hm1H:m1.H=m.H++[.loop b.fn .ready none n env ps assign body]:=by rw[<-hM]
 have hm1β:m1.β[m.H.length]?=some ⟨l,0,1⟩:=by
  rw[<-hM];show(m.β++_)[m.H.length]?=_
  rw[<-h2.len,List.getElem?_append_right (Nat.le_refl _)];simp
 have hgv:=h3.val hg
 generalize hq:a.eval g=z at hgv
 cases hgv with
 | fn _ _ arr hsz' hcap=>
   obtain⟨⟨fng,q1,q2,q3⟩,hcalls⟩:=hS
   have q2':¬fng.name= "runtime.NumGoroutine":=by simpa using q2
   have q3':¬fng.body=none:=by intro e;simp[e]at q3
   have henter:=stepR_rangeFunc (P:=P) (b:=b) (a:=a) (k:=k) (cs:=cs) (w:=m.w) (g:=g) (ps:=ps) (assign:=assign) (body:=body) (l:=l) (mark:=mk) (w₁:=w1) (w₁':=w1) (w₂:=w1)
    (d:={ target:=.fn (.func gf) arr,args:=#[.func (.yield l) #[] #[]] }) (f:=gf) (args:=#[.func (.yield l) #[] #[]]++arr) he
    (by simp[resolve,rangeCall,hq,Deferred.ofValue,eval_const]) (by simp[invoke,callFunc,q1,q2',q3'])
   have hargs:ARel m1 (.yl m.H.length::caps) (#[.func (.yield l) #[] #[]]++arr):=by
    refine⟨by simp[hsz'];omega,fun i s x hs hx=>?_⟩
    cases i with
    | zero=>
      rw[Array.getElem?_append_left (by simp)]at hx
      simp at hs hx
      subst hs;subst hx
      exact .yl _ ⟨l,0,1⟩ hm1β (by rw[hm1H];intro n';simp[tlOf])
    | succ i=>
      have hs':caps[i]?=some s:=by simpa using hs
      have hx':arr[i]?=some x:=by
       rw[Array.getElem?_append_right (by simp)]at hx
       simpa using hx
      exact s1.srel h2 (hcap i s x hs' hx')
   obtain⟨e,w3,fr,⟨m2,res,rfl,s2,hm2,hres,hK⟩,hsteps,hfnn,hleave⟩:=hcalls m1 _ hm1H hm1 hargs (b.atR { a with defers:=mk++a.defers } (.inRangeFunc l::k)::cs)
   rw[hm1w]at hsteps
   have st:Step m m2:=s1.trans s2
   have hdef2:zdK φ m2.w (mk++a.defers):=by
    have:zdK φ m1.w (mk++a.defers):=by rw[hm1w];exact hdef
    exact this.step hm1 s2
   have big:∀ {x y:Machine},Steps P x y->StepsIn (fun _=>True) P x y:=fun h=>steps_iff.1 h
   cases res with
   | panic v=>
     cases e with
     | panicked ch=>
       refine⟨.panic ch,{ a with defers:=mk++a.defers },m2.w,⟨m2,env,.panic v,rfl,st,hm2,h3.step h2 st,hdef2,hres,hK⟩,.inRangeFunc l::k,.head trivial henter (StepsIn.trans (big hsteps) (.one trivial ?_))⟩
       rw[<-Frame.raise_atR];exact step_leave_panicked hleave
     | _=>simp[zb8]at hres
   | ret v=>
     cases e with
     | returned x=>
       obtain⟨fn2,st2,pe2,n2,env2,ps2,as2,bo2,hH2,hbusy,hK⟩:=hK
       obtain⟨p2,L2,hp2,_,_,hL2,f1,f2,f3,_⟩:=zhR hm2 hH2
       have hp2':p2=⟨l,0,1⟩:=by
        obtain⟨pp,hpp,hi⟩:=s2.ids _ _ hm1β
        rw[hm1H]at hi
        have:=(hi.zcV (by intro n';simp[tlOf])).1
        rw[hp2]at hpp;cases hpp;exact this
       subst hp2'
       obtain⟨s3,hm3⟩:=zkL (st':=.exhausted) (pe':=L2.pending) hm2 hH2 hp2 hL2
       have hend:=run_endLoop (P:=P) hL2 (by rw[f2];exact hbusy)
       obtain⟨s4,hm4⟩:=ztD hm3 (id:=m.H.length) (k:=.loop fn2 .exhausted L2.pending n2 env2 ps2 as2 bo2) (by
        show(m2.H.set m.H.length _)[m.H.length]?=_
        rw[List.getElem?_set_self (List.getElem?_eq_some_iff.1 hH2).1]) rfl
       have hset:(m2.H.set m.H.length (.loop fn2 .exhausted L2.pending n2 env2 ps2 as2 bo2)).set m.H.length .dead=m2.H.set m.H.length .dead:=by rw[List.set_set]
       have s5:=st.trans (s3.trans s4)
       have hd5:=(hdef2.step hm2 s3).step hm3 s4
       have back:StepsIn (fun _=>True) P (lone (b.atR a (.code (.rangeFunc g ps assign body)::k)) cs m.w) (lone (b.atR { a with defers:=mk++a.defers } ((L2.pending.map Item.code).toList++k)) cs (m2.w.putObj l (.loop { L2 with state:=.exhausted }))):=by
        refine .head trivial henter (StepsIn.trans (big hsteps) (.head trivial ?_ (.one trivial (stepR_endRangeFunc hend))))
        rw[<-finish_atR_inRangeFunc l x];exact step_leave_returned hleave
       obtain⟨w4,hw4⟩:∃w4,m2.w.putObj l (.loop { L2 with state:=.exhausted })=w4:=⟨_,rfl⟩
       rw[hw4,f3]at back
       have post:∀te,(∀e',zbM ⟨m2.A,m2.β,(m2.H.set m.H.length (.loop fn2 .exhausted L2.pending n2 env2 ps2 as2 bo2)).set m.H.length .dead,m2.w.putObj l (.loop { L2 with state:=.exhausted })⟩ te e'->K te env (m2.H.set m.H.length .dead)->
         Post φ m n K e' { a with defers:=mk++a.defers } w4):=fun te e' hex hk=>⟨_,env,te,hw4,s5,hm4,h3.step h2 s5,hd5,hex,by rw[hset];exact hk⟩
       cases pe2 with
       | none=>exact⟨.normal,_,_,post .normal .normal trivial hK,back⟩
       | some c=>
         cases c with
         | ret=>
           exact⟨.ret,_,_,post .ret .ret trivial hK,fun hr=>⟨_,back.trans (.one trivial (stepR_ret hr))⟩,fun _=>⟨k,back⟩⟩
         | exit i=>
           exact⟨.exit i,_,_,post (.exit i) (.exit i) rfl hK,fun k' hk'=>back.trans (.one trivial (stepR_exit hk')),fun _ hk'=>⟨k,hk',back⟩⟩
         | _=>exact hK.elim
     | _=>simp[zb8]at hres
theorem TO.yield{f x:Operand}{id:Nat}{arg:SV}{ts:Array TypeId}{R:Res->Heap->Prop}(hs:zhX P id arg H R)(hd:Nat.ble (d+1) n=true)(hf:env.val f=some (.yl id))(hx:env.val x=some arg)
  (k:∀v H',R (.ret v) H'->TO false P n all rest ((d,v)::env) H' K)(kp:∀v H',R (.panic v) H'->K (.panic v) env H'):
  TO false P n all (⟨some d,.call { callee:=.value f,args:=#[x],argTypes:=ts },ty,pos,aft,none⟩::rest) env H K:=by
 intro φ m a h1 h2 h3 h4
 have hfv:=h3.val hf
 have hxv:=h3.val hx
 generalize hq:a.eval f=z at hfv
 cases hfv with
 | yl _ p hp hn=>
   obtain⟨fn,tmps,as,bo,hy,hR⟩:=hs m (a.eval x) φ.r p h1 h2 hxv hp
   have hrun:(execOp a.eval ⟨some d,.call { callee:=.value f,args:=#[x],argTypes:=ts },ty,pos,aft,none⟩).run P m.w= .ok (.round p.b fn tmps as bo) m.w:=by
    simp[execOp,resolve,hq,Deferred.ofValue,invoke,hy]
   refine wpListIn_plain rfl fun K' hK=>?_
   unfold Oper.wpIn
   refine⟨fun _ _=>trivial,?_⟩
   rw[zaT hrun (by intro d e;cases e)]
   simp only[Oper.uponIn]
   refine⟨fun h=>by simp[Fence.wide]at h,hR.mono ?_⟩
   rintro e w' ⟨m',res,rfl,s,hm',hres,hR'⟩
   cases res with
   | ret v=>
     cases e with
     | returned y=>exact hK _ _ (TO.zej (m':=m') s (k v m'.H hR' φ m' _ rfl hm' ((h3.step h2 s).put d (Nat.le_of_ble_eq_true hd) hres) (by simpa [Act.put]using h4.step h2 s)))
     | _=>simp[zb8]at hres
   | panic v=>
     cases e with
     | panicked ch=>exact⟨m',env,.panic v,rfl,s,hm',h3.step h2 s,h4.step h2 s,hres,kp v m'.H hR'⟩
     | _=>simp[zb8]at hres
theorem TO.zux{cargs:List SV}{R:Res->Heap->Prop}{f:Operand}{fid:FuncId}{caps:List SV}{args:Array Operand}{ts:Array TypeId}{vs:List SV}(hs:Sound P fid cargs H R)(hd:Nat.ble (d+1) n=true)
  (hf:env.val f=some (.fn fid caps))(ha:env.vals args.toList=some vs)(hl:Les (vs++caps) cargs)
  (k:∀v H',R (.ret v) H'->TO false P n all rest ((d,v)::env) H' K)(kp:∀v H',R (.panic v) H'->K (.panic v) env H'):
  TO false P n all (⟨some d,.call { callee:=.value f,args:=args,argTypes:=ts },ty,pos,aft,none⟩::rest) env H K:=by
 intro φ m ac h1 h2 h3 h4
 obtain⟨arr,hq,har⟩:=zmV h3 hf ha
 have hcall:=hs.2 m _ h1 h2 (har.le hl)
 refine wpListIn_plain rfl fun K' hK=>?_
 unfold Oper.wpIn
 refine⟨fun _ _=>trivial,?_⟩
 rw[zaT (zfV hq hs.1) (by intro d e;cases e)]
 simp only[Oper.uponIn]
 refine⟨fun h=>by simp[Fence.wide]at h,ze4 (Calls.mono hcall ?_)⟩
 rintro e w' ⟨m',res,rfl,s,hm',hres,hR'⟩
 cases res with
 | ret v=>
   cases e with
   | returned y=>exact hK _ _ (TO.zej (m':=m') s (k v m'.H hR' φ m' _ rfl hm' ((h3.step h2 s).put d (Nat.le_of_ble_eq_true hd) hres) (by simpa [Act.put]using h4.step h2 s)))
   | _=>simp[zb8]at hres
 | panic v=>
   cases e with
   | panicked ch=>exact⟨m',env,.panic v,rfl,s,hm',h3.step h2 s,h4.step h2 s,hres,kp v m'.H hR'⟩
   | _=>simp[zb8]at hres
theorem TO.makeInterface{t:TypeId}{x:Operand}{v:SV}(hd:Nat.ble (d+1) n=true)(ht:P.concrete t=true)(hx:env.val x=some v)(k:TO q P n all rest ((d,.ifc t v)::env) H K):
  TO q P n all (⟨some d,.makeInterface t x,ty,pos,aft,none⟩::rest) env H K:=
 TO.op hd (fun m ac h1 h2 h3=>⟨_,fun w' hw'=>by simp[execOp,run_makeInterface w' t (ac.eval x) ht],.ifc t v _ (h3.val hx)⟩) k
theorem TO.panic{dd:Option Tmp}{x:Operand}{t:TypeId}{v:SV}(hx:env.val x=some (.ifc t v))(k:K (.panic (.ifc t v)) env H):
  TO false P n all (⟨dd,.panic x,ty,pos,aft,none⟩::rest) env H K:=by
 intro φ m a h1 h2 h3 h4
 have hxv:=h3.val hx
 generalize hq:a.eval x=z at hxv
 cases hxv with
 | ifc _ _ y hy=>
   refine wpListIn_plain rfl fun K' hK=>?_
   unfold Oper.wpIn
   refine⟨fun _ _=>trivial,?_⟩
   rw[zjK rfl]
   have hrun:(execOp a.eval ⟨dd,.panic x,ty,pos,aft,none⟩).run P m.w= .halt (.panic (.iface t y)) m.w:=by
    simp[execOp,hq,run_panic_iface]
   rw[hrun]
   simp only[Oper.uponIn]
   exact⟨m,env,.panic (.ifc t v),rfl,.refl m,h2,h3,h4,⟨_,rfl,.ifc t v y hy⟩,h1 ▸ k⟩
end rules
mutual
theorem zbN {N:Nat} {r:Nat->Nat} (hr:∀j,j<N->r j=j):∀(v:SV),v.under N=true->v.ren r=v
 | .t u,_=>rfl
 | .sl sz es i,h=>by simp[SV.ren,hr i (by simpa [SV.under,Nat.blt_eq]using h)]
 | .ms sz i off len,h=>by simp[SV.ren,hr i (by simpa [SV.under,Nat.blt_eq]using h)]
 | .cp cs off,_=>rfl
 | .ref i off,h=>by simp[SV.ren,hr i (by simpa [SV.under,Nat.blt_eq]using h)]
 | .tref e n i off,h=>by simp[SV.ren,hr i (by simpa [SV.under,Nat.blt_eq]using h)]
 | .rw i len,h=>by simp[SV.ren,hr i (by simpa [SV.under,Nat.blt_eq]using h)]
 | .mp i,h=>by simp[SV.ren,hr i (by simpa [SV.under,Nat.blt_eq]using h)]
 | .yl i,h=>by simp[SV.ren,hr i (by simpa [SV.under,Nat.blt_eq]using h)]
 | .ag cs,h=>by simp[SV.ren,zbC hr cs (by simpa [SV.under]using h)]
 | .tup cs,h=>by simp[SV.ren,zbC hr cs (by simpa [SV.under]using h)]
 | .fn f cs,h=>by simp[SV.ren,zbC hr cs (by simpa [SV.under]using h)]
 | .bnd f cs,h=>by simp[SV.ren,zbC hr cs (by simpa [SV.under]using h)]
 | .ifc ty x,h=>by simp[SV.ren,zbN hr x (by simpa [SV.under]using h)]
 | .any,_=>rfl
theorem zbC {N:Nat} {r:Nat->Nat} (hr:∀j,j<N->r j=j):∀(cs:List SV),unders N cs=true->rens r cs=cs
 | [],_=>rfl
 | c::cs,h=>by
   simp only[unders,Bool.and_eq_true]at h
   simp[rens,zbN hr c h.1,zbC hr cs h.2]
end
theorem Blk.zbN{N:Nat}{r:Nat->Nat}(hr:∀j,j<N->r j=j)(b:Blk)(h:b.under N=true):b.ren r=b:=by
 have key:∀env:List (Nat×SV),(env.all fun x=>x.2.under N)=true->(env.map fun x=>(x.1,x.2.ren r))=env:=by
  intro env
  induction env with
  | nil=>intro _;rfl
  | cons x l ih=>
    intro h
    simp only[List.all_cons,Bool.and_eq_true]at h
    simp[Go.TL.zbN hr x.2 h.1,ih h.2]
 cases b <;> simp[Blk.ren]
 ·exact zbC hr _ h
 ·exact key _ h
theorem zhE{N:Nat}{r:Nat->Nat}(hr:∀j,j<N->r j=j):∀(H:Heap),zaf N H=true->H.map (Blk.ren r)=H
 | [],_=>rfl
 | b::H,h=>by
   simp only[zaf,Bool.and_eq_true]at h
   simp[Blk.zbN hr b h.1,zhE hr H h.2]
theorem zfz{N M j:Nat}(h:j<N):names (List.range N) M j=j:=by
 simp[names,h]
theorem zfm{α:Type}{G bs:List α}{N:Nat}(hb:bs.length=N)(hG:N≤G.length):patch G (List.range N) bs=bs++G.drop N:=by
 apply List.ext_getElem?
 intro i
 have hl:(List.range N).length≤bs.length:=by simp;omega
 have hlen:=zgn (List.range N) G bs hl
 by_cases h1:i<N
 ·rw[zhH (List.range N) G bs i i List.nodup_range (fun x hx=>by simp at hx;omega) hl (by simp[h1]),List.getElem?_append_left (by omega)]
 ·by_cases h2:i<G.length
  ·rw[zdf (List.range N) G bs i h2 (by simp;omega),List.getElem?_append_right (by omega),List.getElem?_drop]
   congr 1;omega
  ·rw[List.getElem?_eq_none (by simp at hlen;omega),List.getElem?_eq_none (by simp;omega)]
theorem zfo{H Hc:Heap}{N:Nat}(hN:N≤H.length)(hc:H.take N=Hc)(hb:zaf N Hc=true):Hands H (List.range N) Hc:=by
 have hl:Hc.length=N:=by rw[<-hc];simp;omega
 refine⟨List.nodup_range,fun x hx=>by simp at hx;omega,by simp[hl],fun j i b hj hbj=>?_,fun j b hbj=>?_⟩
 ·have hj':=(List.getElem?_eq_some_iff.1 hbj).1
  have:i=j:=by
   rw[List.getElem?_range (by omega)]at hj;cases hj;rfl
  subst this
  rw[Blk.zbN (N:=N) (fun j hj=>zfz hj) b (zcZ hb _ b hbj)]
  rw[<-hc,List.getElem?_take,if_pos (by omega)]at hbj
  exact hbj
 ·rw[hl];exact zcZ hb j b hbj
section rules
variable {P:Program}{n:Nat}{env:Env}{H:Heap}{K:TK}{all:Array Oper}{rest:List Oper}{tab:Tab}{q:Bool}
variable {d:Nat}{ty:TypeId}{pos:String}{aft:Array Edge}
def Within(N:Nat)(R:Res->Heap->Prop):Prop:=
 (∀v H',R (.ret v) H'->v.under N=true/\H'.length=N/\zaf N H'=true)/\∀v H',R (.panic v) H'->v.under N=true/\H'.length=N/\zaf N H'=true
theorem TO.zfc(N:Nat){Hc:Heap}{cargs:List SV}{R:Res->Heap->Prop}{f:Operand}{fid:FuncId}{caps:List SV}{args:Array Operand}{ts:Array TypeId}{vs:List SV}(hs:Sound P fid cargs Hc R)(hw:Within N R)(hd:Nat.ble (d+1) n=true)
  (hf:env.val f=some (.fn fid caps))(ha:env.vals args.toList=some vs)(hl:Les (vs++caps) cargs)(hu:unders N cargs=true)(hN:N≤H.length)(hc:H.take N=Hc)(hb:zaf N Hc=true)
  (k:∀v H',R (.ret v) H'->TO false P n all rest ((d,v)::env) (H'++H.drop N) K)(kp:∀v H',R (.panic v) H'->K (.panic v) env (H'++H.drop N)):
  TO false P n all (⟨some d,.call { callee:=.value f,args:=args,argTypes:=ts },ty,pos,aft,none⟩::rest) env H K:=by
 have hr:∀j,j<N->names (List.range N) H.length j=j:=fun j hj=>zfz hj
 have hlen:Hc.length=N:=by rw[<-hc];simp;omega
 refine TO.call (List.range N) hs hd hf ha (by rw[zbC hr _ hu];exact hl) (by rw[hlen];exact hu) (zfo hN hc hb) (fun v Hc' h=>?_) (fun v Hc' h=>?_)
 ·obtain⟨g1,g2,g3⟩:=hw.1 v Hc' h
  rw[zbN hr v g1,zhE hr Hc' g3,zfm g2 hN]
  exact k v Hc' h
 ·obtain⟨g1,g2,g3⟩:=hw.2 v Hc' h
  rw[zbN hr v g1,zhE hr Hc' g3,zfm g2 hN]
  exact kp v Hc' h
theorem TO.zu1(N:Nat){Hc:Heap}{f x:Operand}{id:Nat}{arg:SV}{ts:Array TypeId}{R:Res->Heap->Prop}(hs:zhX P id arg Hc R)(hw:Within N R)(hd:Nat.ble (d+1) n=true)(hf:env.val f=some (.yl id))(hx:env.val x=some arg)
  (hu:arg.under N=true)(hid:id<N)(hN:N≤H.length)(hc:H.take N=Hc)(hb:zaf N Hc=true)
  (k:∀v H',R (.ret v) H'->TO false P n all rest ((d,v)::env) (H'++H.drop N) K)(kp:∀v H',R (.panic v) H'->K (.panic v) env (H'++H.drop N)):
  TO false P n all (⟨some d,.call { callee:=.value f,args:=#[x],argTypes:=ts },ty,pos,aft,none⟩::rest) env H K:=by
 have hr:∀j,j<N->names (List.range N) H.length j=j:=fun j hj=>zfz hj
 have hlen:Hc.length=N:=by rw[<-hc];simp;omega
 have hh:=zfo hN hc hb
 refine TO.yield (R:=fun r H'=>∃H0,R r H0/\H'=H0++H.drop N) (arg:=arg) ?_ hd hf hx ?_ ?_
 ·intro m y r p h1 h2 h3 hp
  subst h1
  have lies:=zhM h2 hh
  have hp':(cutM m (List.range N) Hc).β[id]?=some p:=by
   simp[cutM,hid,hp]
  obtain⟨fn,tmps,as,bo,g1,g2⟩:=hs (cutM m (List.range N) Hc) y r p rfl (lies.hrel h2) (lies.zd2 (by rw[zbN hr arg hu];exact h3) (by show arg.under Hc.length=true;rw[hlen];exact hu)) hp'
  refine⟨fn,tmps,as,bo,g1,g2.mono ?_⟩
  rintro e w' ⟨mc',res,rfl,s,hmc,hres,hR⟩
  obtain⟨st,hbk⟩:=znI h2 hh s hmc
  have fact:∀v,v.under N=true->mc'.H.length=N->zaf N mc'.H=true->(∀z,SRel mc' v z->SRel (back m mc' (List.range N)) v z)/\(back m mc' (List.range N)).H=mc'.H++m.H.drop N:=by
   intro v q1 q2 q3
   refine⟨fun z hz=>?_,?_⟩
   ·have:=zdV h2 hh hmc (by simp;omega) hz
    rw[zbN hr v q1]at this
    exact this
   ·show patch m.H (List.range N) (mc'.H.map (Blk.ren (names (List.range N) m.H.length)))=_
    rw[zhE hr mc'.H q3,zfm q2 hN]
  cases res with
  | ret v=>
    cases e with
    | returned z=>
      obtain⟨q1,q2,q3⟩:=hw.1 v _ hR
      obtain⟨f1,f2⟩:=fact v q1 q2 q3
      exact⟨back m mc' (List.range N),.ret v,rfl,st,hbk,f1 z hres,mc'.H,hR,f2⟩
    | _=>simp[zb8]at hres
  | panic v=>
    cases e with
    | panicked ch=>
      obtain⟨q1,q2,q3⟩:=hw.2 v _ hR
      obtain⟨f1,f2⟩:=fact v q1 q2 q3
      obtain⟨z,hz1,hz2⟩:=hres
      exact⟨back m mc' (List.range N),.panic v,rfl,st,hbk,⟨z,hz1,f1 z hz2⟩,mc'.H,hR,f2⟩
    | _=>simp[zb8]at hres
 ·rintro v H' ⟨H0,h,rfl⟩;exact k v H0 h
 ·rintro v H' ⟨H0,h,rfl⟩;exact kp v H0 h
end rules
def zkQ(m:M):Option SV->FrameMode->Prop
 | none,u=>u= .returning
 | some v,u=>∃x,u= .panicking [{ v:=x,recovered:=false }]/\SRel m v x
def zdr(P:Program)(f:FuncId)(args:List SV)(H:Heap)(pv:Option SV)(R:Heap->Prop):Prop:=
 Callable P f/\∀(m:M) (vs:Array Value) (u:FrameMode),m.H=H->HRel m->ARel m args vs->zkQ m pv u->
  CallsDIn (Fr none) 0 P f vs u m.w fun e u' w'=>(∃y,e= .returned y)/\settle u'= .returning/\∃m':M,m'.w=w'/\Step m m'/\HRel m'/\R m'.H
def ztt(N:Nat)(R:Heap->Prop):TK
 | .normal,_,H=>N≤H.length/\zaf N (H.take N)=true/\R (H.take N)
 | .ret,_,H=>N≤H.length/\zaf N (H.take N)=true/\R (H.take N)
 | _,_,_=>False
theorem zh3{P:Program}{cs:List Frame}{s0:Nat}{w0:World}:∀(ks:List Nat) (w:World) (fr:Frame),Shut s0 w0 w->fr.mode≠ .run->fr.defers=ks.map mark->ks.Nodup->(∀k∈ks,s0≤k/\w.heap[k]?=some (.deferred (some [])))->
  ∃w',Shut s0 w0 w'/\StepsIn (fun _=>True) P (lone fr cs w) (lone { fr with defers:=[] } cs w')
 | [],w,fr,hs,hm,hd,_,_=>⟨w,hs,by
     have:({ fr with defers:=[] }:Frame)=fr:=by cases fr;simp at hd;simp[hd]
     rw[this];exact .refl _⟩
 | k::ks,w,fr,hs,hm,hd,hn,hk=>by
   obtain⟨hk1,hk2⟩:=hk k List.mem_cons_self
   have hn':=List.nodup_cons.1 hn
   have h1:=step_collected (P:=P) (cs:=cs) (fr:=fr) (r:=k) hm hd rfl (run_takeDeferred hk2)
   obtain⟨w',g1,g2⟩:=zh3 (P:=P) (cs:=cs) ks _ { fr with defers:=[]++ks.map mark } (hs.put hk1 hk2 none) hm rfl hn'.2 (fun k' hk'=>by
    obtain⟨q1,q2⟩:=hk k' (List.mem_cons_of_mem _ hk')
    exact⟨q1,by rw[World.putObj_heap_other (by intro e;subst e;exact hn'.1 hk')];exact q2⟩)
   exact⟨w',g1,.head trivial h1 g2⟩
theorem zdr.of{P:Program}{tab:Tab}{f:FuncId}{fn:Func}{c':Code}{args:List SV}{H:Heap}{pv:Option SV}{R:Heap->Prop}{id d:Nat}{ty:TypeId}{pos:String}{aft:Array Edge}{rest:List Oper}
  (hf:P.funcs[f]?=some fn)(hn:(fn.name == "runtime.NumGoroutine")=false)
  (hb:fn.body=some (.seq (.region id (⟨some d,.call { callee:=.builtin .recover,args:=#[],argTypes:=#[] },ty,pos,aft,none⟩::rest).toArray false) c'))
  (hres:fn.results= #[])(ha:Nat.ble args.length fn.ntmps=true)(hd:Nat.ble (d+1) fn.ntmps=true)
  (h:TO false P fn.ntmps (⟨some d,.call { callee:=.builtin .recover,args:=#[],argTypes:=#[] },ty,pos,aft,none⟩::rest).toArray rest ((d,pv.getD (.t (.v .nilIface)))::zfh 0 args) H (Then P fn.ntmps c' (ztt H.length R))):zdr P f args H pv R:=by
 refine⟨⟨fn,hf,hn,by rw[hb];rfl⟩,fun m vs u h1 h2 h3 hu=>?_⟩
 subst h1
 have hal:=Nat.le_of_ble_eq_true ha
 have hE:ERel m fn.ntmps (zfh 0 args) (vs++Array.replicate (fn.ntmps-vs.size) undef):=by
  refine⟨by simp[h3.1];omega,fun i v hv=>?_⟩
  obtain⟨g1,g2⟩:=zef _ _ _ _ hv
  have hi:=(List.getElem?_eq_some_iff.1 g2).1
  have hvi:vs[i]?=some (vs[i]'(by rw[h3.1];omega)):=Array.getElem?_eq_getElem _
  exact⟨_,by rw[Array.getElem?_append_left (by rw[h3.1];omega)];exact hvi,h3.2 i v _ (by simpa using g2) hvi⟩
 refine⟨trivial,fun c₀ cs hc₀ hroom=>?_⟩
 let b:Frame:={ (default:Frame)with fn:=f,kind:=.deferred,roundOf:=none }
 let a0:Act:={ tmps:=vs++Array.replicate (fn.ntmps-vs.size) undef,defers:=[] }
 have henter:Frame.enter P f vs .deferred=b.atR a0 [.code (.seq (.region id (⟨some d,.call { callee:=.builtin .recover,args:=#[],argTypes:=#[] },ty,pos,aft,none⟩::rest).toArray false) c')]:=by
  simp[Frame.enter,Frame.atR,hf,hb,b,a0]
 obtain⟨x,u',hrec,hx,hset⟩:∃x u',(∀cs',((recoverD (c₀::cs')=some (x,{ c₀ with mode:=u' }::cs'))\/(recoverD (c₀::cs')=none/\x= .nilIface/\u'=c₀.mode)))/\SRel m (pv.getD (.t (.v .nilIface))) x/\settle u'= .returning:=by
  cases pv with
  | none=>
    simp only[zkQ]at hu
    refine⟨.nilIface,c₀.mode,fun cs'=>.inr ⟨by simp[recoverD,hc₀,hu],rfl,rfl⟩,.t _ _ (.v _),by rw[hc₀,hu];rfl⟩
  | some v=>
    obtain⟨x,hux,hxx⟩:=hu
    exact⟨x,.panicking [{ v:=x,recovered:=true }],fun cs'=>.inl (by simp[recoverD,hc₀,hux]),hxx,by simp[settle]⟩
 have hD:zdK ⟨none,m.w.heap.size,[]⟩ m.w ([]:List Deferred):=⟨⟨[],rfl,fun _=>rfl,List.nodup_nil,by simp⟩,Nat.le_refl _,fun l hl=>by cases hl⟩
 have hto:=h ⟨none,m.w.heap.size,[]⟩ m (a0.put (some d) x) rfl h2 (ERel.put (a:=a0) d hE (Nat.le_of_ble_eq_true hd) hx) hD
 generalize hall:(⟨some d,.call { callee:=.builtin .recover,args:=#[],argTypes:=#[] },ty,pos,aft,none⟩::rest:List Oper).toArray=all at*
 have h0:all[0]?=some ⟨some d,.call { callee:=.builtin .recover,args:=#[],argTypes:=#[] },ty,pos,aft,none⟩:=by rw[<-hall];simp
 have hsz:all.size=rest.length+1:=by rw[<-hall];simp
 have hops:wpOpsIn (Fr none) 0 P all (Post ⟨none,m.w.heap.size,[]⟩ m fn.ntmps (Then P fn.ntmps c' (ztt m.H.length R))) (List.range' 1 rest.length) (a0.put (some d) x) m.w:=by
  rw[wpOpsIn_eq_wpListIn rest 1 (fun j=>by rw[<-hall];simp[Nat.add_comm 1 j])]
  exact hto
 have wide:∀ {x y:Machine},StepsIn (fun _=>True) P x y->StepsIn (Machine.fenced P (Fr none)) P x y:=fun h=>stepsIn_wide.2 (steps_iff.2 h)
 obtain⟨e1,a1,w1,hq1,harr1⟩:=wp_opsIn (F:=Fr none) (n:=0) _ _ _ hops b [.code c'] ({ c₀ with mode:=u' }::cs) rfl trivial (room_wide _)
 have harr1':=zha (I':=fun _=>True) (fun _ _=>trivial) harr1
 have hstep:step P (lone (b.atR a0 (.inRegion all (0::List.range' 1 rest.length)::[.code c'])) (c₀::cs) m.w)= .next (lone (b.atR (a0.put (some d) x) (.inRegion all (List.range' 1 rest.length)::[.code c'])) ({ c₀ with mode:=u' }::cs) m.w):=by
  have hg:=stepGR_op (P:=P) (b:=b) (a:=a0) (k:=[.code c']) (cs:=c₀::cs) (w:=m.w) (i:=0) (rest:=List.range' 1 rest.length) h0 (by simp[Region.wanted])
  have hfin:∀v,(b.atR a0 (.inRegion all (0::List.range' 1 rest.length)::[.code c'])).finish v=b.atR (a0.put (some d) v) (.inRegion all (List.range' 1 rest.length)::[.code c']):=by
   intro v;rw[Frame.finish_atR,h0];rfl
  have hr:(execOp a0.eval ⟨some d,.call { callee:=.builtin .recover,args:=#[],argTypes:=#[] },ty,pos,aft,none⟩).run P m.w= .ok .recover m.w:=by
   simp[execOp,resolve,invoke,builtin]
  have hk:(b.atR a0 (.inRegion all (0::List.range' 1 rest.length)::[.code c'])).kind= .deferred:=rfl
  have htr:=tryRecover_deferred hk (c₀::cs)
  refine step_lone_go ?_
  rw[hg,<-hfin]
  simp only[Frame.atR,b]at htr⊢
  rcases hrec cs with hr1|⟨hr1,hr2,hr3⟩
  ·simp[stepG.apply,Oper.semAt_none,hr,htr,hr1]
  ·have hc:({ c₀ with mode:=u' }:Frame)=c₀:=by rw[hr3]
   rw[hc]
   simp only[stepG.apply,Oper.semAt_none,hr,htr,hr1,hr2,Sem.runT_eq,GStep.bare_after]
   rfl
 have s0:StepsIn (fun _=>True) P (lone (Frame.enter P f vs .deferred) (c₀::cs) m.w) (lone (b.atR (a0.put (some d) x) (.inRegion all (List.range' 1 rest.length)::[.code c'])) ({ c₀ with mode:=u' }::cs) m.w):=by
  rw[henter]
  refine .head trivial stepR_seq (.head trivial stepR_region ?_)
  rw[hsz,List.range_eq_range',List.range'_succ]
  exact .one trivial hstep
 have fin:∀(m2:M) (a2:Act),Step m m2->HRel m2->zdK ⟨none,m.w.heap.size,[]⟩ m2.w a2.defers->m.H.length≤m2.H.length/\zaf m.H.length (m2.H.take m.H.length)=true/\R (m2.H.take m.H.length)->∀todo,
   StepsIn (fun _=>True) P (lone (Frame.enter P f vs .deferred) (c₀::cs) m.w) (lone { b.atR a2 todo with mode:=.returning } ({ c₀ with mode:=u' }::cs) m2.w)->
   ∃e u'' w' fr,((∃y,e=Ending.returned y)/\settle u''= .returning/\∃m':M,m'.w=w'/\Step m m'/\HRel m'/\R m'.H)/\
    ComesIn (Machine.fenced P (Fr none)) P (lone (Frame.enter P f vs .deferred) (c₀::cs) m.w) (lone fr ({ c₀ with mode:=u'' }::cs) w') e/\fr.kind= .deferred/\fr.fn=f/\fr.going P w' e:=by
  intro m2 a2 st hm2 hdef hR todo hs
  obtain⟨⟨ks,hd1,_,hd2,hd3⟩,_,_⟩:=hdef
  simp only[List.append_nil]at hd1
  obtain⟨w',hsh,hs2⟩:=zh3 (P:=P) (cs:={ c₀ with mode:=u' }::cs) (s0:=m.w.heap.size) (w0:=m2.w) ks m2.w { b.atR a2 todo with mode:=.returning } (.refl _ _) (by simp) hd1 hd2 hd3
  obtain⟨s2,hm3⟩:=hsh.ok hm2 st
  obtain⟨c1,c2,_⟩:=zf8 hm3 s2 (k:=m.H.length) hR.1 (by rw[h2.len];exact Nat.le_refl _) hR.2.1
  refine⟨.returned (.tuple #[]),u',w',_,⟨⟨_,rfl⟩,hset,_,rfl,c1,c2,hR.2.2⟩,wide (hs.trans hs2),rfl,rfl,rfl,rfl,fn,hf,?_⟩
  simp[results,hres]
 obtain⟨m1,env1,te1,rfl,st1,hm1,he1,hd1,hx1,hK1⟩:=hq1
 cases te1 with
 | normal=>
   cases e1 <;> simp[zbM]at hx1
   have hK1':TR P fn.ntmps c' env1 m1.H (ztt m.H.length R):=hK1
   obtain⟨e2,a2,w2,⟨m2,env2,te2,rfl,st2,hm2,he2,hd2,hx2,hK2⟩,harr2⟩:=hK1' ⟨none,m.w.heap.size,[]⟩ m1 a1 rfl hm1 he1 hd1 b [] ({ c₀ with mode:=u' }::cs) rfl (by simp[b,hf])
   have s1:StepsIn (fun _=>True) P (lone (Frame.enter P f vs .deferred) (c₀::cs) m.w) (lone (b.atR a1 [.code c']) ({ c₀ with mode:=u' }::cs) m1.w):=s0.trans harr1'
   cases te2 with
   | normal=>
     cases e2 <;> simp[zbM]at hx2
     exact fin m2 a2 (st1.trans st2) hm2 hd2 hK2 [] (s1.trans (StepsIn.trans harr2 (.one trivial (stepR_end rfl))))
   | ret=>
     cases e2 <;> simp[zbM]at hx2
     obtain⟨todo,hs⟩:=harr2.1 rfl
     exact fin m2 a2 (st1.trans st2) hm2 hd2 hK2 todo (s1.trans hs)
   | exit i=>exact hK2.elim
   | panic v=>exact hK2.elim
 | ret=>
   cases e1 <;> simp[zbM]at hx1
   obtain⟨todo,hs⟩:=harr1'.1 rfl
   exact fin m1 a1 st1 hm1 hd1 hK1 todo (s0.trans hs)
 | exit i=>exact hK1.elim
 | panic v=>exact hK1.elim
def DefD(m:M)(gf:FuncId)(cv:List SV)(d:Deferred):Prop:=∃arr,d= { target:=.fn (.func gf) arr,args:=#[] }/\ARel m cv arr
def zr3(s0:Nat)(m:M)(n:Nat)(K:TK)(gf:FuncId)(cv:List SV)(KD:TK)(e:Exit)(a:Act)(w:World):Prop:=
 Post ⟨none,s0,[]⟩ m n K e a w\/
 ∃(m':M) (env:Env) (te:zc6) (ks' ks:List Nat) (d:Deferred),m'.w=w/\Step m m'/\HRel m'/\ERel m' n env a.tmps/\a.defers=ks'.map mark++d::ks.map mark/\(ks'++ks).Nodup/\
  (∀k∈ks'++ks,s0≤k/\m'.w.heap[k]?=some (.deferred (some [])))/\DefD m' gf cv d/\zbM m' te e/\KD te env m'.H
def TD(P:Program)(n:Nat)(c:Code)(env:Env)(H:Heap)(K:TK)(gf:FuncId)(cv:List SV)(KD:TK):Prop:=
 ∀(s0:Nat) (m:M) (a:Act),m.H=H->HRel m->ERel m n env a.tmps->zdK ⟨none,s0,[]⟩ m.w a.defers->Code.wpr P none c (zr3 s0 m n K gf cv KD) a m.w
def zkP(P:Program)(n:Nat)(c:Code)(K:TK)(gf:FuncId)(cv:List SV)(KD:TK):TK
 | .normal,env,H=>TD P n c env H K gf cv KD
 | e,env,H=>K e env H
section rules
variable {P:Program}{n:Nat}{env:Env}{H:Heap}{K KD:TK}{gf:FuncId}{cv:List SV}
theorem zr3.step{s0:Nat}{m m':M}(s:Step m m'){e:Exit}{a:Act}{w:World}(h:zr3 s0 m' n K gf cv KD e a w):zr3 s0 m n K gf cv KD e a w:=by
 rcases h with h|⟨m2,env2,te,ks',ks,d,h1,h2,h3⟩
 ·exact .inl (h.step s)
 ·exact .inr ⟨m2,env2,te,ks',ks,d,h1,s.trans h2,h3⟩
theorem TD.seq{x y:Code}(h:TR P n x env H (zkP P n y K gf cv KD)):TD P n (.seq x y) env H K gf cv KD:=by
 intro s0 m a h1 h2 h3 h4
 refine zmM (zbA (h ⟨none,s0,[]⟩ m a h1 h2 h3 h4) ?_)
 rintro e a' w ⟨m2,env2,te,rfl,s,hm,he,hd,hx,hk⟩
 cases te with
 | normal=>
   cases e <;> simp[zbM]at hx
   exact zbA (hk s0 m2 a' rfl hm he hd) fun _ _ _ hp=>hp.step s
 | exit i=>cases e <;> simp[zbM]at hx;exact .inl ⟨m2,env2,.exit i,rfl,s,hm,he,hd,hx,hk⟩
 | ret=>cases e <;> simp[zbM]at hx;exact .inl ⟨m2,env2,.ret,rfl,s,hm,he,hd,trivial,hk⟩
 | panic v=>
   cases e with
   | panic ch=>exact .inl ⟨m2,env2,.panic v,rfl,s,hm,he,hd,hx,hk⟩
   | _=>simp[zbM]at hx
theorem TD.defer{id t:Nat}{caps:Array Operand}{c2:Code}{ty ty' tz:TypeId}{pos pos':String}{aft aft':Array Edge}{ts:Array TypeId}(ht:Nat.ble (t+1) n=true)(hv:caps.toList.mapM env.val=some cv)
  (h:TR P n c2 ((t,.fn gf cv)::env) H KD):
  TD P n (.seq (.region id [⟨some t,.makeFunc (.func gf) #[] caps,ty,pos,aft,none⟩,⟨none,.defer { callee:=.value (.tmp t),args:=#[],argTypes:=ts },ty',pos',aft',none⟩].toArray false) c2) env H K gf cv KD:=by
 intro s0 m a h1 h2 h3 h4
 have hcl:SRel m (.fn gf cv) (.func (.func gf) #[] (caps.map a.eval)):=by
  have hl:∀(l:List Operand) (vs:List SV),l.mapM env.val=some vs->l.length=vs.length/\∀(i:Nat) c,vs[i]?=some c->∃o,l[i]?=some o/\env.val o=some c:=by
   intro l
   induction l with
   | nil=>intro vs h;simp at h;subst h;simp
   | cons x l ih=>
     intro vs h
     simp only[List.mapM_cons]at h
     cases hx:env.val x with
     | none=>rw[hx]at h;cases h
     | some v=>
       rw[hx]at h
       cases hq:(l.mapM env.val:Option (List SV)) with
       | none=>rw[hq]at h;cases h
       | some us=>
         rw[hq]at h;cases h
         obtain⟨g1,g2⟩:=ih us hq
         refine⟨by simp[g1],fun i c hc=>?_⟩
         cases i with
         | zero=>simp at hc;subst hc;exact⟨x,rfl,hx⟩
         | succ i=>simpa using g2 i c (by simpa using hc)
  obtain⟨g1,g2⟩:=hl _ _ hv
  refine .fn gf cv _ (by simp;simpa using g1) fun i c y hc hy=>?_
  obtain⟨o,ho,hvo⟩:=g2 i c hc
  have ho':caps[i]?=some o:=by simpa using ho
  simp only[Array.getElem?_map,ho',Option.map_some,Option.some.injEq]at hy
  subst hy
  exact h3.val hvo
 obtain⟨⟨ks,hd1,_,hd2,hd3⟩,hd4,_⟩:=h4
 simp only[List.append_nil]at hd1
 have hcl2:=hcl
 generalize hq:(caps.map a.eval)=arr at hcl
 have harr:ARel m cv arr:=by
  cases hcl with
  | fn _ _ _ hs hr=>exact⟨hs,fun i s x hsx hx=>hr i s x hsx hx⟩
 let a1:Act:=a.put (some t) (.func (.func gf) #[] arr)
 let d:Deferred:={ target:=.fn (.func gf) arr,args:=#[] }
 let a2:Act:={ tmps:=a1.tmps,defers:=d::a1.defers }
 have hE:ERel m n ((t,.fn gf cv)::env) a2.tmps:=h3.put t (Nat.le_of_ble_eq_true ht) hcl
 have hrun2:(execOp a1.eval ⟨none,.defer { callee:=.value (.tmp t),args:=#[],argTypes:=ts },ty',pos',aft',none⟩).run P m.w= .ok (.defer d) m.w:=by
  have he:a1.eval (.tmp t)= .func (.func gf) #[] arr:=by
   obtain⟨x,x1,x2⟩:=(h3.put t (Nat.le_of_ble_eq_true ht) hcl).2 t _ (Env.zax t _ env)
   have hlt:t<a.tmps.size:=by rw[h3.1];exact Nat.le_of_ble_eq_true ht
   simp[a1,Act.put,Act.eval,Array.getElem?_setIfInBounds,hlt]
  simp[execOp,resolve,he,Deferred.ofValue,d]
 refine zmM (zbU (wpIn_region_lit ?_))
 refine wpListIn_plain rfl fun K' hK=>?_
 unfold Oper.wpIn
 refine⟨fun _ _=>trivial,?_⟩
 rw[zaT (x:=.value (.func (.func gf) #[] arr)) (w':=m.w) (by simp[execOp,Instr.makeFunc,hq]) (by intro d e;cases e)]
 simp only[Oper.uponIn]
 refine hK _ _ ?_
 refine wpListIn_plain rfl fun K2 hK2=>?_
 unfold Oper.wpIn
 refine⟨fun _ _=>trivial,?_⟩
 have hsem:(Oper.semAt (Fr none).round a1.eval ⟨none,.defer { callee:=.value (.tmp t),args:=#[],argTypes:=ts },ty',pos',aft',none⟩).run P m.w= .ok (.defer d) m.w:=hrun2
 rw[show(a.put (some t) (.func (.func gf) #[] arr))=a1 from rfl,hsem]
 simp only[Oper.uponIn]
 refine hK2 _ _ ?_
 show wpListIn (Fr none) 0 P _ _ [] a2 m.w
 have hsize:∀k∈ks,k<m.w.heap.size:=fun k hk=>(Array.getElem?_eq_some_iff.1 (hd3 k hk).2).1
 refine wpListIn_nil (zbA (h ⟨none,m.w.heap.size,d::ks.map mark⟩ m a2 h1 h2 hE ⟨⟨[],by simp[a2,a1,Act.put,hd1],fun _=>rfl,List.nodup_nil,by simp⟩,Nat.le_refl _,fun l hl=>by cases hl⟩) ?_)
 rintro e a' w ⟨m2,env2,te,rfl,s,hm,he,⟨⟨ks',hd1',_,hd2',hd3'⟩,_,_⟩,hx,hk⟩
 refine .inr ⟨m2,env2,te,ks',ks,d,rfl,s,hm,he,hd1',?_,fun k hk=>?_,⟨arr,rfl,harr.1,fun i c y hc hy=>s.srel h2 (harr.2 i c y hc hy)⟩,hx,hk⟩
 ·refine List.nodup_append.2 ⟨hd2',hd2,fun x hx y hy e=>?_⟩
  subst e
  have:=(hd3' x hx).1
  have:=hsize x hy
  simp only at*
  omega
 ·rcases List.mem_append.1 hk with hk|hk
  ·exact⟨Nat.le_trans hd4 (hd3' k hk).1,(hd3' k hk).2⟩
  ·exact⟨(hd3 k hk).1,by rw[s.block k (hsize k hk) (ztX h2 (hd3 k hk).2)];exact(hd3 k hk).2⟩
def KDef(P:Program)(tab:Tab)(rs:List ResultVar)(N:Nat)(R:Res->Heap->Prop)(gf:FuncId)(cv:List SV):TK
 | .normal,env,H=>∃RH,zdr P gf cv H none RH/\∀H3,RH H3->RetK tab rs N R .ret env H3
 | .ret,env,H=>∃RH,zdr P gf cv H none RH/\∀H3,RH H3->RetK tab rs N R .ret env H3
 | .panic v,env,H=>∃RH,zdr P gf cv H (some v) RH/\∀H3,RH H3->RetK tab rs N R .ret env H3
 | .exit _,_,_=>False
theorem Sound.zra{tab:Tab}(hT:zaB P tab){f:FuncId}{fn:Func}{c:Code}{args:List SV}{R:Res->Heap->Prop}(hf:P.funcs[f]?=some fn)(hn:(fn.name == "runtime.NumGoroutine")=false)(hb:fn.body=some c)
  (ha:Nat.ble args.length fn.ntmps=true)(h:TD P fn.ntmps c (zfh 0 args) H (RetK tab fn.results.toList H.length R) gf cv (KDef P tab fn.results.toList H.length R gf cv)):Sound P f args H R:=by
 refine⟨⟨fn,hf,hn,by rw[hb];rfl⟩,fun m vs h1 h2 h3=>?_⟩
 have hal:=Nat.le_of_ble_eq_true ha
 refine zhf hf hb (zbA (h m.w.heap.size m _ h1 h2 ⟨by simp[h3.1];omega,fun i v hv=>?_⟩ ⟨⟨[],rfl,fun _=>rfl,List.nodup_nil,by simp⟩,Nat.le_refl _,fun l hl=>by cases hl⟩) ?_)
 ·obtain⟨g1,g2⟩:=zef _ _ _ _ hv
  have hi:=(List.getElem?_eq_some_iff.1 g2).1
  have hvi:vs[i]?=some (vs[i]'(by rw[h3.1];omega)):=Array.getElem?_eq_getElem _
  exact⟨_,by rw[Array.getElem?_append_left (by rw[h3.1];omega)];exact hvi,h3.2 i v _ (by simpa using g2) hvi⟩
 ·rintro e a' w' (hp|⟨m',env,te,ks',ks,d,rfl,s,hm',he,hd,hnd,hks,⟨arr,rfl,harr⟩,hx,hK⟩)
  ·exact zlo hT h1 h2 rfl hp
  ·have fin:∀(m3:M) vs v k,Step m m3->HRel m3->ERel m3 fn.ntmps env a'.tmps->zca tab env m3.H fn.results.toList=some vs->Le (pack vs) v->H.length≤k->k≤m3.H.length->v.under k=true->zaf k (m3.H.take k)=true->R (.ret v) (m3.H.take k)->
     ∀w'',Shut m.w.heap.size m3.w w''->∃v,(results fn a'.tmps).run P w''= .ok v w''/\∃(m2:M) (r:Res),m2.w=w''/\Step m m2/\HRel m2/\zb8 m2 r (.returned v)/\R r m2.H:=by
    intro m3 vs v k s3 hm3 he3 g1 g2 g3 g4 g5 g6 g7 w'' hsh
    obtain⟨s2,hm2⟩:=hsh.ok hm3 s3
    have he2:ERel ⟨m3.A,m3.β,m3.H,w''⟩ fn.ntmps env a'.tmps:=⟨he3.1,fun i v hv=>let ⟨x,x1,x2⟩:=he3.2 i v hv;⟨x,x1,hsh.srel x2⟩⟩
    obtain⟨x,hr,hp⟩:=zia hT hm2 he2 g1
    obtain⟨c1,c2,c3⟩:=zf8 hm2 s2 g4 (by rw[h2.len,h1];exact g3) g6
    exact⟨x,hr,_,.ret v,rfl,c1,c2,c3 _ _ g5 (g2 _ _ hp),g7⟩
   have hnd':=List.nodup_append.1 hnd
   have go:∀(u:FrameMode) (pv:Option SV) (RH:Heap->Prop),u≠ .run->zkQ m' pv u->zdr P gf cv m'.H pv RH->(∀H3,RH H3->RetK tab fn.results.toList H.length R .ret env H3)->
     LeavesInM (Fr none) 0 P fn a'.tmps (fun e w'=>∃(m':M) (r:Res),m'.w=w'/\Step m m'/\HRel m'/\zb8 m' r e/\R r m'.H) a'.defers u m'.w:=by
    intro u pv RH hu hmode hS hR
    rw[hd]
    refine zdF hu ks' m'.w (.refl _ _) hnd'.1 (fun k hk=>hks k (List.mem_append_left _ hk)) fun w1 hw1 hkeep=>?_
    obtain⟨s1,hm1⟩:=hw1.ok hm' s
    obtain⟨⟨fng,q1,q2,q3⟩,hcalls⟩:=hS
    have q2':¬fng.name= "runtime.NumGoroutine":=by simpa using q2
    have q3':¬fng.body=none:=by intro e;simp[e]at q3
    refine⟨hu,.inr ⟨fun h=>by simp[Fence.wide]at h,.func gf,arr,gf,arr,rfl,?_,fun _ _=>trivial,?_⟩⟩
    ·simp[invoke,callFunc,q1,q2',q3']
    ·have harr1:ARel ⟨m'.A,m'.β,m'.H,w1⟩ cv arr:=⟨harr.1,fun i c y hc hy=>hw1.srel (harr.2 i c y hc hy)⟩
     have hmode1:zkQ ⟨m'.A,m'.β,m'.H,w1⟩ pv u:=by
      cases pv with
      | none=>exact hmode
      | some v=>obtain⟨x,x1,x2⟩:=hmode;exact⟨x,x1,hw1.srel x2⟩
     have hc:=hcalls ⟨m'.A,m'.β,m'.H,w1⟩ arr u rfl hm1 harr1 hmode1
     refine⟨trivial,fun c0 cs hc0 hroom=>?_⟩
     obtain⟨e,u',w2,fr,⟨⟨y,rfl⟩,hset,m3,rfl,s3,hm3,hRH⟩,g1,g2,g3,g4⟩:=hc.2 c0 cs hc0 hroom
     refine⟨.returned y,u',m3.w,fr,?_,g1,g2,g3,g4⟩
     show LeavesInM (Fr none) 0 P fn a'.tmps _ (ks.map mark) (settle u') m3.w
     rw[hset,<-List.append_nil (ks.map mark)]
     have hks3:∀k∈ks,m.w.heap.size≤k/\m3.w.heap[k]?=some (.deferred (some [])):=by
      intro k hk
      obtain⟨f1,f2⟩:=hks k (List.mem_append_right _ hk)
      have hnk:k ∉ ks':=fun h=>hnd'.2.2 k h k hk rfl
      have f3:w1.heap[k]?=some (.deferred (some [])):=(hkeep k hnk).trans f2
      exact⟨f1,by rw[s3.block k (Array.getElem?_eq_some_iff.1 f3).1 (ztX hm1 f3)];exact f3⟩
     refine zdF (by simp) ks m3.w (.refl _ _) hnd'.2.1 hks3 fun w4 hw4 _=>?_
     obtain⟨vs,v,k,p1,p2,p3,p4,p5,p6,p7⟩:=hR _ hRH
     have he1:ERel ⟨m'.A,m'.β,m'.H,w1⟩ fn.ntmps env a'.tmps:=⟨he.1,fun i v hv=>let ⟨x,x1,x2⟩:=he.2 i v hv;⟨x,x1,hw1.srel x2⟩⟩
     exact fin m3 vs v k (s1.trans s3) hm3 (he1.step hm1 s3) p1 p2 p3 p4 p5 p6 p7 w4 hw4
   cases te with
   | normal=>
     cases e <;> simp[zbM]at hx
     obtain⟨RH,k1,k2⟩:=hK
     exact go .returning none RH (by simp) rfl k1 k2
   | ret=>
     cases e <;> simp[zbM]at hx
     obtain⟨RH,k1,k2⟩:=hK
     exact go .returning none RH (by simp) rfl k1 k2
   | panic v=>
     cases e with
     | panic ch=>
       obtain⟨x,rfl,hux⟩:=hx
       obtain⟨RH,k1,k2⟩:=hK
       exact go (.panicking _) (some v) RH (by simp) ⟨x,rfl,hux⟩ k1 k2
     | _=>simp[zbM]at hx
   | exit i=>exact hK.elim
end rules
end Go.TL
