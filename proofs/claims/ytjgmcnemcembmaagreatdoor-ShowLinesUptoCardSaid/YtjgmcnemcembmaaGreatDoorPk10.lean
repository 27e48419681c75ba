import Derived.RangeFuncNested
import Derived.WalkSmall
import Derived.RecoverIn
import Derived.Test.YtjgmcnemcembmaaGreatDoorPk9
set_option linter.unusedSimpArgs false
set_option linter.unusedVariables false
namespace Go.TL
open Go
theorem upd_loop_new{m:M}(hm:HRel m){fn n:Nat}{env:Env}{ps:Array Tmp}{aas bo:Code}{L:Loop}{w1:World}{l:Nat}(hos:w1.os=m.w.os)(htp:w1.tape=m.w.tape)(hou:w1.output=m.w.output)(hl:m.w.heap.size≤l)(hlt:l<w1.heap.size)(hsz:m.w.heap.size≤w1.heap.size)
  (hkeep:∀b,b<m.w.heap.size->w1.heap[b]?=m.w.heap[b]?)(hL:w1.heap[l]?=some (.loop L))(hh:L.fn=fn/\L.state= .ready/\L.pending=none/\L.params=ps/\L.assign=aas/\L.body=bo)(hE:ERel m n env L.tmps):
  Step m ⟨m.A,m.β++[⟨l,0,1⟩],m.H++[.loop fn .ready none n env ps aas bo],w1⟩/\HRel ⟨m.A,m.β++[⟨l,0,1⟩],m.H++[.loop fn .ready none n env ps aas bo],w1⟩:=by
 refine grow hm (A':=m.A) (βn:=[⟨l,0,1⟩]) (Hn:=[.loop fn .ready none n env ps aas bo]) hos htp hou hsz hkeep (fun _ _ h=>h) (fun _ _ h=>.inl h) rfl ?_ ?_ (fun b o h h'=>absurd h h') ?_
 ·intro i p k h1 h2 _
  cases i with
  | zero=>simp at h1;subst h1;exact .inl ⟨hl,hlt⟩
  | succ i=>simp at h1
 ·intro i j p q hij h1 h2
  cases i <;> cases j <;> simp at h1 h2 hij
 ·intro s i p k h1 h2
  cases i with
  | zero=>
    simp at h1 h2;subst h1;subst h2
    exact⟨rfl,rfl,L,hL,hh,hE.step hm s⟩
  | succ i=>simp at h1
theorem drop_ok{m:M}(hm:HRel m){id:Nat}{k:Blk}(hH:m.H[id]?=some k)(hk:k.obj=true):Step m ⟨m.A,m.β,m.H.set id .dead,m.w⟩/\HRel ⟨m.A,m.β,m.H.set id .dead,m.w⟩:=by
 have hid:=(List.getElem?_eq_some_iff.1 hH).1
 have pick:∀(i:Nat) c,(m.H.set id .dead)[i]?=some c->c.live=true->i≠id/\m.H[i]?=some c:=by
  intro i c h2 hl
  by_cases hi:i=id
  ·subst hi
   rw[List.getElem?_set_self hid]at h2
   cases h2;simp[Blk.live]at hl
  ·rw[List.getElem?_set_ne (by omega)]at h2
   exact⟨hi,h2⟩
 have own:∀b o,Own ⟨m.A,m.β,m.H.set id .dead,m.w⟩ b o->Own m b o:=by
  rintro b o ⟨i,q,c,h1,h2,h3,h4⟩
  exact⟨i,q,c,h1,(pick i c h2 h3).2,h3,h4⟩
 have s:Step m ⟨m.A,m.β,m.H.set id .dead,m.w⟩:=by
  refine⟨rfl,rfl,rfl,Nat.le_refl _,fun _ _ h=>h,fun _ _ h=>.inl h,fun b o h=>.inl (own b o h),fun _ _ _ _=>rfl,fun _ _ _ _ _=>rfl,fun _ _ _=>rfl,fun _ _ h=>h,fun _ L h=>⟨L,h⟩,fun _ _ _ h=>h,fun i q hq=>⟨q,hq,?_⟩⟩
  by_cases hi:i=id
  ·subst hi
   show IdStep m.H[i]? (m.H.set i .dead)[i]? q q
   rw[hH,List.getElem?_set_self hid]
   unfold IdStep
   split
   ·rename_i n e;cases k <;> simp[Blk.obj]at hk <;> simp[tlOf]at e
   ·exact⟨rfl,fun n h=>by cases h⟩
  ·refine idStep_same ?_
   show(m.H.set id .dead)[i]?=m.H[i]?
   rw[List.getElem?_set_ne (by omega)]
 refine⟨s,by simpa using hm.len,fun i q c h1 h2=>?_,fun i j q r c l hij h1 h2 h3 h4 hc hl=>?_,fun b o h hn=>hm.still b o h (own b o hn),hm.inA,fun i q c h1 h2 hc hq=>hm.inO i q c h1 (pick i c h2 hc).2 hc hq,s.glob hm⟩
 ·cases hlv:c.live with
  | false=>cases c <;> simp[Blk.live]at hlv;trivial
  | true=>exact(hm.blk i q c h1 (pick i c h2 hlv).2).step hm s (fun o _ _=>⟨rfl,fun _=>rfl⟩) (fun _=>rfl)
 ·exact hm.apart i j q r c l hij h1 (pick i c h2 hc).2 h3 (pick j l h4 hl).2 hc hl
section rules
variable {P:Program}{n:Nat}{env:Env}{H:Heap}{K:TK}{all:Array Oper}{rest:List Oper}{tab:Tab}{q:Bool}
variable {d:Nat}{ty:TypeId}{pos:String}{aft:Array Edge}
def RangeK(id:Nat)(env:Env)(K:TK)(v:Res)(H':Heap):Prop:=
 match v with
 | .panic v=>K (.panic v) env H'
 | .ret _=>∃fn st pe n' env' ps aas bo,H'[id]?=some (.loop fn st pe n' env' ps aas bo)/\st≠ .busy/\
   match pe with
   | none=>K .normal env (H'.set id .dead)
   | some .ret=>K .ret env (H'.set id .dead)
   | some (.exit i)=>K (.exit i) env (H'.set id .dead)
   | _=>False
theorem TR.rangeFunc{g:Operand}{ps:Array Tmp}{assign body:Code}{gf:FuncId}{caps:List SV}(hg:env.val g=some (.fn gf caps))
  (hs:∀fn,(P.funcs[fn]?).isSome=true->Sound P gf (.yl H.length::caps) (H++[.loop fn .ready none n env ps assign body]) (RangeK H.length env K)):TR P n (.rangeFunc g ps assign body) env H K:=by
 intro φ m a h1 h2 h3 h4 b k cs hro hfn
 have hS:=hs b.fn hfn
 subst h1
 obtain⟨l,mk,w1,he,hl,hlt,hsz,hos,htp,hou,hkeep,hL,hdef⟩:∃l mk w1,(Instr.enterLoop b.fn a.tmps ps assign body b.roundOf).run P m.w= .ok (l,mk) w1/\m.w.heap.size≤l/\l<w1.heap.size/\m.w.heap.size≤w1.heap.size/\w1.os=m.w.os/\w1.tape=m.w.tape/\w1.output=m.w.output/\
   (∀b,b<m.w.heap.size->w1.heap[b]?=m.w.heap[b]?)/\(∃dd,w1.heap[l]?=some (.loop { state:=.ready,pending:=none,fn:=b.fn,tmps:=a.tmps,params:=ps,assign,body,defers:=dd }))/\DefOk φ w1 (mk++a.defers):=by
  obtain⟨⟨ks,d1,d2,d3,d4⟩,d5,d6⟩:=h4
  rw[hro]
  cases hr:φ.r with
  | none=>
    refine⟨_,_,_,run_enterLoop_outer _ _ _ _ _,by simp,by simp,by simp;omega,rfl,rfl,rfl,fun b hb=>?_,⟨m.w.heap.size,?_⟩,⟨⟨m.w.heap.size::ks,?_,fun h=>by simp[hr]at h,?_,?_⟩,by simp;omega,fun l h=>by simp[hr]at h⟩⟩
    ·rw[RowKit.Below.heap_alloc _ _ _ (by simp;omega),RowKit.Below.heap_alloc _ _ _ hb]
    ·have:=World.alloc_heap_new (m.w.alloc (.deferred (some []))) (.loop { state:=.ready,pending:=none,fn:=b.fn,tmps:=a.tmps,params:=ps,assign,body,defers:=m.w.heap.size })
     simpa using this
    ·simp[d1,mark]
    ·refine List.nodup_cons.2 ⟨fun h=>?_,d3⟩
     have:=(Array.getElem?_eq_some_iff.1 (d4 _ h).2).1
     omega
    ·intro k hk
     rcases List.mem_cons.1 hk with rfl|hk
     ·refine⟨d5,?_⟩
      rw[RowKit.Below.heap_alloc _ _ _ (by simp)]
      exact World.alloc_heap_new _ _
     ·obtain⟨g1,g2⟩:=d4 k hk
      have hlt:=(Array.getElem?_eq_some_iff.1 g2).1
      exact⟨g1,by rw[RowKit.Below.heap_alloc _ _ _ (by simp;omega),RowKit.Below.heap_alloc _ _ _ hlt];exact g2⟩
  | some l0=>
    obtain⟨L0,hL0⟩:=d6 l0 hr
    refine⟨_,_,_,run_enterLoop_inner hL0 _ _ _ _ _,by simp,by simp,by simp,rfl,rfl,rfl,fun b hb=>RowKit.Below.heap_alloc _ _ _ hb,⟨L0.defers,World.alloc_heap_new _ _⟩,⟨⟨ks,by simpa using d1,d2,d3,fun k hk=>?_⟩,by simp;omega,fun l hl=>?_⟩⟩
    ·obtain⟨g1,g2⟩:=d4 k hk
     exact⟨g1,by rw[RowKit.Below.heap_alloc _ _ _ (Array.getElem?_eq_some_iff.1 g2).1];exact g2⟩
    ·obtain⟨L1,hL1⟩:=d6 l hl
     exact⟨L1,by rw[RowKit.Below.heap_alloc _ _ _ (Array.getElem?_eq_some_iff.1 hL1).1];exact hL1⟩
 obtain⟨dd,hL⟩:=hL
 obtain⟨s1,hm1⟩:=upd_loop_new (fn:=b.fn) (n:=n) (env:=env) (ps:=ps) (aas:=assign) (bo:=body) h2 hos htp hou hl hlt hsz hkeep hL ⟨rfl,rfl,rfl,rfl,rfl,rfl⟩ h3
 generalize hM:(⟨m.A,m.β++[⟨l,0,1⟩],m.H++[.loop b.fn .ready none n env ps assign body],w1⟩:M)=m1 at s1 hm1
 have hm1w:m1.w=w1:=by rw[<-hM]
 have hm1H:m1.H=m.H++[.loop b.fn .ready none n env ps assign body]:=by rw[<-hM]
 have hm1β:m1.β[m.H.length]?=some ⟨l,0,1⟩:=by
  rw[<-hM];show(m.β++_)[m.H.length]?=_
  rw[<-h2.len,List.getElem?_append_right (Nat.le_refl _)];simp
 have hgv:=h3.val hg
 generalize hq:a.eval g=z at hgv
 cases hgv with
 | fn _ _ arr hsz' hcap=>
   obtain⟨⟨fng,q1,q2,q3⟩,hcalls⟩:=hS
   have q2':¬fng.name= "runtime.NumGoroutine":=by simpa using q2
   have q3':¬fng.body=none:=by intro e;simp[e]at q3
   have henter:=stepR_rangeFunc (P:=P) (b:=b) (a:=a) (k:=k) (cs:=cs) (w:=m.w) (g:=g) (ps:=ps) (assign:=assign) (body:=body) (l:=l) (mark:=mk) (w₁:=w1) (w₁':=w1) (w₂:=w1)
    (d:={ target:=.fn (.func gf) arr,args:=#[.func (.yield l) #[] #[]] }) (f:=gf) (args:=#[.func (.yield l) #[] #[]]++arr) he
    (by simp[resolve,rangeCall,hq,Deferred.ofValue,eval_const]) (by simp[invoke,callFunc,q1,q2',q3'])
   have hargs:ARel m1 (.yl m.H.length::caps) (#[.func (.yield l) #[] #[]]++arr):=by
    refine⟨by simp[hsz'];omega,fun i s x hs hx=>?_⟩
    cases i with
    | zero=>
      rw[Array.getElem?_append_left (by simp)]at hx
      simp at hs hx
      subst hs;subst hx
      exact .yl _ ⟨l,0,1⟩ hm1β (by rw[hm1H];intro n';simp[tlOf])
    | succ i=>
      have hs':caps[i]?=some s:=by simpa using hs
      have hx':arr[i]?=some x:=by
       rw[Array.getElem?_append_right (by simp)]at hx
       simpa using hx
      exact s1.srel h2 (hcap i s x hs' hx')
   obtain⟨e,w3,fr,⟨m2,res,rfl,s2,hm2,hres,hK⟩,hsteps,hfnn,hleave⟩:=hcalls m1 _ hm1H hm1 hargs (b.atR { a with defers:=mk++a.defers } (.inRangeFunc l::k)::cs)
   rw[hm1w]at hsteps
   have st:Step m m2:=s1.trans s2
   have hdef2:DefOk φ m2.w (mk++a.defers):=by
    have:DefOk φ m1.w (mk++a.defers):=by rw[hm1w];exact hdef
    exact this.step hm1 s2
   have big:∀ {x y:Machine},Steps P x y->StepsIn (fun _=>True) P x y:=fun h=>steps_iff.1 h
   cases res with
   | panic v=>
     cases e with
     | panicked ch=>
       refine⟨.panic ch,{ a with defers:=mk++a.defers },m2.w,⟨m2,env,.panic v,rfl,st,hm2,h3.step h2 st,hdef2,hres,hK⟩,.inRangeFunc l::k,.head trivial henter (StepsIn.trans (big hsteps) (.one trivial ?_))⟩
       rw[<-Frame.raise_atR];exact step_leave_panicked hleave
     | _=>simp[ResRel]at hres
   | ret v=>
     cases e with
     | returned x=>
       obtain⟨fn2,st2,pe2,n2,env2,ps2,as2,bo2,hH2,hbusy,hK⟩:=hK
       obtain⟨p2,L2,hp2,_,_,hL2,f1,f2,f3,_⟩:=loop_get hm2 hH2
       have hp2':p2=⟨l,0,1⟩:=by
        obtain⟨pp,hpp,hi⟩:=s2.ids _ _ hm1β
        rw[hm1H]at hi
        have:=(hi.noTail (by intro n';simp[tlOf])).1
        rw[hp2]at hpp;cases hpp;exact this
       subst hp2'
       obtain⟨s3,hm3⟩:=loop_set (st':=.exhausted) (pe':=L2.pending) hm2 hH2 hp2 hL2
       have hend:=run_endLoop (P:=P) hL2 (by rw[f2];exact hbusy)
       obtain⟨s4,hm4⟩:=drop_ok hm3 (id:=m.H.length) (k:=.loop fn2 .exhausted L2.pending n2 env2 ps2 as2 bo2) (by
        show(m2.H.set m.H.length _)[m.H.length]?=_
        rw[List.getElem?_set_self (List.getElem?_eq_some_iff.1 hH2).1]) rfl
       have hset:(m2.H.set m.H.length (.loop fn2 .exhausted L2.pending n2 env2 ps2 as2 bo2)).set m.H.length .dead=m2.H.set m.H.length .dead:=by rw[List.set_set]
       have s5:=st.trans (s3.trans s4)
       have hd5:=(hdef2.step hm2 s3).step hm3 s4
       have back:StepsIn (fun _=>True) P (lone (b.atR a (.code (.rangeFunc g ps assign body)::k)) cs m.w) (lone (b.atR { a with defers:=mk++a.defers } ((L2.pending.map Item.code).toList++k)) cs (m2.w.putObj l (.loop { L2 with state:=.exhausted }))):=by
        refine .head trivial henter (StepsIn.trans (big hsteps) (.head trivial ?_ (.one trivial (stepR_endRangeFunc hend))))
        rw[<-finish_atR_inRangeFunc l x];exact step_leave_returned hleave
       obtain⟨w4,hw4⟩:∃w4,m2.w.putObj l (.loop { L2 with state:=.exhausted })=w4:=⟨_,rfl⟩
       rw[hw4,f3]at back
       have post:∀te,(∀e',ExRel ⟨m2.A,m2.β,(m2.H.set m.H.length (.loop fn2 .exhausted L2.pending n2 env2 ps2 as2 bo2)).set m.H.length .dead,m2.w.putObj l (.loop { L2 with state:=.exhausted })⟩ te e'->K te env (m2.H.set m.H.length .dead)->
         Post φ m n K e' { a with defers:=mk++a.defers } w4):=fun te e' hex hk=>⟨_,env,te,hw4,s5,hm4,h3.step h2 s5,hd5,hex,by rw[hset];exact hk⟩
       cases pe2 with
       | none=>exact⟨.normal,_,_,post .normal .normal trivial hK,back⟩
       | some c=>
         cases c with
         | ret=>
           exact⟨.ret,_,_,post .ret .ret trivial hK,fun hr=>⟨_,back.trans (.one trivial (stepR_ret hr))⟩,fun _=>⟨k,back⟩⟩
         | exit i=>
           exact⟨.exit i,_,_,post (.exit i) (.exit i) rfl hK,fun k' hk'=>back.trans (.one trivial (stepR_exit hk')),fun _ hk'=>⟨k,hk',back⟩⟩
         | _=>exact hK.elim
     | _=>simp[ResRel]at hres
theorem TO.yield{f x:Operand}{id:Nat}{arg:SV}{ts:Array TypeId}{R:Res->Heap->Prop}(hs:YSound P id arg H R)(hd:Nat.ble (d+1) n=true)(hf:env.val f=some (.yl id))(hx:env.val x=some arg)
  (k:∀v H',R (.ret v) H'->TO false P n all rest ((d,v)::env) H' K)(kp:∀v H',R (.panic v) H'->K (.panic v) env H'):
  TO false P n all (⟨some d,.call { callee:=.value f,args:=#[x],argTypes:=ts },ty,pos,aft,none⟩::rest) env H K:=by
 intro φ m a h1 h2 h3 h4
 have hfv:=h3.val hf
 have hxv:=h3.val hx
 generalize hq:a.eval f=z at hfv
 cases hfv with
 | yl _ p hp hn=>
   obtain⟨fn,tmps,aas,bo,hy,hR⟩:=hs m (a.eval x) φ.r p h1 h2 hxv hp
   have hrun:(execOp a.eval ⟨some d,.call { callee:=.value f,args:=#[x],argTypes:=ts },ty,pos,aft,none⟩).run P m.w= .ok (.round p.b fn tmps aas bo) m.w:=by
    simp[execOp,resolve,hq,Deferred.ofValue,invoke,hy]
   refine wpListIn_plain rfl fun K' hK=>?_
   unfold Oper.wpIn
   refine⟨fun _ _=>trivial,?_⟩
   rw[semAt_val hrun (by intro d e;cases e)]
   simp only[Oper.uponIn]
   refine⟨fun h=>by simp[Fence.wide]at h,hR.mono ?_⟩
   rintro e w' ⟨m',res,rfl,s,hm',hres,hR'⟩
   cases res with
   | ret v=>
     cases e with
     | returned y=>exact hK _ _ (TO.step' (m':=m') s (k v m'.H hR' φ m' _ rfl hm' ((h3.step h2 s).put d (Nat.le_of_ble_eq_true hd) hres) (by simpa [Act.put]using h4.step h2 s)))
     | _=>simp[ResRel]at hres
   | panic v=>
     cases e with
     | panicked ch=>exact⟨m',env,.panic v,rfl,s,hm',h3.step h2 s,h4.step h2 s,hres,kp v m'.H hR'⟩
     | _=>simp[ResRel]at hres
theorem TO.callA{cargs:List SV}{R:Res->Heap->Prop}{f:Operand}{fid:FuncId}{caps:List SV}{args:Array Operand}{ts:Array TypeId}{vs:List SV}(hs:Sound P fid cargs H R)(hd:Nat.ble (d+1) n=true)
  (hf:env.val f=some (.fn fid caps))(ha:env.vals args.toList=some vs)(hl:Les (vs++caps) cargs)
  (k:∀v H',R (.ret v) H'->TO false P n all rest ((d,v)::env) H' K)(kp:∀v H',R (.panic v) H'->K (.panic v) env H'):
  TO false P n all (⟨some d,.call { callee:=.value f,args:=args,argTypes:=ts },ty,pos,aft,none⟩::rest) env H K:=by
 intro φ m ac h1 h2 h3 h4
 obtain⟨arr,hq,har⟩:=ARel_of h3 hf ha
 have hcall:=hs.2 m _ h1 h2 (har.le hl)
 refine wpListIn_plain rfl fun K' hK=>?_
 unfold Oper.wpIn
 refine⟨fun _ _=>trivial,?_⟩
 rw[semAt_val (call_exec hq hs.1) (by intro d e;cases e)]
 simp only[Oper.uponIn]
 refine⟨fun h=>by simp[Fence.wide]at h,calls_fr (Calls.mono hcall ?_)⟩
 rintro e w' ⟨m',res,rfl,s,hm',hres,hR'⟩
 cases res with
 | ret v=>
   cases e with
   | returned y=>exact hK _ _ (TO.step' (m':=m') s (k v m'.H hR' φ m' _ rfl hm' ((h3.step h2 s).put d (Nat.le_of_ble_eq_true hd) hres) (by simpa [Act.put]using h4.step h2 s)))
   | _=>simp[ResRel]at hres
 | panic v=>
   cases e with
   | panicked ch=>exact⟨m',env,.panic v,rfl,s,hm',h3.step h2 s,h4.step h2 s,hres,kp v m'.H hR'⟩
   | _=>simp[ResRel]at hres
theorem TO.makeInterface{t:TypeId}{x:Operand}{v:SV}(hd:Nat.ble (d+1) n=true)(ht:P.concrete t=true)(hx:env.val x=some v)(k:TO q P n all rest ((d,.ifc t v)::env) H K):
  TO q P n all (⟨some d,.makeInterface t x,ty,pos,aft,none⟩::rest) env H K:=
 TO.op hd (fun m ac h1 h2 h3=>⟨_,fun w' hw'=>by simp[execOp,run_makeInterface w' t (ac.eval x) ht],.ifc t v _ (h3.val hx)⟩) k
theorem TO.panic{dd:Option Tmp}{x:Operand}{t:TypeId}{v:SV}(hx:env.val x=some (.ifc t v))(k:K (.panic (.ifc t v)) env H):
  TO false P n all (⟨dd,.panic x,ty,pos,aft,none⟩::rest) env H K:=by
 intro φ m a h1 h2 h3 h4
 have hxv:=h3.val hx
 generalize hq:a.eval x=z at hxv
 cases hxv with
 | ifc _ _ y hy=>
   refine wpListIn_plain rfl fun K' hK=>?_
   unfold Oper.wpIn
   refine⟨fun _ _=>trivial,?_⟩
   rw[semAt_halt rfl]
   have hrun:(execOp a.eval ⟨dd,.panic x,ty,pos,aft,none⟩).run P m.w= .halt (.panic (.iface t y)) m.w:=by
    simp[execOp,hq,run_panic_iface]
   rw[hrun]
   simp only[Oper.uponIn]
   exact⟨m,env,.panic (.ifc t v),rfl,.refl m,h2,h3,h4,⟨_,rfl,.ifc t v y hy⟩,h1 ▸ k⟩
end rules
mutual
theorem ren_under {N:Nat} {r:Nat->Nat} (hr:∀j,j<N->r j=j):∀(v:SV),v.under N=true->v.ren r=v
 | .t u,_=>rfl
 | .sl sz es i,h=>by simp[SV.ren,hr i (by simpa [SV.under,Nat.blt_eq]using h)]
 | .ms sz i off len,h=>by simp[SV.ren,hr i (by simpa [SV.under,Nat.blt_eq]using h)]
 | .cp cs off,_=>rfl
 | .ref i off,h=>by simp[SV.ren,hr i (by simpa [SV.under,Nat.blt_eq]using h)]
 | .tref e n i off,h=>by simp[SV.ren,hr i (by simpa [SV.under,Nat.blt_eq]using h)]
 | .rw i len,h=>by simp[SV.ren,hr i (by simpa [SV.under,Nat.blt_eq]using h)]
 | .mp i,h=>by simp[SV.ren,hr i (by simpa [SV.under,Nat.blt_eq]using h)]
 | .yl i,h=>by simp[SV.ren,hr i (by simpa [SV.under,Nat.blt_eq]using h)]
 | .ag cs,h=>by simp[SV.ren,rens_under hr cs (by simpa [SV.under]using h)]
 | .tup cs,h=>by simp[SV.ren,rens_under hr cs (by simpa [SV.under]using h)]
 | .fn f cs,h=>by simp[SV.ren,rens_under hr cs (by simpa [SV.under]using h)]
 | .bnd f cs,h=>by simp[SV.ren,rens_under hr cs (by simpa [SV.under]using h)]
 | .ifc ty x,h=>by simp[SV.ren,ren_under hr x (by simpa [SV.under]using h)]
 | .any,_=>rfl
theorem rens_under {N:Nat} {r:Nat->Nat} (hr:∀j,j<N->r j=j):∀(cs:List SV),unders N cs=true->rens r cs=cs
 | [],_=>rfl
 | c::cs,h=>by
   simp only[unders,Bool.and_eq_true]at h
   simp[rens,ren_under hr c h.1,rens_under hr cs h.2]
end
theorem Blk.ren_under{N:Nat}{r:Nat->Nat}(hr:∀j,j<N->r j=j)(b:Blk)(h:b.under N=true):b.ren r=b:=by
 have key:∀env:List (Nat×SV),(env.all fun x=>x.2.under N)=true->(env.map fun x=>(x.1,x.2.ren r))=env:=by
  intro env
  induction env with
  | nil=>intro _;rfl
  | cons x l ih=>
    intro h
    simp only[List.all_cons,Bool.and_eq_true]at h
    simp[Go.TL.ren_under hr x.2 h.1,ih h.2]
 cases b <;> simp[Blk.ren]
 ·exact rens_under hr _ h
 ·exact key _ h
theorem blks_ren{N:Nat}{r:Nat->Nat}(hr:∀j,j<N->r j=j):∀(H:Heap),blksUnder N H=true->H.map (Blk.ren r)=H
 | [],_=>rfl
 | b::H,h=>by
   simp only[blksUnder,Bool.and_eq_true]at h
   simp[Blk.ren_under hr b h.1,blks_ren hr H h.2]
theorem names_range{N M j:Nat}(h:j<N):names (List.range N) M j=j:=by
 simp[names,h]
theorem patch_range{α:Type}{G bs:List α}{N:Nat}(hb:bs.length=N)(hG:N≤G.length):patch G (List.range N) bs=bs++G.drop N:=by
 apply List.ext_getElem?
 intro i
 have hl:(List.range N).length≤bs.length:=by simp;omega
 have hlen:=patch_len (List.range N) G bs hl
 by_cases h1:i<N
 ·rw[patch_in (List.range N) G bs i i List.nodup_range (fun x hx=>by simp at hx;omega) hl (by simp[h1]),List.getElem?_append_left (by omega)]
 ·by_cases h2:i<G.length
  ·rw[patch_out (List.range N) G bs i h2 (by simp;omega),List.getElem?_append_right (by omega),List.getElem?_drop]
   congr 1;omega
  ·rw[List.getElem?_eq_none (by simp at hlen;omega),List.getElem?_eq_none (by simp;omega)]
theorem hands_range{H Hc:Heap}{N:Nat}(hN:N≤H.length)(hc:H.take N=Hc)(hb:blksUnder N Hc=true):Hands H (List.range N) Hc:=by
 have hl:Hc.length=N:=by rw[<-hc];simp;omega
 refine⟨List.nodup_range,fun x hx=>by simp at hx;omega,by simp[hl],fun j i b hj hbj=>?_,fun j b hbj=>?_⟩
 ·have hj':=(List.getElem?_eq_some_iff.1 hbj).1
  have:i=j:=by
   rw[List.getElem?_range (by omega)]at hj;cases hj;rfl
  subst this
  rw[Blk.ren_under (N:=N) (fun j hj=>names_range hj) b (blksUnder_get hb _ b hbj)]
  rw[<-hc,List.getElem?_take,if_pos (by omega)]at hbj
  exact hbj
 ·rw[hl];exact blksUnder_get hb j b hbj
section rules
variable {P:Program}{n:Nat}{env:Env}{H:Heap}{K:TK}{all:Array Oper}{rest:List Oper}{tab:Tab}{q:Bool}
variable {d:Nat}{ty:TypeId}{pos:String}{aft:Array Edge}
def Within(N:Nat)(R:Res->Heap->Prop):Prop:=
 (∀v H',R (.ret v) H'->v.under N=true/\H'.length=N/\blksUnder N H'=true)/\∀v H',R (.panic v) H'->v.under N=true/\H'.length=N/\blksUnder N H'=true
theorem TO.callT(N:Nat){Hc:Heap}{cargs:List SV}{R:Res->Heap->Prop}{f:Operand}{fid:FuncId}{caps:List SV}{args:Array Operand}{ts:Array TypeId}{vs:List SV}(hs:Sound P fid cargs Hc R)(hw:Within N R)(hd:Nat.ble (d+1) n=true)
  (hf:env.val f=some (.fn fid caps))(ha:env.vals args.toList=some vs)(hl:Les (vs++caps) cargs)(hu:unders N cargs=true)(hN:N≤H.length)(hc:H.take N=Hc)(hb:blksUnder N Hc=true)
  (k:∀v H',R (.ret v) H'->TO false P n all rest ((d,v)::env) (H'++H.drop N) K)(kp:∀v H',R (.panic v) H'->K (.panic v) env (H'++H.drop N)):
  TO false P n all (⟨some d,.call { callee:=.value f,args:=args,argTypes:=ts },ty,pos,aft,none⟩::rest) env H K:=by
 have hr:∀j,j<N->names (List.range N) H.length j=j:=fun j hj=>names_range hj
 have hlen:Hc.length=N:=by rw[<-hc];simp;omega
 refine TO.call (List.range N) hs hd hf ha (by rw[rens_under hr _ hu];exact hl) (by rw[hlen];exact hu) (hands_range hN hc hb) (fun v Hc' h=>?_) (fun v Hc' h=>?_)
 ·obtain⟨g1,g2,g3⟩:=hw.1 v Hc' h
  rw[ren_under hr v g1,blks_ren hr Hc' g3,patch_range g2 hN]
  exact k v Hc' h
 ·obtain⟨g1,g2,g3⟩:=hw.2 v Hc' h
  rw[ren_under hr v g1,blks_ren hr Hc' g3,patch_range g2 hN]
  exact kp v Hc' h
theorem TO.yieldT(N:Nat){Hc:Heap}{f x:Operand}{id:Nat}{arg:SV}{ts:Array TypeId}{R:Res->Heap->Prop}(hs:YSound P id arg Hc R)(hw:Within N R)(hd:Nat.ble (d+1) n=true)(hf:env.val f=some (.yl id))(hx:env.val x=some arg)
  (hu:arg.under N=true)(hid:id<N)(hN:N≤H.length)(hc:H.take N=Hc)(hb:blksUnder N Hc=true)
  (k:∀v H',R (.ret v) H'->TO false P n all rest ((d,v)::env) (H'++H.drop N) K)(kp:∀v H',R (.panic v) H'->K (.panic v) env (H'++H.drop N)):
  TO false P n all (⟨some d,.call { callee:=.value f,args:=#[x],argTypes:=ts },ty,pos,aft,none⟩::rest) env H K:=by
 have hr:∀j,j<N->names (List.range N) H.length j=j:=fun j hj=>names_range hj
 have hlen:Hc.length=N:=by rw[<-hc];simp;omega
 have hh:=hands_range hN hc hb
 refine TO.yield (R:=fun r H'=>∃H0,R r H0/\H'=H0++H.drop N) (arg:=arg) ?_ hd hf hx ?_ ?_
 ·intro m y r p h1 h2 h3 hp
  subst h1
  have lies:=lies_cut h2 hh
  have hp':(cutM m (List.range N) Hc).β[id]?=some p:=by
   simp[cutM,hid,hp]
  obtain⟨fn,tmps,aas,bo,g1,g2⟩:=hs (cutM m (List.range N) Hc) y r p rfl (lies.hrel h2) (lies.srel_down (by rw[ren_under hr arg hu];exact h3) (by show arg.under Hc.length=true;rw[hlen];exact hu)) hp'
  refine⟨fn,tmps,aas,bo,g1,g2.mono ?_⟩
  rintro e w' ⟨mc',res,rfl,s,hmc,hres,hR⟩
  obtain⟨st,hbk⟩:=back_ok h2 hh s hmc
  have fact:∀v,v.under N=true->mc'.H.length=N->blksUnder N mc'.H=true->(∀z,SRel mc' v z->SRel (back m mc' (List.range N)) v z)/\(back m mc' (List.range N)).H=mc'.H++m.H.drop N:=by
   intro v q1 q2 q3
   refine⟨fun z hz=>?_,?_⟩
   ·have:=back_srel h2 hh hmc (by simp;omega) hz
    rw[ren_under hr v q1]at this
    exact this
   ·show patch m.H (List.range N) (mc'.H.map (Blk.ren (names (List.range N) m.H.length)))=_
    rw[blks_ren hr mc'.H q3,patch_range q2 hN]
  cases res with
  | ret v=>
    cases e with
    | returned z=>
      obtain⟨q1,q2,q3⟩:=hw.1 v _ hR
      obtain⟨f1,f2⟩:=fact v q1 q2 q3
      exact⟨back m mc' (List.range N),.ret v,rfl,st,hbk,f1 z hres,mc'.H,hR,f2⟩
    | _=>simp[ResRel]at hres
  | panic v=>
    cases e with
    | panicked ch=>
      obtain⟨q1,q2,q3⟩:=hw.2 v _ hR
      obtain⟨f1,f2⟩:=fact v q1 q2 q3
      obtain⟨z,hz1,hz2⟩:=hres
      exact⟨back m mc' (List.range N),.panic v,rfl,st,hbk,⟨z,hz1,f1 z hz2⟩,mc'.H,hR,f2⟩
    | _=>simp[ResRel]at hres
 ·rintro v H' ⟨H0,h,rfl⟩;exact k v H0 h
 ·rintro v H' ⟨H0,h,rfl⟩;exact kp v H0 h
end rules
def ModeRel(m:M):Option SV->FrameMode->Prop
 | none,u=>u= .returning
 | some v,u=>∃x,u= .panicking [{ v:=x,recovered:=false }]/\SRel m v x
def DSound(P:Program)(f:FuncId)(args:List SV)(H:Heap)(pv:Option SV)(R:Heap->Prop):Prop:=
 Callable P f/\∀(m:M) (vs:Array Value) (u:FrameMode),m.H=H->HRel m->ARel m args vs->ModeRel m pv u->
  CallsDIn (Fr none) 0 P f vs u m.w fun e u' w'=>(∃y,e= .returned y)/\settle u'= .returning/\∃m':M,m'.w=w'/\Step m m'/\HRel m'/\R m'.H
def KDone(N:Nat)(R:Heap->Prop):TK
 | .normal,_,H=>N≤H.length/\blksUnder N (H.take N)=true/\R (H.take N)
 | .ret,_,H=>N≤H.length/\blksUnder N (H.take N)=true/\R (H.take N)
 | _,_,_=>False
theorem steps_marks{P:Program}{cs:List Frame}{s0:Nat}{w0:World}:∀(ks:List Nat) (w:World) (fr:Frame),Shut s0 w0 w->fr.mode≠ .run->fr.defers=ks.map mark->ks.Nodup->(∀k∈ks,s0≤k/\w.heap[k]?=some (.deferred (some [])))->
  ∃w',Shut s0 w0 w'/\StepsIn (fun _=>True) P (lone fr cs w) (lone { fr with defers:=[] } cs w')
 | [],w,fr,hs,hm,hd,_,_=>⟨w,hs,by
     have:({ fr with defers:=[] }:Frame)=fr:=by cases fr;simp at hd;simp[hd]
     rw[this];exact .refl _⟩
 | k::ks,w,fr,hs,hm,hd,hn,hk=>by
   obtain⟨hk1,hk2⟩:=hk k List.mem_cons_self
   have hn':=List.nodup_cons.1 hn
   have h1:=step_collected (P:=P) (cs:=cs) (fr:=fr) (r:=k) hm hd rfl (run_takeDeferred hk2)
   obtain⟨w',g1,g2⟩:=steps_marks (P:=P) (cs:=cs) ks _ { fr with defers:=[]++ks.map mark } (hs.put hk1 hk2 none) hm rfl hn'.2 (fun k' hk'=>by
    obtain⟨q1,q2⟩:=hk k' (List.mem_cons_of_mem _ hk')
    exact⟨q1,by rw[World.putObj_heap_other (by intro e;subst e;exact hn'.1 hk')];exact q2⟩)
   exact⟨w',g1,.head trivial h1 g2⟩
theorem DSound.of{P:Program}{tab:Tab}{f:FuncId}{fn:Func}{c':Code}{args:List SV}{H:Heap}{pv:Option SV}{R:Heap->Prop}{id d:Nat}{ty:TypeId}{pos:String}{aft:Array Edge}{rest:List Oper}
  (hf:P.funcs[f]?=some fn)(hn:(fn.name == "runtime.NumGoroutine")=false)
  (hb:fn.body=some (.seq (.region id (⟨some d,.call { callee:=.builtin .recover,args:=#[],argTypes:=#[] },ty,pos,aft,none⟩::rest).toArray false) c'))
  (hres:fn.results= #[])(ha:Nat.ble args.length fn.ntmps=true)(hd:Nat.ble (d+1) fn.ntmps=true)
  (h:TO false P fn.ntmps (⟨some d,.call { callee:=.builtin .recover,args:=#[],argTypes:=#[] },ty,pos,aft,none⟩::rest).toArray rest ((d,pv.getD (.t (.v .nilIface)))::argEnv 0 args) H (Then P fn.ntmps c' (KDone H.length R))):DSound P f args H pv R:=by
 refine⟨⟨fn,hf,hn,by rw[hb];rfl⟩,fun m vs u h1 h2 h3 hu=>?_⟩
 subst h1
 have hal:=Nat.le_of_ble_eq_true ha
 have hE:ERel m fn.ntmps (argEnv 0 args) (vs++Array.replicate (fn.ntmps-vs.size) undef):=by
  refine⟨by simp[h3.1];omega,fun i v hv=>?_⟩
  obtain⟨g1,g2⟩:=argEnv_look _ _ _ _ hv
  have hi:=(List.getElem?_eq_some_iff.1 g2).1
  have hvi:vs[i]?=some (vs[i]'(by rw[h3.1];omega)):=Array.getElem?_eq_getElem _
  exact⟨_,by rw[Array.getElem?_append_left (by rw[h3.1];omega)];exact hvi,h3.2 i v _ (by simpa using g2) hvi⟩
 refine⟨trivial,fun c₀ cs hc₀ hroom=>?_⟩
 let b:Frame:={ (default:Frame)with fn:=f,kind:=.deferred,roundOf:=none }
 let a0:Act:={ tmps:=vs++Array.replicate (fn.ntmps-vs.size) undef,defers:=[] }
 have henter:Frame.enter P f vs .deferred=b.atR a0 [.code (.seq (.region id (⟨some d,.call { callee:=.builtin .recover,args:=#[],argTypes:=#[] },ty,pos,aft,none⟩::rest).toArray false) c')]:=by
  simp[Frame.enter,Frame.atR,hf,hb,b,a0]
 obtain⟨x,u',hrec,hx,hset⟩:∃x u',(∀cs',((recoverD (c₀::cs')=some (x,{ c₀ with mode:=u' }::cs'))\/(recoverD (c₀::cs')=none/\x= .nilIface/\u'=c₀.mode)))/\SRel m (pv.getD (.t (.v .nilIface))) x/\settle u'= .returning:=by
  cases pv with
  | none=>
    simp only[ModeRel]at hu
    refine⟨.nilIface,c₀.mode,fun cs'=>.inr ⟨by simp[recoverD,hc₀,hu],rfl,rfl⟩,.t _ _ (.v _),by rw[hc₀,hu];rfl⟩
  | some v=>
    obtain⟨x,hux,hxx⟩:=hu
    exact⟨x,.panicking [{ v:=x,recovered:=true }],fun cs'=>.inl (by simp[recoverD,hc₀,hux]),hxx,by simp[settle]⟩
 have hD:DefOk ⟨none,m.w.heap.size,[]⟩ m.w ([]:List Deferred):=⟨⟨[],rfl,fun _=>rfl,List.nodup_nil,by simp⟩,Nat.le_refl _,fun l hl=>by cases hl⟩
 have hto:=h ⟨none,m.w.heap.size,[]⟩ m (a0.put (some d) x) rfl h2 (ERel.put (a:=a0) d hE (Nat.le_of_ble_eq_true hd) hx) hD
 generalize hall:(⟨some d,.call { callee:=.builtin .recover,args:=#[],argTypes:=#[] },ty,pos,aft,none⟩::rest:List Oper).toArray=all at*
 have h0:all[0]?=some ⟨some d,.call { callee:=.builtin .recover,args:=#[],argTypes:=#[] },ty,pos,aft,none⟩:=by rw[<-hall];simp
 have hsz:all.size=rest.length+1:=by rw[<-hall];simp
 have hops:wpOpsIn (Fr none) 0 P all (Post ⟨none,m.w.heap.size,[]⟩ m fn.ntmps (Then P fn.ntmps c' (KDone m.H.length R))) (List.range' 1 rest.length) (a0.put (some d) x) m.w:=by
  rw[wpOpsIn_eq_wpListIn rest 1 (fun j=>by rw[<-hall];simp[Nat.add_comm 1 j])]
  exact hto
 have wide:∀ {x y:Machine},StepsIn (fun _=>True) P x y->StepsIn (Machine.fenced P (Fr none)) P x y:=fun h=>stepsIn_wide.2 (steps_iff.2 h)
 obtain⟨e1,a1,w1,hq1,harr1⟩:=wp_opsIn (F:=Fr none) (n:=0) _ _ _ hops b [.code c'] ({ c₀ with mode:=u' }::cs) rfl trivial (room_wide _)
 have harr1':=arrives_mono (I':=fun _=>True) (fun _ _=>trivial) harr1
 have hstep:step P (lone (b.atR a0 (.inRegion all (0::List.range' 1 rest.length)::[.code c'])) (c₀::cs) m.w)= .next (lone (b.atR (a0.put (some d) x) (.inRegion all (List.range' 1 rest.length)::[.code c'])) ({ c₀ with mode:=u' }::cs) m.w):=by
  have hg:=stepGR_op (P:=P) (b:=b) (a:=a0) (k:=[.code c']) (cs:=c₀::cs) (w:=m.w) (i:=0) (rest:=List.range' 1 rest.length) h0 (by simp[Region.wanted])
  have hfin:∀v,(b.atR a0 (.inRegion all (0::List.range' 1 rest.length)::[.code c'])).finish v=b.atR (a0.put (some d) v) (.inRegion all (List.range' 1 rest.length)::[.code c']):=by
   intro v;rw[Frame.finish_atR,h0];rfl
  have hr:(execOp a0.eval ⟨some d,.call { callee:=.builtin .recover,args:=#[],argTypes:=#[] },ty,pos,aft,none⟩).run P m.w= .ok .recover m.w:=by
   simp[execOp,resolve,invoke,builtin]
  have hk:(b.atR a0 (.inRegion all (0::List.range' 1 rest.length)::[.code c'])).kind= .deferred:=rfl
  have htr:=tryRecover_deferred hk (c₀::cs)
  refine step_lone_go ?_
  rw[hg,<-hfin]
  simp only[Frame.atR,b]at htr⊢
  rcases hrec cs with hr1|⟨hr1,hr2,hr3⟩
  ·simp[stepG.apply,Oper.semAt_none,hr,htr,hr1]
  ·have hc:({ c₀ with mode:=u' }:Frame)=c₀:=by rw[hr3]
   rw[hc]
   simp only[stepG.apply,Oper.semAt_none,hr,htr,hr1,hr2,Sem.runT_eq,GStep.bare_after]
   rfl
 have s0:StepsIn (fun _=>True) P (lone (Frame.enter P f vs .deferred) (c₀::cs) m.w) (lone (b.atR (a0.put (some d) x) (.inRegion all (List.range' 1 rest.length)::[.code c'])) ({ c₀ with mode:=u' }::cs) m.w):=by
  rw[henter]
  refine .head trivial stepR_seq (.head trivial stepR_region ?_)
  rw[hsz,List.range_eq_range',List.range'_succ]
  exact .one trivial hstep
 have fin:∀(m2:M) (a2:Act),Step m m2->HRel m2->DefOk ⟨none,m.w.heap.size,[]⟩ m2.w a2.defers->m.H.length≤m2.H.length/\blksUnder m.H.length (m2.H.take m.H.length)=true/\R (m2.H.take m.H.length)->∀todo,
   StepsIn (fun _=>True) P (lone (Frame.enter P f vs .deferred) (c₀::cs) m.w) (lone { b.atR a2 todo with mode:=.returning } ({ c₀ with mode:=u' }::cs) m2.w)->
   ∃e u'' w' fr,((∃y,e=Ending.returned y)/\settle u''= .returning/\∃m':M,m'.w=w'/\Step m m'/\HRel m'/\R m'.H)/\
    ComesIn (Machine.fenced P (Fr none)) P (lone (Frame.enter P f vs .deferred) (c₀::cs) m.w) (lone fr ({ c₀ with mode:=u'' }::cs) w') e/\fr.kind= .deferred/\fr.fn=f/\fr.going P w' e:=by
  intro m2 a2 st hm2 hdef hR todo hs
  obtain⟨⟨ks,hd1,_,hd2,hd3⟩,_,_⟩:=hdef
  simp only[List.append_nil]at hd1
  obtain⟨w',hsh,hs2⟩:=steps_marks (P:=P) (cs:={ c₀ with mode:=u' }::cs) (s0:=m.w.heap.size) (w0:=m2.w) ks m2.w { b.atR a2 todo with mode:=.returning } (.refl _ _) (by simp) hd1 hd2 hd3
  obtain⟨s2,hm3⟩:=hsh.ok hm2 st
  obtain⟨c1,c2,_⟩:=cut_ok hm3 s2 (k:=m.H.length) hR.1 (by rw[h2.len];exact Nat.le_refl _) hR.2.1
  refine⟨.returned (.tuple #[]),u',w',_,⟨⟨_,rfl⟩,hset,_,rfl,c1,c2,hR.2.2⟩,wide (hs.trans hs2),rfl,rfl,rfl,rfl,fn,hf,?_⟩
  simp[results,hres]
 obtain⟨m1,env1,te1,rfl,st1,hm1,he1,hd1,hx1,hK1⟩:=hq1
 cases te1 with
 | normal=>
   cases e1 <;> simp[ExRel]at hx1
   have hK1':TR P fn.ntmps c' env1 m1.H (KDone m.H.length R):=hK1
   obtain⟨e2,a2,w2,⟨m2,env2,te2,rfl,st2,hm2,he2,hd2,hx2,hK2⟩,harr2⟩:=hK1' ⟨none,m.w.heap.size,[]⟩ m1 a1 rfl hm1 he1 hd1 b [] ({ c₀ with mode:=u' }::cs) rfl (by simp[b,hf])
   have s1:StepsIn (fun _=>True) P (lone (Frame.enter P f vs .deferred) (c₀::cs) m.w) (lone (b.atR a1 [.code c']) ({ c₀ with mode:=u' }::cs) m1.w):=s0.trans harr1'
   cases te2 with
   | normal=>
     cases e2 <;> simp[ExRel]at hx2
     exact fin m2 a2 (st1.trans st2) hm2 hd2 hK2 [] (s1.trans (StepsIn.trans harr2 (.one trivial (stepR_end rfl))))
   | ret=>
     cases e2 <;> simp[ExRel]at hx2
     obtain⟨todo,hs⟩:=harr2.1 rfl
     exact fin m2 a2 (st1.trans st2) hm2 hd2 hK2 todo (s1.trans hs)
   | exit i=>exact hK2.elim
   | panic v=>exact hK2.elim
 | ret=>
   cases e1 <;> simp[ExRel]at hx1
   obtain⟨todo,hs⟩:=harr1'.1 rfl
   exact fin m1 a1 st1 hm1 hd1 hK1 todo (s0.trans hs)
 | exit i=>exact hK1.elim
 | panic v=>exact hK1.elim
end Go.TL
