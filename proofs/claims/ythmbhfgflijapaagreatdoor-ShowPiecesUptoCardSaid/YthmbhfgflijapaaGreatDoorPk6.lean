import Derived.RecoverIn
import Derived.Maps.Keyed
import Derived.Test.YthmbhfgflijapaaGreatDoorPk5
set_option linter.all false
namespace Go.TL
open Go
mutual
theorem zbP {N:Nat} {r:Nat->Nat} (hr:∀j,j<N->r j=j):∀(v:SV),v.under N=true->v.ren r=v
 | .t u,_=>rfl
 | .sl sz es i,h=>by simp[SV.ren,hr i (by simpa [SV.under,qbq]using h)]
 | .ms sz i off len,h=>by simp[SV.ren,hr i (by simpa [SV.under,qbq]using h)]
 | .cp cs off,_=>rfl
 | .ref i off,h=>by simp[SV.ren,hr i (by simpa [SV.under,qbq]using h)]
 | .tref e n i off,h=>by simp[SV.ren,hr i (by simpa [SV.under,qbq]using h)]
 | .rw i len,h=>by simp[SV.ren,hr i (by simpa [SV.under,qbq]using h)]
 | .mp i,h=>by simp[SV.ren,hr i (by simpa [SV.under,qbq]using h)]
 | .yl i,h=>by simp[SV.ren,hr i (by simpa [SV.under,qbq]using h)]
 | .ag cs,h=>by simp[SV.ren,zbp hr cs (by simpa [SV.under]using h)]
 | .tup cs,h=>by simp[SV.ren,zbp hr cs (by simpa [SV.under]using h)]
 | .fn f cs,h=>by simp[SV.ren,zbp hr cs (by simpa [SV.under]using h)]
 | .bnd f cs,h=>by simp[SV.ren,zbp hr cs (by simpa [SV.under]using h)]
 | .ifc ty x,h=>by simp[SV.ren,zbP hr x (by simpa [SV.under]using h)]
 | .any,_=>rfl
theorem zbp {N:Nat} {r:Nat->Nat} (hr:∀j,j<N->r j=j):∀(cs:List SV),unders N cs=true->rens r cs=cs
 | [],_=>rfl
 | c::cs,h=>by
   simp only[unders,qau]at h
   simp[rens,zbP hr c h.1,zbp hr cs h.2]
end
theorem Blk.zbP{N:Nat}{r:Nat->Nat}(hr:∀j,j<N->r j=j)(b:Blk)(h:b.under N=true):b.ren r=b:=by
 have key:∀env:List (Nat×SV),(env.all fun x=>x.2.under N)=true->(env.map fun x=>(x.1,x.2.ren r))=env:=by
  intro env
  induction env with
  | nil=>intro _;rfl
  | cons x l ih=>
    intro h
    simp only[qbF,qau]at h
    simp[Go.TL.zbP hr x.2 h.1,ih h.2]
 cases b <;> simp[Blk.ren]
 ·exact zbp hr _ h
 ·exact key _ h
theorem zgJ{N:Nat}{r:Nat->Nat}(hr:∀j,j<N->r j=j):∀(H:Heap),zaa N H=true->H.map (Blk.ren r)=H
 | [],_=>rfl
 | b::H,h=>by
   simp only[zaa,qau]at h
   simp[Blk.zbP hr b h.1,zgJ hr H h.2]
theorem ze5{N M j:Nat}(h:j<N):names (List.range N) M j=j:=by
 simp[names,h]
theorem ze8{α:Type}{G bs:List α}{N:Nat}(hb:bs.length=N)(hG:N≤G.length):patch G (List.range N) bs=bs++G.drop N:=by
 apply List.ext_getElem?
 intro i
 have hl:(List.range N).length≤bs.length:=by simp;omega
 have hlen:=zfE (List.range N) G bs hl
 by_cases h1:i<N
 ·rw[zgT (List.range N) G bs i i List.nodup_range (fun x hx=>by simp at hx;omega) hl (by simp[h1]),qat (by omega)]
 ·by_cases h2:i<G.length
  ·rw[zc2 (List.range N) G bs i h2 (by simp;omega),qaA (by omega),qa6]
   congr 1;omega
  ·rw[qa7 (by simp at hlen;omega),qa7 (by simp;omega)]
theorem ze1{H Hc:Heap}{N:Nat}(hN:N≤H.length)(hc:H.take N=Hc)(hb:zaa N Hc=true):Hands H (List.range N) Hc:=by
 have hl:Hc.length=N:=by rw[<-hc];simp;omega
 refine⟨List.nodup_range,fun x hx=>by simp at hx;omega,by simp[hl],fun j i b hj hbj=>?_,fun j b hbj=>?_⟩
 ·have hj':=(qaa.1 hbj).1
  have:i=j:=by
   rw[List.getElem?_range (by omega)]at hj;cases hj;rfl
  subst this
  rw[Blk.zbP (N:=N) (fun j hj=>ze5 hj) b (zcP hb _ b hbj)]
  rw[<-hc,qaS,if_pos (by omega)]at hbj
  exact hbj
 ·rw[hl];exact zcP hb j b hbj
section rules
variable {P:Program}{n:Nat}{env:Env}{H:Heap}{K:TK}{all:Array Oper}{rest:List Oper}{tab:Tab}{q:Bool}
variable {d:Nat}{ty:TypeId}{pos:String}{aft:Array Edge}
def Within(N:Nat)(R:Res->Heap->Prop):Prop:=
 (∀v H',R (.ret v) H'->v.under N=true/\H'.length=N/\zaa N H'=true)/\∀v H',R (.panic v) H'->v.under N=true/\H'.length=N/\zaa N H'=true
theorem TO.ztG(N:Nat){Hc:Heap}{cargs:List SV}{R:Res->Heap->Prop}{f:Operand}{fid:FuncId}{caps:List SV}{args:Array Operand}{ts:Array TypeId}{vs:List SV}(hs:Sound P fid cargs Hc R)(hw:Within N R)(hd:Nat.ble (d+1) n=true)
  (hf:env.val f=some (.fn fid caps))(ha:env.vals args.toList=some vs)(hl:Les (vs++caps) cargs)(hu:unders N cargs=true)(hN:N≤H.length)(hc:H.take N=Hc)(hb:zaa N Hc=true)
  (k:∀v H',R (.ret v) H'->TO false P n all rest ((d,v)::env) (H'++H.drop N) K)(kp:∀v H',R (.panic v) H'->K (.panic v) env (H'++H.drop N)):
  TO false P n all (⟨some d,.call { callee:=.value f,args:=args,argTypes:=ts },ty,pos,aft,none⟩::rest) env H K:=by
 have hr:∀j,j<N->names (List.range N) H.length j=j:=fun j hj=>ze5 hj
 have hlen:Hc.length=N:=by rw[<-hc];simp;omega
 refine TO.call (List.range N) hs hd hf ha (by rw[zbp hr _ hu];exact hl) (by rw[hlen];exact hu) (ze1 hN hc hb) (fun v Hc' h=>?_) (fun v Hc' h=>?_)
 ·obtain⟨g1,g2,g3⟩:=hw.1 v Hc' h
  rw[zbP hr v g1,zgJ hr Hc' g3,ze8 g2 hN]
  exact k v Hc' h
 ·obtain⟨g1,g2,g3⟩:=hw.2 v Hc' h
  rw[zbP hr v g1,zgJ hr Hc' g3,ze8 g2 hN]
  exact kp v Hc' h
theorem TO.zv3(N:Nat){Hc:Heap}{f x:Operand}{id:Nat}{arg:SV}{ts:Array TypeId}{R:Res->Heap->Prop}(hs:zg3 P id arg Hc R)(hw:Within N R)(hd:Nat.ble (d+1) n=true)(hf:env.val f=some (.yl id))(hx:env.val x=some arg)
  (hu:arg.under N=true)(hid:id<N)(hN:N≤H.length)(hc:H.take N=Hc)(hb:zaa N Hc=true)
  (k:∀v H',R (.ret v) H'->TO false P n all rest ((d,v)::env) (H'++H.drop N) K)(kp:∀v H',R (.panic v) H'->K (.panic v) env (H'++H.drop N)):
  TO false P n all (⟨some d,.call { callee:=.value f,args:=#[x],argTypes:=ts },ty,pos,aft,none⟩::rest) env H K:=by
 have hr:∀j,j<N->names (List.range N) H.length j=j:=fun j hj=>ze5 hj
 have hlen:Hc.length=N:=by rw[<-hc];simp;omega
 have hh:=ze1 hN hc hb
 refine TO.yield (R:=fun r H'=>∃H0,R r H0/\H'=H0++H.drop N) (arg:=arg) ?_ hd hf hx ?_ ?_
 ·intro m y r p h1 h2 h3 hp
  subst h1
  have lies:=zjt h2 hh
  have hp':(cutM m (List.range N) Hc).β[id]?=some p:=by
   simp[cutM,hid,hp]
  obtain⟨fn,tmps,aas,bo,g1,g2⟩:=hs (cutM m (List.range N) Hc) y r p rfl (lies.hrel h2) (lies.zeq (by rw[zbP hr arg hu];exact h3) (by show arg.under Hc.length=true;rw[hlen];exact hu)) hp'
  refine⟨fn,tmps,aas,bo,g1,g2.mono ?_⟩
  rintro e w' ⟨mc',res,rfl,s,hmc,hres,hR⟩
  obtain⟨st,hbk⟩:=zo6 h2 hh s hmc
  have fact:∀v,v.under N=true->mc'.H.length=N->zaa N mc'.H=true->(∀z,SRel mc' v z->SRel (back m mc' (List.range N)) v z)/\(back m mc' (List.range N)).H=mc'.H++m.H.drop N:=by
   intro v q1 q2 q3
   refine⟨fun z hz=>?_,?_⟩
   ·have:=zeb h2 hh hmc (by simp;omega) hz
    rw[zbP hr v q1]at this
    exact this
   ·show patch m.H (List.range N) (mc'.H.map (Blk.ren (names (List.range N) m.H.length)))=_
    rw[zgJ hr mc'.H q3,ze8 q2 hN]
  cases res with
  | ret v=>
    cases e with
    | returned z=>
      obtain⟨q1,q2,q3⟩:=hw.1 v _ hR
      obtain⟨f1,f2⟩:=fact v q1 q2 q3
      exact⟨back m mc' (List.range N),.ret v,rfl,st,hbk,f1 z hres,mc'.H,hR,f2⟩
    | _=>simp[zbX]at hres
  | panic v=>
    cases e with
    | panicked ch=>
      obtain⟨q1,q2,q3⟩:=hw.2 v _ hR
      obtain⟨f1,f2⟩:=fact v q1 q2 q3
      obtain⟨z,hz1,hz2⟩:=hres
      exact⟨back m mc' (List.range N),.panic v,rfl,st,hbk,⟨z,hz1,f1 z hz2⟩,mc'.H,hR,f2⟩
    | _=>simp[zbX]at hres
 ·rintro v H' ⟨H0,h,rfl⟩;exact k v H0 h
 ·rintro v H' ⟨H0,h,rfl⟩;exact kp v H0 h
end rules
def zi7(m:M):Option SV->FrameMode->Prop
 | none,u=>u= .returning
 | some v,u=>∃x,u= .panicking [{ v:=x,recovered:=false }]/\SRel m v x
def zcj(P:Program)(f:FuncId)(args:List SV)(H:Heap)(pv:Option SV)(R:Heap->Prop):Prop:=
 Callable P f/\∀(m:M) (vs:Array Value) (u:FrameMode),m.H=H->HRel m->ARel m args vs->zi7 m pv u->
  CallsDIn (Fr none) 0 P f vs u m.w fun e u' w'=>(∃y,e= .returned y)/\settle u'= .returning/\∃m':M,m'.w=w'/\Step m m'/\HRel m'/\R m'.H
def ztr(N:Nat)(R:Heap->Prop):TK
 | .normal,_,H=>N≤H.length/\zaa N (H.take N)=true/\R (H.take N)
 | .ret,_,H=>N≤H.length/\zaa N (H.take N)=true/\R (H.take N)
 | _,_,_=>False
theorem zh1{P:Program}{cs:List Frame}{s0:Nat}{w0:World}:∀(ks:List Nat) (w:World) (fr:Frame),Shut s0 w0 w->fr.mode≠ .run->fr.defers=ks.map mark->ks.Nodup->(∀k∈ks,s0≤k/\w.heap[k]?=some (.deferred (some [])))->
  ∃w',Shut s0 w0 w'/\StepsIn (fun _=>True) P (lone fr cs w) (lone { fr with defers:=[] } cs w')
 | [],w,fr,hs,hm,hd,_,_=>⟨w,hs,by
     have:({ fr with defers:=[] }:Frame)=fr:=by cases fr;simp at hd;simp[hd]
     rw[this];exact .refl _⟩
 | k::ks,w,fr,hs,hm,hd,hn,hk=>by
   obtain⟨hk1,hk2⟩:=hk k qak
   have hn':=qbI.1 hn
   have h1:=step_collected (P:=P) (cs:=cs) (fr:=fr) (r:=k) hm hd rfl (run_takeDeferred hk2)
   obtain⟨w',g1,g2⟩:=zh1 (P:=P) (cs:=cs) ks _ { fr with defers:=[]++ks.map mark } (hs.put hk1 hk2 none) hm rfl hn'.2 (fun k' hk'=>by
    obtain⟨q1,q2⟩:=hk k' (qan _ hk')
    exact⟨q1,by rw[World.putObj_heap_other (by intro e;subst e;exact hn'.1 hk')];exact q2⟩)
   exact⟨w',g1,.head trivial h1 g2⟩
theorem zcj.of{P:Program}{tab:Tab}{f:FuncId}{fn:Func}{c':Code}{args:List SV}{H:Heap}{pv:Option SV}{R:Heap->Prop}{id d:Nat}{ty:TypeId}{pos:String}{aft:Array Edge}{rest:List Oper}
  (hf:P.funcs[f]?=some fn)(hn:(fn.name == "runtime.NumGoroutine")=false)
  (hb:fn.body=some (.seq (.region id (⟨some d,.call { callee:=.builtin .recover,args:=#[],argTypes:=#[] },ty,pos,aft,none⟩::rest).toArray false) c'))
  (hres:fn.results= #[])(ha:Nat.ble args.length fn.ntmps=true)(hd:Nat.ble (d+1) fn.ntmps=true)
  (h:TO false P fn.ntmps (⟨some d,.call { callee:=.builtin .recover,args:=#[],argTypes:=#[] },ty,pos,aft,none⟩::rest).toArray rest ((d,pv.getD (.t (.v .nilIface)))::zeN 0 args) H (Then P fn.ntmps c' (ztr H.length R))):zcj P f args H pv R:=by
 refine⟨⟨fn,hf,hn,by rw[hb];rfl⟩,fun m vs u h1 h2 h3 hu=>?_⟩
 subst h1
 have hal:=qag ha
 have hE:ERel m fn.ntmps (zeN 0 args) (vs++Array.replicate (fn.ntmps-vs.size) undef):=by
  refine⟨by simp[h3.1];omega,fun i v hv=>?_⟩
  exact zwy
 refine⟨trivial,fun c₀ cs hc₀ hroom=>?_⟩
 let b:Frame:={ (default:Frame)with fn:=f,kind:=.deferred,roundOf:=none }
 let a0:Act:={ tmps:=vs++Array.replicate (fn.ntmps-vs.size) undef,defers:=[] }
 have henter:Frame.enter P f vs .deferred=b.atR a0 [.code (.seq (.region id (⟨some d,.call { callee:=.builtin .recover,args:=#[],argTypes:=#[] },ty,pos,aft,none⟩::rest).toArray false) c')]:=by
  simp[Frame.enter,Frame.atR,hf,hb,b,a0]
 obtain⟨x,u',hrec,hx,hset⟩:∃x u',(∀cs',((recoverD (c₀::cs')=some (x,{ c₀ with mode:=u' }::cs'))\/(recoverD (c₀::cs')=none/\x= .nilIface/\u'=c₀.mode)))/\SRel m (pv.getD (.t (.v .nilIface))) x/\settle u'= .returning:=by
  cases pv with
  | none=>
    simp only[zi7]at hu
    refine⟨.nilIface,c₀.mode,fun cs'=>.inr ⟨by simp[recoverD,hc₀,hu],rfl,rfl⟩,.t _ _ (.v _),by rw[hc₀,hu];rfl⟩
  | some v=>
    obtain⟨x,hux,hxx⟩:=hu
    exact⟨x,.panicking [{ v:=x,recovered:=true }],fun cs'=>.inl (by simp[recoverD,hc₀,hux]),hxx,by simp[settle]⟩
 have hD:zdv ⟨none,m.w.heap.size,[]⟩ m.w ([]:List Deferred):=⟨⟨[],rfl,fun _=>rfl,qbz,by simp⟩,qae _,fun l hl=>by cases hl⟩
 have hto:=h ⟨none,m.w.heap.size,[]⟩ m (a0.put (some d) x) rfl h2 (ERel.put (a:=a0) d hE (qag hd) hx) hD
 generalize hall:(⟨some d,.call { callee:=.builtin .recover,args:=#[],argTypes:=#[] },ty,pos,aft,none⟩::rest:List Oper).toArray=all at*
 have h0:all[0]?=some ⟨some d,.call { callee:=.builtin .recover,args:=#[],argTypes:=#[] },ty,pos,aft,none⟩:=by rw[<-hall];simp
 have hsz:all.size=rest.length+1:=by rw[<-hall];simp
 have hops:wpOpsIn (Fr none) 0 P all (Post ⟨none,m.w.heap.size,[]⟩ m fn.ntmps (Then P fn.ntmps c' (ztr m.H.length R))) (List.range' 1 rest.length) (a0.put (some d) x) m.w:=by
  rw[wpOpsIn_eq_wpListIn rest 1 (fun j=>by rw[<-hall];simp[qcG 1 j])]
  exact hto
 have wide:∀ {x y:Machine},StepsIn (fun _=>True) P x y->StepsIn (Machine.fenced P (Fr none)) P x y:=fun h=>stepsIn_wide.2 (steps_iff.2 h)
 obtain⟨e1,a1,w1,hq1,harr1⟩:=wp_opsIn (F:=Fr none) (n:=0) _ _ _ hops b [.code c'] ({ c₀ with mode:=u' }::cs) rfl trivial (room_wide _)
 have harr1':=zgi (I':=fun _=>True) (fun _ _=>trivial) harr1
 have hstep:step P (lone (b.atR a0 (.inRegion all (0::List.range' 1 rest.length)::[.code c'])) (c₀::cs) m.w)= .next (lone (b.atR (a0.put (some d) x) (.inRegion all (List.range' 1 rest.length)::[.code c'])) ({ c₀ with mode:=u' }::cs) m.w):=by
  have hg:=stepGR_op (P:=P) (b:=b) (a:=a0) (k:=[.code c']) (cs:=c₀::cs) (w:=m.w) (i:=0) (rest:=List.range' 1 rest.length) h0 (by simp[Region.wanted])
  have hfin:∀v,(b.atR a0 (.inRegion all (0::List.range' 1 rest.length)::[.code c'])).finish v=b.atR (a0.put (some d) v) (.inRegion all (List.range' 1 rest.length)::[.code c']):=by
   intro v;rw[Frame.finish_atR,h0];rfl
  have hr:(execOp a0.eval ⟨some d,.call { callee:=.builtin .recover,args:=#[],argTypes:=#[] },ty,pos,aft,none⟩).run P m.w= .ok .recover m.w:=by
   simp[execOp,resolve,invoke,builtin]
  have hk:(b.atR a0 (.inRegion all (0::List.range' 1 rest.length)::[.code c'])).kind= .deferred:=rfl
  have htr:=tryRecover_deferred hk (c₀::cs)
  refine step_lone_go ?_
  rw[hg,<-hfin]
  simp only[Frame.atR,b]at htr⊢
  rcases hrec cs with hr1|⟨hr1,hr2,hr3⟩
  ·simp[stepG.apply,Oper.semAt_none,hr,htr,hr1]
  ·have hc:({ c₀ with mode:=u' }:Frame)=c₀:=by rw[hr3]
   rw[hc]
   simp only[stepG.apply,Oper.semAt_none,hr,htr,hr1,hr2,Sem.runT_eq,GStep.bare_after]
   rfl
 have s0:StepsIn (fun _=>True) P (lone (Frame.enter P f vs .deferred) (c₀::cs) m.w) (lone (b.atR (a0.put (some d) x) (.inRegion all (List.range' 1 rest.length)::[.code c'])) ({ c₀ with mode:=u' }::cs) m.w):=by
  rw[henter]
  refine .head trivial stepR_seq (.head trivial stepR_region ?_)
  rw[hsz,List.range_eq_range',List.range'_succ]
  exact .one trivial hstep
 have fin:∀(m2:M) (a2:Act),Step m m2->HRel m2->zdv ⟨none,m.w.heap.size,[]⟩ m2.w a2.defers->m.H.length≤m2.H.length/\zaa m.H.length (m2.H.take m.H.length)=true/\R (m2.H.take m.H.length)->∀todo,
   StepsIn (fun _=>True) P (lone (Frame.enter P f vs .deferred) (c₀::cs) m.w) (lone { b.atR a2 todo with mode:=.returning } ({ c₀ with mode:=u' }::cs) m2.w)->
   ∃e u'' w' fr,((∃y,e=Ending.returned y)/\settle u''= .returning/\∃m':M,m'.w=w'/\Step m m'/\HRel m'/\R m'.H)/\
    ComesIn (Machine.fenced P (Fr none)) P (lone (Frame.enter P f vs .deferred) (c₀::cs) m.w) (lone fr ({ c₀ with mode:=u'' }::cs) w') e/\fr.kind= .deferred/\fr.fn=f/\fr.going P w' e:=by
  intro m2 a2 st hm2 hdef hR todo hs
  obtain⟨⟨ks,hd1,_,hd2,hd3⟩,_,_⟩:=hdef
  simp only[qaG]at hd1
  obtain⟨w',hsh,hs2⟩:=zh1 (P:=P) (cs:={ c₀ with mode:=u' }::cs) (s0:=m.w.heap.size) (w0:=m2.w) ks m2.w { b.atR a2 todo with mode:=.returning } (.refl _ _) (by simp) hd1 hd2 hd3
  obtain⟨s2,hm3⟩:=hsh.ok hm2 st
  obtain⟨c1,c2,_⟩:=zgo hm3 s2 (k:=m.H.length) hR.1 (by rw[h2.len];exact qae _) hR.2.1
  refine⟨.returned (.tuple #[]),u',w',_,⟨⟨_,rfl⟩,hset,_,rfl,c1,c2,hR.2.2⟩,wide (hs.trans hs2),rfl,rfl,rfl,rfl,fn,hf,?_⟩
  simp[results,hres]
 obtain⟨m1,env1,te1,rfl,st1,hm1,he1,hd1,hx1,hK1⟩:=hq1
 cases te1 with
 | normal=>
   cases e1 <;> simp[zbu]at hx1
   have hK1':TR P fn.ntmps c' env1 m1.H (ztr m.H.length R):=hK1
   obtain⟨e2,a2,w2,⟨m2,env2,te2,rfl,st2,hm2,he2,hd2,hx2,hK2⟩,harr2⟩:=hK1' ⟨none,m.w.heap.size,[]⟩ m1 a1 rfl hm1 he1 hd1 b [] ({ c₀ with mode:=u' }::cs) rfl (by simp[b,hf])
   have s1:StepsIn (fun _=>True) P (lone (Frame.enter P f vs .deferred) (c₀::cs) m.w) (lone (b.atR a1 [.code c']) ({ c₀ with mode:=u' }::cs) m1.w):=s0.trans harr1'
   cases te2 with
   | normal=>
     cases e2 <;> simp[zbu]at hx2
     exact fin m2 a2 (st1.trans st2) hm2 hd2 hK2 [] (s1.trans (StepsIn.trans harr2 (.one trivial (stepR_end rfl))))
   | ret=>
     cases e2 <;> simp[zbu]at hx2
     obtain⟨todo,hs⟩:=harr2.1 rfl
     exact fin m2 a2 (st1.trans st2) hm2 hd2 hK2 todo (s1.trans hs)
   | exit i=>exact hK2.elim
   | panic v=>exact hK2.elim
 | ret=>
   cases e1 <;> simp[zbu]at hx1
   obtain⟨todo,hs⟩:=harr1'.1 rfl
   exact fin m1 a1 st1 hm1 hd1 hK1 todo (s0.trans hs)
 | exit i=>exact hK1.elim
 | panic v=>exact hK1.elim
def DefD(m:M)(gf:FuncId)(cv:List SV)(d:Deferred):Prop:=∃arr,d= { target:=.fn (.func gf) arr,args:=#[] }/\ARel m cv arr
def zrg(s0:Nat)(m:M)(n:Nat)(K:TK)(gf:FuncId)(cv:List SV)(KD:TK)(e:Exit)(a:Act)(w:World):Prop:=
 Post ⟨none,s0,[]⟩ m n K e a w\/
 ∃(m':M) (env:Env) (te:zdJ) (ks' ks:List Nat) (d:Deferred),m'.w=w/\Step m m'/\HRel m'/\ERel m' n env a.tmps/\a.defers=ks'.map mark++d::ks.map mark/\(ks'++ks).Nodup/\
  (∀k∈ks'++ks,s0≤k/\m'.w.heap[k]?=some (.deferred (some [])))/\DefD m' gf cv d/\zbu m' te e/\KD te env m'.H
def TD(P:Program)(n:Nat)(c:Code)(env:Env)(H:Heap)(K:TK)(gf:FuncId)(cv:List SV)(KD:TK):Prop:=
 ∀(s0:Nat) (m:M) (a:Act),m.H=H->HRel m->ERel m n env a.tmps->zdv ⟨none,s0,[]⟩ m.w a.defers->Code.wpr P none c (zrg s0 m n K gf cv KD) a m.w
def zgz(P:Program)(n:Nat)(c:Code)(K:TK)(gf:FuncId)(cv:List SV)(KD:TK):TK
 | .normal,env,H=>TD P n c env H K gf cv KD
 | e,env,H=>K e env H
section rules
variable {P:Program}{n:Nat}{env:Env}{H:Heap}{K KD:TK}{gf:FuncId}{cv:List SV}
theorem zrg.step{s0:Nat}{m m':M}(s:Step m m'){e:Exit}{a:Act}{w:World}(h:zrg s0 m' n K gf cv KD e a w):zrg s0 m n K gf cv KD e a w:=by
 rcases h with h|⟨m2,env2,te,ks',ks,d,h1,h2,h3⟩
 ·exact .inl (h.step s)
 ·exact .inr ⟨m2,env2,te,ks',ks,d,h1,s.trans h2,h3⟩
theorem TD.seq{x y:Code}(h:TR P n x env H (zgz P n y K gf cv KD)):TD P n (.seq x y) env H K gf cv KD:=by
 intro s0 m a h1 h2 h3 h4
 refine zmK (zbk (h ⟨none,s0,[]⟩ m a h1 h2 h3 h4) ?_)
 rintro e a' w ⟨m2,env2,te,rfl,s,hm,he,hd,hx,hk⟩
 cases te with
 | normal=>
   cases e <;> simp[zbu]at hx
   exact zbk (hk s0 m2 a' rfl hm he hd) fun _ _ _ hp=>hp.step s
 | exit i=>cases e <;> simp[zbu]at hx;exact .inl ⟨m2,env2,.exit i,rfl,s,hm,he,hd,hx,hk⟩
 | ret=>cases e <;> simp[zbu]at hx;exact .inl ⟨m2,env2,.ret,rfl,s,hm,he,hd,trivial,hk⟩
 | panic v=>
   cases e with
   | panic ch=>exact .inl ⟨m2,env2,.panic v,rfl,s,hm,he,hd,hx,hk⟩
   | _=>simp[zbu]at hx
theorem TD.defer{id t:Nat}{caps:Array Operand}{c2:Code}{ty ty' tz:TypeId}{pos pos':String}{aft aft':Array Edge}{ts:Array TypeId}(ht:Nat.ble (t+1) n=true)(hv:caps.toList.mapM env.val=some cv)
  (h:TR P n c2 ((t,.fn gf cv)::env) H KD):
  TD P n (.seq (.region id [⟨some t,.makeFunc (.func gf) #[] caps,ty,pos,aft,none⟩,⟨none,.defer { callee:=.value (.tmp t),args:=#[],argTypes:=ts },ty',pos',aft',none⟩].toArray false) c2) env H K gf cv KD:=by
 intro s0 m a h1 h2 h3 h4
 have hcl:SRel m (.fn gf cv) (.func (.func gf) #[] (caps.map a.eval)):=by
  have hl:∀(l:List Operand) (vs:List SV),l.mapM env.val=some vs->l.length=vs.length/\∀(i:Nat) c,vs[i]?=some c->∃o,l[i]?=some o/\env.val o=some c:=by
   intro l
   induction l with
   | nil=>intro vs h;simp at h;subst h;simp
   | cons x l ih=>
     intro vs h
     simp only[qb0]at h
     cases hx:env.val x with
     | none=>rw[hx]at h;cases h
     | some v=>
       rw[hx]at h
       cases hq:(l.mapM env.val:Option (List SV)) with
       | none=>rw[hq]at h;cases h
       | some us=>
         rw[hq]at h;cases h
         obtain⟨g1,g2⟩:=ih us hq
         refine⟨by simp[g1],fun i c hc=>?_⟩
         cases i with
         | zero=>simp at hc;subst hc;exact⟨x,rfl,hx⟩
         | succ i=>simpa using g2 i c (by simpa using hc)
  obtain⟨g1,g2⟩:=hl _ _ hv
  refine .fn gf cv _ (by simp;simpa using g1) fun i c y hc hy=>?_
  obtain⟨o,ho,hvo⟩:=g2 i c hc
  have ho':caps[i]?=some o:=by simpa using ho
  simp only[qcl,ho',qaW,qaE]at hy
  subst hy
  exact h3.val hvo
 obtain⟨⟨ks,hd1,_,hd2,hd3⟩,hd4,_⟩:=h4
 simp only[qaG]at hd1
 have hcl2:=hcl
 generalize hq:(caps.map a.eval)=arr at hcl
 have harr:ARel m cv arr:=by
  cases hcl with
  | fn _ _ _ hs hr=>exact⟨hs,fun i s x hsx hx=>hr i s x hsx hx⟩
 let a1:Act:=a.put (some t) (.func (.func gf) #[] arr)
 let d:Deferred:={ target:=.fn (.func gf) arr,args:=#[] }
 let a2:Act:={ tmps:=a1.tmps,defers:=d::a1.defers }
 have hE:ERel m n ((t,.fn gf cv)::env) a2.tmps:=h3.put t (qag ht) hcl
 have hrun2:(execOp a1.eval ⟨none,.defer { callee:=.value (.tmp t),args:=#[],argTypes:=ts },ty',pos',aft',none⟩).run P m.w= .ok (.defer d) m.w:=by
  have he:a1.eval (.tmp t)= .func (.func gf) #[] arr:=by
   obtain⟨x,x1,x2⟩:=(h3.put t (qag ht) hcl).2 t _ (Env.zat t _ env)
   have hlt:t<a.tmps.size:=by rw[h3.1];exact qag ht
   simp[a1,Act.put,Act.eval,qaK,hlt]
  simp[execOp,resolve,he,Deferred.ofValue,d]
 refine zmK (zbs (wpIn_region_lit ?_))
 refine wpListIn_plain rfl fun K' hK=>?_
 unfold Oper.wpIn
 refine⟨fun _ _=>trivial,?_⟩
 rw[za6 (x:=.value (.func (.func gf) #[] arr)) (w':=m.w) (by simp[execOp,Instr.makeFunc,hq]) (by intro d e;cases e)]
 simp only[Oper.uponIn]
 refine hK _ _ ?_
 refine wpListIn_plain rfl fun K2 hK2=>?_
 unfold Oper.wpIn
 refine⟨fun _ _=>trivial,?_⟩
 have hsem:(Oper.semAt (Fr none).round a1.eval ⟨none,.defer { callee:=.value (.tmp t),args:=#[],argTypes:=ts },ty',pos',aft',none⟩).run P m.w= .ok (.defer d) m.w:=hrun2
 rw[show(a.put (some t) (.func (.func gf) #[] arr))=a1 from rfl,hsem]
 simp only[Oper.uponIn]
 refine hK2 _ _ ?_
 show wpListIn (Fr none) 0 P _ _ [] a2 m.w
 have hsize:∀k∈ks,k<m.w.heap.size:=fun k hk=>(qaj.1 (hd3 k hk).2).1
 refine wpListIn_nil (zbk (h ⟨none,m.w.heap.size,d::ks.map mark⟩ m a2 h1 h2 hE ⟨⟨[],by simp[a2,a1,Act.put,hd1],fun _=>rfl,qbz,by simp⟩,qae _,fun l hl=>by cases hl⟩) ?_)
 rintro e a' w ⟨m2,env2,te,rfl,s,hm,he,⟨⟨ks',hd1',_,hd2',hd3'⟩,_,_⟩,hx,hk⟩
 refine .inr ⟨m2,env2,te,ks',ks,d,rfl,s,hm,he,hd1',?_,fun k hk=>?_,⟨arr,rfl,harr.1,fun i c y hc hy=>s.srel h2 (harr.2 i c y hc hy)⟩,hx,hk⟩
 ·refine qbt.2 ⟨hd2',hd2,fun x hx y hy e=>?_⟩
  subst e
  have:=(hd3' x hx).1
  have:=hsize x hy
  simp only at*
  omega
 ·rcases qbw.1 hk with hk|hk
  ·exact⟨qaq hd4 (hd3' k hk).1,(hd3' k hk).2⟩
  ·exact⟨(hd3 k hk).1,by rw[s.block k (hsize k hk) (zue h2 (hd3 k hk).2)];exact(hd3 k hk).2⟩
def KDef(P:Program)(tab:Tab)(rs:List ResultVar)(N:Nat)(R:Res->Heap->Prop)(gf:FuncId)(cv:List SV):TK
 | .normal,env,H=>∃RH,zcj P gf cv H none RH/\∀H3,RH H3->RetK tab rs N R .ret env H3
 | .ret,env,H=>∃RH,zcj P gf cv H none RH/\∀H3,RH H3->RetK tab rs N R .ret env H3
 | .panic v,env,H=>∃RH,zcj P gf cv H (some v) RH/\∀H3,RH H3->RetK tab rs N R .ret env H3
 | .exit _,_,_=>False
theorem Sound.ze6{tab:Tab}(hT:zaw P tab){f:FuncId}{fn:Func}{c:Code}{args:List SV}{R:Res->Heap->Prop}(hf:P.funcs[f]?=some fn)(hn:(fn.name == "runtime.NumGoroutine")=false)(hb:fn.body=some c)
  (ha:Nat.ble args.length fn.ntmps=true)(h:TD P fn.ntmps c (zeN 0 args) H (RetK tab fn.results.toList H.length R) gf cv (KDef P tab fn.results.toList H.length R gf cv)):Sound P f args H R:=by
 refine⟨⟨fn,hf,hn,by rw[hb];rfl⟩,fun m vs h1 h2 h3=>?_⟩
 have hal:=qag ha
 refine zgk hf hb (zbk (h m.w.heap.size m _ h1 h2 ⟨by simp[h3.1];omega,fun i v hv=>?_⟩ ⟨⟨[],rfl,fun _=>rfl,qbz,by simp⟩,qae _,fun l hl=>by cases hl⟩) ?_)
 ·exact zwy
 ·rintro e a' w' (hp|⟨m',env,te,ks',ks,d,rfl,s,hm',he,hd,hnd,hks,⟨arr,rfl,harr⟩,hx,hK⟩)
  ·exact zk4 hT h1 h2 rfl hp
  ·have fin:∀(m3:M) vs v k,Step m m3->HRel m3->ERel m3 fn.ntmps env a'.tmps->zb1 tab env m3.H fn.results.toList=some vs->Le (pack vs) v->H.length≤k->k≤m3.H.length->v.under k=true->zaa k (m3.H.take k)=true->R (.ret v) (m3.H.take k)->
     ∀w'',Shut m.w.heap.size m3.w w''->∃v,(results fn a'.tmps).run P w''= .ok v w''/\∃(m2:M) (r:Res),m2.w=w''/\Step m m2/\HRel m2/\zbX m2 r (.returned v)/\R r m2.H:=by
    intro m3 vs v k s3 hm3 he3 g1 g2 g3 g4 g5 g6 g7 w'' hsh
    obtain⟨s2,hm2⟩:=hsh.ok hm3 s3
    have he2:ERel ⟨m3.A,m3.β,m3.H,w''⟩ fn.ntmps env a'.tmps:=⟨he3.1,fun i v hv=>let ⟨x,x1,x2⟩:=he3.2 i v hv;⟨x,x1,hsh.srel x2⟩⟩
    obtain⟨x,hr,hp⟩:=zhJ hT hm2 he2 g1
    obtain⟨c1,c2,c3⟩:=zgo hm2 s2 g4 (by rw[h2.len,h1];exact g3) g6
    exact⟨x,hr,_,.ret v,rfl,c1,c2,c3 _ _ g5 (g2 _ _ hp),g7⟩
   have hnd':=qbt.1 hnd
   have go:∀(u:FrameMode) (pv:Option SV) (RH:Heap->Prop),u≠ .run->zi7 m' pv u->zcj P gf cv m'.H pv RH->(∀H3,RH H3->RetK tab fn.results.toList H.length R .ret env H3)->
     LeavesInM (Fr none) 0 P fn a'.tmps (fun e w'=>∃(m':M) (r:Res),m'.w=w'/\Step m m'/\HRel m'/\zbX m' r e/\R r m'.H) a'.defers u m'.w:=by
    intro u pv RH hu hmode hS hR
    rw[hd]
    refine zdf hu ks' m'.w (.refl _ _) hnd'.1 (fun k hk=>hks k (qcg _ hk)) fun w1 hw1 hkeep=>?_
    obtain⟨s1,hm1⟩:=hw1.ok hm' s
    obtain⟨⟨fng,q1,q2,q3⟩,hcalls⟩:=hS
    have q2':¬fng.name= "runtime.NumGoroutine":=by simpa using q2
    have q3':¬fng.body=none:=by intro e;simp[e]at q3
    refine⟨hu,.inr ⟨fun h=>by simp[Fence.wide]at h,.func gf,arr,gf,arr,rfl,?_,fun _ _=>trivial,?_⟩⟩
    ·simp[invoke,callFunc,q1,q2',q3']
    ·have harr1:ARel ⟨m'.A,m'.β,m'.H,w1⟩ cv arr:=⟨harr.1,fun i c y hc hy=>hw1.srel (harr.2 i c y hc hy)⟩
     have hmode1:zi7 ⟨m'.A,m'.β,m'.H,w1⟩ pv u:=by
      cases pv with
      | none=>exact hmode
      | some v=>obtain⟨x,x1,x2⟩:=hmode;exact⟨x,x1,hw1.srel x2⟩
     have hc:=hcalls ⟨m'.A,m'.β,m'.H,w1⟩ arr u rfl hm1 harr1 hmode1
     refine⟨trivial,fun c0 cs hc0 hroom=>?_⟩
     obtain⟨e,u',w2,fr,⟨⟨y,rfl⟩,hset,m3,rfl,s3,hm3,hRH⟩,g1,g2,g3,g4⟩:=hc.2 c0 cs hc0 hroom
     refine⟨.returned y,u',m3.w,fr,?_,g1,g2,g3,g4⟩
     show LeavesInM (Fr none) 0 P fn a'.tmps _ (ks.map mark) (settle u') m3.w
     rw[hset,<-qaG (ks.map mark)]
     have hks3:∀k∈ks,m.w.heap.size≤k/\m3.w.heap[k]?=some (.deferred (some [])):=by
      intro k hk
      obtain⟨f1,f2⟩:=hks k (qb9 _ hk)
      have hnk:k ∉ ks':=fun h=>hnd'.2.2 k h k hk rfl
      have f3:w1.heap[k]?=some (.deferred (some [])):=(hkeep k hnk).trans f2
      exact⟨f1,by rw[s3.block k (qaj.1 f3).1 (zue hm1 f3)];exact f3⟩
     refine zdf (by simp) ks m3.w (.refl _ _) hnd'.2.1 hks3 fun w4 hw4 _=>?_
     obtain⟨vs,v,k,p1,p2,p3,p4,p5,p6,p7⟩:=hR _ hRH
     have he1:ERel ⟨m'.A,m'.β,m'.H,w1⟩ fn.ntmps env a'.tmps:=⟨he.1,fun i v hv=>let ⟨x,x1,x2⟩:=he.2 i v hv;⟨x,x1,hw1.srel x2⟩⟩
     exact fin m3 vs v k (s1.trans s3) hm3 (he1.step hm1 s3) p1 p2 p3 p4 p5 p6 p7 w4 hw4
   cases te with
   | normal=>
     cases e <;> simp[zbu]at hx
     obtain⟨RH,k1,k2⟩:=hK
     exact go .returning none RH (by simp) rfl k1 k2
   | ret=>
     cases e <;> simp[zbu]at hx
     obtain⟨RH,k1,k2⟩:=hK
     exact go .returning none RH (by simp) rfl k1 k2
   | panic v=>
     cases e with
     | panic ch=>
       obtain⟨x,rfl,hux⟩:=hx
       obtain⟨RH,k1,k2⟩:=hK
       exact go (.panicking _) (some v) RH (by simp) ⟨x,rfl,hux⟩ k1 k2
     | _=>simp[zbu]at hx
   | exit i=>exact hK.elim
end rules
def zjY(es:List (Value×T))(kx:Value):Option T->Prop
 | some t=>∃j:Nat,es[j]?=some (kx,t)/\∀(j':Nat) t',es[j']?=some (kx,t')->j'=j
 | none=>∀(j:Nat) e,es[j]?=some e->e.1≠kx
def zoS(es:List (Value×T))(kx:Value)(t:T)(es':List (Value×T)):Prop:=
 (∃(j:Nat) (t0:T),es[j]?=some (kx,t0)/\(∀(j':Nat) t',es[j']?=some (kx,t')->j'=j)/\es'=es.set j (kx,t))\/((∀(j:Nat) e,es[j]?=some e->e.1≠kx)/\es'=es++[(kx,t)])
def zg2(P:Program)(kt:TypeId)(es:List (Value×T)):Prop:=∀(j:Nat) e,es[j]?=some e->∃l,keyOf P kt e.1=some l
theorem Fit.map{P:Program}{t:TypeId}{i:TyI}(h:Fit P t i){k e:TypeId}(hk:i.k= .map k e):P.underlying t=some (.map k e):=by
 obtain⟨d,ti,z,h1,h2,h3,_⟩:=h.ex
 rw[hk]at h3
 cases d <;> simp[TK'.fits]at h3
 obtain⟨rfl,rfl⟩:=h3
 exact h1
theorem zpT{m:M}(hm:HRel m){id:Nat}{kt vt:TypeId}{es:List (Value×T)}(hH:m.H[id]?=some (.map kt vt es)){p:Place}(hp:m.β[id]?=some p):
  ∃(a:Array MapEntry) (clock:Nat),m.w.heap[p.b]?=some (.map a clock)/\a.size=es.length/\∀(i:Nat) k t (e:MapEntry),es[i]?=some (k,t)->a[i]?=some e->e.key=k/\TRel m.A m.w t e.val/\e.born<clock:=by
 obtain⟨_,_,a,clock,h⟩:=hm.blk id p _ hp hH
 exact⟨a,clock,h⟩
section find
variable {P:Program}{kt:TypeId}
theorem zgL(K:Maps.Keyed P kt){A:Foot}{w0:World}{es:List (Value×T)}(hks:zg2 P kt es){a:Array MapEntry}{clock:Nat}(hs:a.size=es.length)
  (he:∀(i:Nat) k t (e:MapEntry),es[i]?=some (k,t)->a[i]?=some e->e.key=k/\TRel A w0 t e.val/\e.born<clock){kx:Value}(hkx:∃l,keyOf P kt kx=some l)(w:World):
  ((Instr.findKey kt kx a.toList).run P w= .ok none w/\∀(j:Nat) e,es[j]?=some e->e.1≠kx)\/
  ∃(j:Nat) (t:T) (e:MapEntry),(Instr.findKey kt kx a.toList).run P w= .ok (some (j,e.val)) w/\es[j]?=some (kx,t)/\a[j]?=some e/\TRel A w0 t e.val:=by
 obtain⟨l,hl⟩:=hkx
 have hall:∀e∈a.toList,∃l,keyOf P kt e.key=some l:=by
  intro e hem
  obtain⟨i,hi⟩:=qbc hem
  have hi':a[i]?=some e:=by simpa using hi
  have hlt:=(qaj.1 hi').1
  have hes:es[i]?=some es[i]:=qac (by omega)
  obtain⟨l',hl'⟩:=hks i _ hes
  have:=(he i es[i].1 es[i].2 e hes hi').1
  exact⟨l',by rw[this];exact hl'⟩
 rcases K.find w hl a.toList hall with ⟨h1,h2⟩|⟨j,e,h1,h2,h3⟩
 ·refine .inl ⟨h1,fun j e hj hk=>?_⟩
  have hlt:=(qaa.1 hj).1
  have ha:a[j]?=some (a[j]'(by omega)):=qam (by omega)
  have:=(he j e.1 e.2 _ hj ha).1
  exact h2 _ (qas (i:=j) (by rw[Array.getElem?_toList];exact ha)) (this.trans hk)
 ·have h2':a[j]?=some e:=by simpa using h2
  have hlt:=(qaj.1 h2').1
  have hes:es[j]?=some es[j]:=qac (by omega)
  obtain⟨g1,g2,_⟩:=he j es[j].1 es[j].2 e hes h2'
  refine .inr ⟨j,es[j].2,e,h1,?_,h2',g2⟩
  rw[hes];congr 1
  rw[<-h3,g1]
end find
section rules
variable {P:Program}{n:Nat}{env:Env}{H:Heap}{K:TK}{all:Array Oper}{rest:List Oper}{tab:Tab}{q:Bool}
variable {d:Nat}{ty:TypeId}{pos:String}{aft:Array Edge}
theorem TO.makeMap(kt vt:TypeId){t:TypeId}(hd:Nat.ble (d+1) n=true)(k:TO false P n all rest ((d,.mp H.length)::env) (H++[.map kt vt []]) K):
  TO false P n all (⟨some d,.makeMap t none,ty,pos,aft,none⟩::rest) env H K:=
 TO.eff hd (fun m ac h1 h2 h3=>by
  obtain⟨s,hm'⟩:=grow h2 (A':=m.A) (βn:=[⟨m.w.heap.size,0,1⟩]) (Hn:=[.map kt vt []]) (w':=m.w.alloc (.map #[] 0)) rfl rfl rfl (by simp) (fun b hb=>RowKit.Below.heap_alloc _ _ _ hb) (fun _ _ h=>h) (fun _ _ h=>.inl h) rfl
   (fun i p k g1 g2 _=>by
     cases i with
     | zero=>simp at g1;subst g1;left;simp
     | succ i=>simp at g1) (fun i j p q hij g1 g2=>by cases i <;> cases j <;> simp at g1 g2 hij) (fun b o g1 g2=>absurd g1 g2) (fun s i p k g1 g2=>by
     cases i with
     | zero=>
       simp at g1 g2;subst g1;subst g2
       exact⟨rfl,rfl,#[],0,World.alloc_heap_new _ _,rfl,by simp⟩
     | succ i=>simp at g1)
  refine⟨.map (some m.w.heap.size),⟨m.A,m.β++[⟨m.w.heap.size,0,1⟩],m.H++[.map kt vt []],m.w.alloc (.map #[] 0)⟩,?_,s,hm',by rw[h1],?_⟩
  ·simp[execOp,Instr.makeMap,run_newObj_alloc]
  ·rw[<-h1]
   exact .mp m.H.length ⟨m.w.heap.size,0,1⟩ (by show(m.β++_)[m.H.length]?=_;rw[<-h2.len,qaA (qae _)];simp) (by intro n';simp[tlOf])) k
def zvr(ok:Bool)(z:T):Option T->SV
 | some t=>bif ok then .tup [.t t,.b true] else .t t
 | none=>bif ok then .tup [.t z,.b false] else .t z
theorem zjw{m:M}{t:T}{x:Value}(h:TRel m.A m.w t x)(b:Bool):SRel m (.tup [.t t,.b b]) (.tuple #[x,.bool b]):=
 .tup _ _ rfl fun i c y hc hy=>by
  match i with
  | 0=>simp at hc hy;subst hc;subst hy;exact .t _ _ h
  | 1=>simp at hc hy;subst hc;subst hy;exact .t _ _ (.v _)
  | i+2=>simp at hc
theorem TO.lookup(hT:zaw P tab){t kt vt:TypeId}{i iv:TyI}{x y:Operand}{id:Nat}{es:List (Value×T)}{kv:SV}{kx:Value}{ok:Bool}{z:T}{r:Option T}(hd:Nat.ble (d+1) n=true)(ht:tab.get t=some i)(hk:i.k= .map kt vt)
  (hvt:tab.get vt=some iv)(hz:iv.zero=[z])(hag:iv.k.agg=false)(KK:Maps.Keyed P kt)(hx:env.val x=some (.mp id))(hH:H[id]?=some (.map kt vt es))(hks:zg2 P kt es)(hy:env.val y=some kv)(hkv:∀m v,SRel m kv v->v=kx)(hkx:∃l,keyOf P kt kx=some l)
  (hr:zjY es kx r)(k:TO q P n all rest ((d,zvr ok z r)::env) H K):TO q P n all (⟨some d,.lookup t x y ok,ty,pos,aft,none⟩::rest) env H K:=
 TO.op hd (fun m ac h1 h2 h3=>by
  have hy':=hkv _ _ (h3.val hy)
  have h:=h3.val hx
  obtain⟨zz,hz1,hz2,_,hz4⟩:=(hT vt iv hvt).zero
  obtain⟨g1,g0,g2⟩:=zb3 (A:=m.A) (w:=m.w) _ _ hz2
  have hzz:zz.cells= #[zz]:=by
   exact zwft
  have hzr:TRel m.A m.w z zz:=g2 0 z zz (by rw[hz];rfl) (by rw[hzz];rfl)
  generalize hq:ac.eval x=v at h
  cases h with
  | mp _ p hp hn=>
    have hH1:m.H[id]?=some (.map kt vt es):=by rw[h1];exact hH
    obtain⟨a,clock,b1,b2,b3⟩:=zpT h2 hH1 hp
    have hlt:=(qaj.1 b1).1
    obtain⟨l,hl⟩:=hkx
    have run:∀w' (rr:Option (Nat×Value)),Keeps m.w w'->(Instr.findKey kt kx a.toList).run P w'= .ok rr w'->
      (Instr.lookup t (.map (some p.b)) kx ok).run P w'= .ok (match rr with|some (_,v)=>(if ok then .tuple #[v,.bool true] else v)|none=>(if ok then .tuple #[zz,.bool false] else zz)) w':=by
     intro w' rr kw hf
     have hb:w'.heap[p.b]?=some (.map a clock):=by rw[kw.block _ hlt];exact b1
     have hg:(getObj p.b).run P w'= .ok (.map a clock) w':=by simp[getObj,Sem.run,hb]
     unfold Instr.lookup
     simp only[Sem.run_bind,underlying,run_program,Result.andThen_ok,(hT t i ht).map hk,Sem.run_pure,hg,KK.check w' _ hl,hf]
     cases rr with
     | some jv=>cases ok <;> simp
     | none=>cases ok <;> simp[hz1]
    rcases zgL (w0:=m.w) KK hks b2 b3 ⟨l,hl⟩ m.w with ⟨f1,f2⟩|⟨j,tt,e,f1,f2,f3,f4⟩
    ·have hrn:r=none:=by
      cases r with
      | none=>rfl
      | some t0=>obtain⟨j,hj,_⟩:=hr;exact absurd rfl (f2 j _ hj)
     subst hrn
     refine⟨if ok then .tuple #[zz,.bool false] else zz,fun w' kw=>?_,?_⟩
     ·have f1':(Instr.findKey kt kx a.toList).run P w'= .ok none w':=by
       rcases zgL (w0:=m.w) KK hks b2 b3 ⟨l,hl⟩ w' with ⟨g,_⟩|⟨j,tt,e,_,g,_⟩
       ·exact g
       ·exact absurd rfl (f2 j _ g)
      simp[execOp,hq,hy',run w' none kw f1']
     ·cases ok
      ·exact .t _ _ hzr
      ·exact zjw hzr false
    ·cases r with
     | none=>exact absurd rfl (hr j _ f2)
     | some t0=>
       obtain⟨jr,hjr,huniq⟩:=hr
       refine⟨if ok then .tuple #[e.val,.bool true] else e.val,fun w' kw=>?_,?_⟩
       ·rcases zgL (w0:=m.w) KK hks b2 b3 ⟨l,hl⟩ w' with ⟨_,g⟩|⟨j',tt',e',g',g2',g3',_⟩
        ·exact absurd rfl (g j _ f2)
        ·have e1:=huniq j tt f2
         have e2:=huniq j' tt' g2'
         subst e1;subst e2
         have:e'=e:=by rw[f3]at g3';cases g3';rfl
         subst this
         simp[execOp,hq,hy',run w' _ kw g']
       ·have:tt=t0:=by
         have e1:=huniq j tt f2
         subst e1
         rw[hjr]at f2;cases f2;rfl
        subst this
        cases ok
        ·exact .t _ _ f4
        ·exact zjw f4 true) k
theorem TO.lookup_nil(hT:zaw P tab){t kt vt:TypeId}{i iv:TyI}{x y:Operand}{kv:SV}{kx:Value}{ok:Bool}{z:T}(hd:Nat.ble (d+1) n=true)(ht:tab.get t=some i)(hk:i.k= .map kt vt)
  (hvt:tab.get vt=some iv)(hz:iv.zero=[z])(hag:iv.k.agg=false)(KK:Maps.Keyed P kt)(hx:env.val x=some (.t (.v (.map none))))(hy:env.val y=some kv)(hkv:∀m v,SRel m kv v->v=kx)(hkx:∃l,keyOf P kt kx=some l)
  (k:TO q P n all rest ((d,zvr ok z none)::env) H K):TO q P n all (⟨some d,.lookup t x y ok,ty,pos,aft,none⟩::rest) env H K:=
 TO.op hd (fun m ac h1 h2 h3=>by
  have hy':=hkv _ _ (h3.val hy)
  have hq:=(h3.val hx).v_eq
  obtain⟨zz,hz1,hz2,_,hz4⟩:=(hT vt iv hvt).zero
  obtain⟨g1,g0,g2⟩:=zb3 (A:=m.A) (w:=m.w) _ _ hz2
  have hzz:zz.cells= #[zz]:=by
   exact zwft
  have hzr:TRel m.A m.w z zz:=g2 0 z zz (by rw[hz];rfl) (by rw[hzz];rfl)
  obtain⟨l,hl⟩:=hkx
  refine⟨if ok then .tuple #[zz,.bool false] else zz,fun w' kw=>?_,?_⟩
  ·have hf:(Instr.findKey kt kx []).run P w'= .ok none w':=by
    rcases KK.find w' hl [] (by simp)with ⟨h1,_⟩|⟨j,e,_,h2,_⟩
    ·exact h1
    ·simp at h2
   have:(Instr.lookup t (.map none) kx ok).run P w'= .ok (if ok then .tuple #[zz,.bool false] else zz) w':=by
    unfold Instr.lookup
    simp only[Sem.run_bind,underlying,run_program,Result.andThen_ok,(hT t i ht).map hk,Sem.run_pure,KK.check w' _ hl,hf]
    cases ok <;> simp[hz1]
   simp[execOp,hq,hy',this]
  ·cases ok
   ·exact .t _ _ hzr
   ·exact zjw hzr false) k
theorem TO.mapUpdate(hT:zaw P tab){t kt vt:TypeId}{i:TyI}{x y v:Operand}{id:Nat}{es es':List (Value×T)}{kv vv:SV}{tv:T}{kx:Value}{H':Heap}(ht:tab.get t=some i)(hk:i.k= .map kt vt)
  (KK:Maps.Keyed P kt)(hx:env.val x=some (.mp id))(hH:H[id]?=some (.map kt vt es))(hks:zg2 P kt es)(hy:env.val y=some kv)(hkv:∀m v,SRel m kv v->v=kx)(hkx:∃l,keyOf P kt kx=some l)
  (hv:env.val v=some vv)(htv:vv.toT=some tv)(hp:zoS es kx tv es')(hH':H.set id (.map kt vt es')=H')
  (k:TO false P n all rest env H' K):TO false P n all (⟨none,.mapUpdate t x y v,ty,pos,aft,none⟩::rest) env H K:=
 TO.eff0 (fun m ac h1 h2 h3=>by
  have hy':=hkv _ _ (h3.val hy)
  have hvv:=(h3.val hv).toT htv
  have h:=h3.val hx
  obtain⟨l,hl⟩:=hkx
  generalize hq:ac.eval x=z at h
  cases h with
  | mp _ p hpp hn=>
    have hH1:m.H[id]?=some (.map kt vt es):=by rw[h1];exact hH
    obtain⟨a,clock,b1,b2,b3⟩:=zpT h2 hH1 hpp
    have hg:(getObj p.b).run P m.w= .ok (.map a clock) m.w:=by simp[getObj,Sem.run,b1]
    have hset:∀o',(setObj p.b o').run P m.w= .ok () (m.w.putObj p.b o'):=fun o'=>by simp[setObj,Sem.run,b1,World.putObj]
    have hbk:=h2.blk id p _ hpp hH1
    have cells:∀(a':Array MapEntry) (c':Nat),a'.size=es'.length->(∀(s:Step m ⟨m.A,m.β,m.H.set id (.map kt vt es'),m.w.putObj p.b (.map a' c')⟩) (i:Nat) k t (e:MapEntry),es'[i]?=some (k,t)->a'[i]?=some e->e.key=k/\TRel m.A m.w t e.val/\e.born<c')->
      Step m ⟨m.A,m.β,m.H.set id (.map kt vt es'),m.w.putObj p.b (.map a' c')⟩/\HRel ⟨m.A,m.β,m.H.set id (.map kt vt es'),m.w.putObj p.b (.map a' c')⟩:=by
     intro a' c' hs he
     refine zq3 h2 hpp hH1 rfl rfl b1 rfl rfl (fun L e=>by cases e) fun s=>⟨hbk.1,hbk.2.1,a',c',World.putObj_heap_same (qaj.1 b1).1,hs,fun i k t e g1 g2=>?_⟩
     obtain⟨q1,q2,q3⟩:=he s i k t e g1 g2
     exact⟨q1,s.trel h2 q2,q3⟩
    rcases zgL (w0:=m.w) KK hks b2 b3 ⟨l,hl⟩ m.w with ⟨f1,f2⟩|⟨j,tt,e,f1,f2,f3,f4⟩
    ·rcases hp with ⟨j,t0,hj,_⟩|⟨_,rfl⟩
     ·exact absurd rfl (f2 j _ hj)
     obtain⟨s,hm'⟩:=cells (a.push { key:=kx,val:=ac.eval v,born:=clock }) (clock+1) (by simp[b2]) (fun s i k t e g1 g2=>by
      by_cases hi:i<es.length
      ·rw[qat hi]at g1
       rw[Array.getElem?_push_lt (by omega),<-qam]at g2
       obtain⟨q1,q2,q3⟩:=b3 i k t e g1 g2
       exact⟨q1,q2,by omega⟩
      ·rw[qaA (by omega)]at g1
       have:i=es.length:=by
        have:=(qaa.1 g1).1
        simp at this;omega
       subst this
       simp at g1
       rw[<-b2,Array.getElem?_push_size]at g2
       cases g2
       obtain⟨rfl,rfl⟩:=g1
       exact⟨rfl,hvv,by simp⟩)
     refine⟨_,?_,s,hm',by rw[h1];exact hH'⟩
     have:(Instr.mapUpdate t (.map (some p.b)) kx (ac.eval v)).run P m.w= .ok () (m.w.putObj p.b (.map (a.push { key:=kx,val:=ac.eval v,born:=clock }) (clock+1))):=by
      unfold Instr.mapUpdate
      simp only[Sem.run_bind,underlying,run_program,Result.andThen_ok,(hT t i ht).map hk,Sem.run_pure,hg,KK.check m.w _ hl,f1,hset]
     simp[execOp,hq,hy',this]
    ·rcases hp with ⟨j2,t0,hj,huniq,rfl⟩|⟨hno,_⟩
     ·have e1:=huniq j tt f2
      subst e1
      have hjl:=(qaa.1 hj).1
      have hkey:e.key=kx:=(b3 j _ _ e hj f3).1
      obtain⟨s,hm'⟩:=cells (a.modify j fun e=>{ e with key:=kx,val:=ac.eval v }) clock (by simp[b2]) (fun s i k t e' g1 g2=>by
       by_cases hi:i=j
       ·subst hi
        rw[qav hjl]at g1
        cases g1
        rw[qbu,if_pos rfl,f3]at g2
        cases g2
        exact⟨rfl,hvv,(b3 i _ _ e hj f3).2.2⟩
       ·rw[qaF (by omega)]at g1
        rw[qbu,if_neg (by omega)]at g2
        exact b3 i k t e' g1 g2)
      refine⟨_,?_,s,hm',by rw[h1];exact hH'⟩
      have hkk:((a[j]?).map (·.key)).getD kx=kx:=by rw[f3];simp[hkey]
      have:(Instr.mapUpdate t (.map (some p.b)) kx (ac.eval v)).run P m.w= .ok () (m.w.putObj p.b (.map (a.modify j fun e=>{ e with key:=kx,val:=ac.eval v }) clock)):=by
       unfold Instr.mapUpdate
       simp only[Sem.run_bind,underlying,run_program,Result.andThen_ok,(hT t i ht).map hk,Sem.run_pure,hg,KK.check m.w _ hl,f1,hkk,KK.stays m.w hl,hset]
      simp[execOp,hq,hy',this]
     ·exact absurd rfl (hno j _ f2)) k
end rules
end Go.TL
