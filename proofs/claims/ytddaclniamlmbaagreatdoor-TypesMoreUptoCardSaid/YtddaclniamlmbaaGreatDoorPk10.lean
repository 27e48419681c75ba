import Derived.RecoverIn
import Derived.Test.YtddaclniamlmbaaGreatDoorPk9
set_option linter.unusedSimpArgs false
set_option linter.unusedVariables false
namespace Go.TL
open Go
mutual
theorem ren_under {N:Nat} {r:Nat->Nat} (hr:∀j,j<N->r j=j):∀(v:SV),v.under N=true->v.ren r=v
 | .t u,_=>rfl
 | .sl sz es i,h=>by simp[SV.ren,hr i (by simpa [SV.under,Nat.blt_eq]using h)]
 | .ms sz i off len,h=>by simp[SV.ren,hr i (by simpa [SV.under,Nat.blt_eq]using h)]
 | .cp cs off,_=>rfl
 | .ref i off,h=>by simp[SV.ren,hr i (by simpa [SV.under,Nat.blt_eq]using h)]
 | .tref e n i off,h=>by simp[SV.ren,hr i (by simpa [SV.under,Nat.blt_eq]using h)]
 | .rw i len,h=>by simp[SV.ren,hr i (by simpa [SV.under,Nat.blt_eq]using h)]
 | .mp i,h=>by simp[SV.ren,hr i (by simpa [SV.under,Nat.blt_eq]using h)]
 | .yl i,h=>by simp[SV.ren,hr i (by simpa [SV.under,Nat.blt_eq]using h)]
 | .ag cs,h=>by simp[SV.ren,rens_under hr cs (by simpa [SV.under]using h)]
 | .tup cs,h=>by simp[SV.ren,rens_under hr cs (by simpa [SV.under]using h)]
 | .fn f cs,h=>by simp[SV.ren,rens_under hr cs (by simpa [SV.under]using h)]
 | .bnd f cs,h=>by simp[SV.ren,rens_under hr cs (by simpa [SV.under]using h)]
 | .ifc ty x,h=>by simp[SV.ren,ren_under hr x (by simpa [SV.under]using h)]
 | .any,_=>rfl
theorem rens_under {N:Nat} {r:Nat->Nat} (hr:∀j,j<N->r j=j):∀(cs:List SV),unders N cs=true->rens r cs=cs
 | [],_=>rfl
 | c::cs,h=>by
   simp only[unders,Bool.and_eq_true]at h
   simp[rens,ren_under hr c h.1,rens_under hr cs h.2]
end
theorem Blk.ren_under{N:Nat}{r:Nat->Nat}(hr:∀j,j<N->r j=j)(b:Blk)(h:b.under N=true):b.ren r=b:=by
 have key:∀env:List (Nat×SV),(env.all fun x=>x.2.under N)=true->(env.map fun x=>(x.1,x.2.ren r))=env:=by
  intro env
  induction env with
  | nil=>intro _;rfl
  | cons x l ih=>
    intro h
    simp only[List.all_cons,Bool.and_eq_true]at h
    simp[Go.TL.ren_under hr x.2 h.1,ih h.2]
 cases b <;> simp[Blk.ren]
 ·exact rens_under hr _ h
 ·exact key _ h
theorem blks_ren{N:Nat}{r:Nat->Nat}(hr:∀j,j<N->r j=j):∀(H:Heap),blksUnder N H=true->H.map (Blk.ren r)=H
 | [],_=>rfl
 | b::H,h=>by
   simp only[blksUnder,Bool.and_eq_true]at h
   simp[Blk.ren_under hr b h.1,blks_ren hr H h.2]
theorem names_range{N M j:Nat}(h:j<N):names (List.range N) M j=j:=by
 simp[names,h]
theorem patch_range{α:Type}{G bs:List α}{N:Nat}(hb:bs.length=N)(hG:N≤G.length):patch G (List.range N) bs=bs++G.drop N:=by
 apply List.ext_getElem?
 intro i
 have hl:(List.range N).length≤bs.length:=by simp;omega
 have hlen:=patch_len (List.range N) G bs hl
 by_cases h1:i<N
 ·rw[patch_in (List.range N) G bs i i List.nodup_range (fun x hx=>by simp at hx;omega) hl (by simp[h1]),List.getElem?_append_left (by omega)]
 ·by_cases h2:i<G.length
  ·rw[patch_out (List.range N) G bs i h2 (by simp;omega),List.getElem?_append_right (by omega),List.getElem?_drop]
   congr 1;omega
  ·rw[List.getElem?_eq_none (by simp at hlen;omega),List.getElem?_eq_none (by simp;omega)]
theorem hands_range{H Hc:Heap}{N:Nat}(hN:N≤H.length)(hc:H.take N=Hc)(hb:blksUnder N Hc=true):Hands H (List.range N) Hc:=by
 have hl:Hc.length=N:=by rw[<-hc];simp;omega
 refine⟨List.nodup_range,fun x hx=>by simp at hx;omega,by simp[hl],fun j i b hj hbj=>?_,fun j b hbj=>?_⟩
 ·have hj':=(List.getElem?_eq_some_iff.1 hbj).1
  have:i=j:=by
   rw[List.getElem?_range (by omega)]at hj;cases hj;rfl
  subst this
  rw[Blk.ren_under (N:=N) (fun j hj=>names_range hj) b (blksUnder_get hb _ b hbj)]
  rw[<-hc,List.getElem?_take,if_pos (by omega)]at hbj
  exact hbj
 ·rw[hl];exact blksUnder_get hb j b hbj
section rules
variable {P:Program}{n:Nat}{env:Env}{H:Heap}{K:TK}{all:Array Oper}{rest:List Oper}{tab:Tab}{q:Bool}
variable {d:Nat}{ty:TypeId}{pos:String}{aft:Array Edge}
def Within(N:Nat)(R:Res->Heap->Prop):Prop:=
 (∀v H',R (.ret v) H'->v.under N=true/\H'.length=N/\blksUnder N H'=true)/\∀v H',R (.panic v) H'->v.under N=true/\H'.length=N/\blksUnder N H'=true
theorem TO.callT(N:Nat){Hc:Heap}{cargs:List SV}{R:Res->Heap->Prop}{f:Operand}{fid:FuncId}{caps:List SV}{args:Array Operand}{ts:Array TypeId}{vs:List SV}(hs:Sound P fid cargs Hc R)(hw:Within N R)(hd:Nat.ble (d+1) n=true)
  (hf:env.val f=some (.fn fid caps))(ha:env.vals args.toList=some vs)(hl:Les (vs++caps) cargs)(hu:unders N cargs=true)(hN:N≤H.length)(hc:H.take N=Hc)(hb:blksUnder N Hc=true)
  (k:∀v H',R (.ret v) H'->TO false P n all rest ((d,v)::env) (H'++H.drop N) K)(kp:∀v H',R (.panic v) H'->K (.panic v) env (H'++H.drop N)):
  TO false P n all (⟨some d,.call { callee:=.value f,args:=args,argTypes:=ts },ty,pos,aft,none⟩::rest) env H K:=by
 have hr:∀j,j<N->names (List.range N) H.length j=j:=fun j hj=>names_range hj
 have hlen:Hc.length=N:=by rw[<-hc];simp;omega
 refine TO.call (List.range N) hs hd hf ha (by rw[rens_under hr _ hu];exact hl) (by rw[hlen];exact hu) (hands_range hN hc hb) (fun v Hc' h=>?_) (fun v Hc' h=>?_)
 ·obtain⟨g1,g2,g3⟩:=hw.1 v Hc' h
  rw[ren_under hr v g1,blks_ren hr Hc' g3,patch_range g2 hN]
  exact k v Hc' h
 ·obtain⟨g1,g2,g3⟩:=hw.2 v Hc' h
  rw[ren_under hr v g1,blks_ren hr Hc' g3,patch_range g2 hN]
  exact kp v Hc' h
theorem TO.yieldT(N:Nat){Hc:Heap}{f x:Operand}{id:Nat}{arg:SV}{ts:Array TypeId}{R:Res->Heap->Prop}(hs:YSound P id arg Hc R)(hw:Within N R)(hd:Nat.ble (d+1) n=true)(hf:env.val f=some (.yl id))(hx:env.val x=some arg)
  (hu:arg.under N=true)(hid:id<N)(hN:N≤H.length)(hc:H.take N=Hc)(hb:blksUnder N Hc=true)
  (k:∀v H',R (.ret v) H'->TO false P n all rest ((d,v)::env) (H'++H.drop N) K)(kp:∀v H',R (.panic v) H'->K (.panic v) env (H'++H.drop N)):
  TO false P n all (⟨some d,.call { callee:=.value f,args:=#[x],argTypes:=ts },ty,pos,aft,none⟩::rest) env H K:=by
 have hr:∀j,j<N->names (List.range N) H.length j=j:=fun j hj=>names_range hj
 have hlen:Hc.length=N:=by rw[<-hc];simp;omega
 have hh:=hands_range hN hc hb
 refine TO.yield (R:=fun r H'=>∃H0,R r H0/\H'=H0++H.drop N) (arg:=arg) ?_ hd hf hx ?_ ?_
 ·intro m y r p h1 h2 h3 hp
  subst h1
  have lies:=lies_cut h2 hh
  have hp':(cutM m (List.range N) Hc).β[id]?=some p:=by
   simp[cutM,hid,hp]
  obtain⟨fn,tmps,aas,bo,g1,g2⟩:=hs (cutM m (List.range N) Hc) y r p rfl (lies.hrel h2) (lies.srel_down (by rw[ren_under hr arg hu];exact h3) (by show arg.under Hc.length=true;rw[hlen];exact hu)) hp'
  refine⟨fn,tmps,aas,bo,g1,g2.mono ?_⟩
  rintro e w' ⟨mc',res,rfl,s,hmc,hres,hR⟩
  obtain⟨st,hbk⟩:=back_ok h2 hh s hmc
  have fact:∀v,v.under N=true->mc'.H.length=N->blksUnder N mc'.H=true->(∀z,SRel mc' v z->SRel (back m mc' (List.range N)) v z)/\(back m mc' (List.range N)).H=mc'.H++m.H.drop N:=by
   intro v q1 q2 q3
   refine⟨fun z hz=>?_,?_⟩
   ·have:=back_srel h2 hh hmc (by simp;omega) hz
    rw[ren_under hr v q1]at this
    exact this
   ·show patch m.H (List.range N) (mc'.H.map (Blk.ren (names (List.range N) m.H.length)))=_
    rw[blks_ren hr mc'.H q3,patch_range q2 hN]
  cases res with
  | ret v=>
    cases e with
    | returned z=>
      obtain⟨q1,q2,q3⟩:=hw.1 v _ hR
      obtain⟨f1,f2⟩:=fact v q1 q2 q3
      exact⟨back m mc' (List.range N),.ret v,rfl,st,hbk,f1 z hres,mc'.H,hR,f2⟩
    | _=>simp[ResRel]at hres
  | panic v=>
    cases e with
    | panicked ch=>
      obtain⟨q1,q2,q3⟩:=hw.2 v _ hR
      obtain⟨f1,f2⟩:=fact v q1 q2 q3
      obtain⟨z,hz1,hz2⟩:=hres
      exact⟨back m mc' (List.range N),.panic v,rfl,st,hbk,⟨z,hz1,f1 z hz2⟩,mc'.H,hR,f2⟩
    | _=>simp[ResRel]at hres
 ·rintro v H' ⟨H0,h,rfl⟩;exact k v H0 h
 ·rintro v H' ⟨H0,h,rfl⟩;exact kp v H0 h
end rules
def ModeRel(m:M):Option SV->FrameMode->Prop
 | none,u=>u= .returning
 | some v,u=>∃x,u= .panicking [{ v:=x,recovered:=false }]/\SRel m v x
def DSound(P:Program)(f:FuncId)(args:List SV)(H:Heap)(pv:Option SV)(R:Heap->Prop):Prop:=
 Callable P f/\∀(m:M) (vs:Array Value) (u:FrameMode),m.H=H->HRel m->ARel m args vs->ModeRel m pv u->
  CallsDIn (Fr none) 0 P f vs u m.w fun e u' w'=>(∃y,e= .returned y)/\settle u'= .returning/\∃m':M,m'.w=w'/\Step m m'/\HRel m'/\R m'.H
def KDone(N:Nat)(R:Heap->Prop):TK
 | .normal,_,H=>N≤H.length/\blksUnder N (H.take N)=true/\R (H.take N)
 | .ret,_,H=>N≤H.length/\blksUnder N (H.take N)=true/\R (H.take N)
 | _,_,_=>False
theorem steps_marks{P:Program}{cs:List Frame}{s0:Nat}{w0:World}:∀(ks:List Nat) (w:World) (fr:Frame),Shut s0 w0 w->fr.mode≠ .run->fr.defers=ks.map mark->ks.Nodup->(∀k∈ks,s0≤k/\w.heap[k]?=some (.deferred (some [])))->
  ∃w',Shut s0 w0 w'/\StepsIn (fun _=>True) P (lone fr cs w) (lone { fr with defers:=[] } cs w')
 | [],w,fr,hs,hm,hd,_,_=>⟨w,hs,by
     have:({ fr with defers:=[] }:Frame)=fr:=by cases fr;simp at hd;simp[hd]
     rw[this];exact .refl _⟩
 | k::ks,w,fr,hs,hm,hd,hn,hk=>by
   obtain⟨hk1,hk2⟩:=hk k List.mem_cons_self
   have hn':=List.nodup_cons.1 hn
   have h1:=step_collected (P:=P) (cs:=cs) (fr:=fr) (r:=k) hm hd rfl (run_takeDeferred hk2)
   obtain⟨w',g1,g2⟩:=steps_marks (P:=P) (cs:=cs) ks _ { fr with defers:=[]++ks.map mark } (hs.put hk1 hk2 none) hm rfl hn'.2 (fun k' hk'=>by
    obtain⟨q1,q2⟩:=hk k' (List.mem_cons_of_mem _ hk')
    exact⟨q1,by rw[World.putObj_heap_other (by intro e;subst e;exact hn'.1 hk')];exact q2⟩)
   exact⟨w',g1,.head trivial h1 g2⟩
theorem DSound.of{P:Program}{tab:Tab}{f:FuncId}{fn:Func}{c':Code}{args:List SV}{H:Heap}{pv:Option SV}{R:Heap->Prop}{id d:Nat}{ty:TypeId}{pos:String}{aft:Array Edge}{rest:List Oper}
  (hf:P.funcs[f]?=some fn)(hn:(fn.name == "runtime.NumGoroutine")=false)
  (hb:fn.body=some (.seq (.region id (⟨some d,.call { callee:=.builtin .recover,args:=#[],argTypes:=#[] },ty,pos,aft,none⟩::rest).toArray false) c'))
  (hres:fn.results= #[])(ha:Nat.ble args.length fn.ntmps=true)(hd:Nat.ble (d+1) fn.ntmps=true)
  (h:TO false P fn.ntmps (⟨some d,.call { callee:=.builtin .recover,args:=#[],argTypes:=#[] },ty,pos,aft,none⟩::rest).toArray rest ((d,pv.getD (.t (.v .nilIface)))::argEnv 0 args) H (Then P fn.ntmps c' (KDone H.length R))):DSound P f args H pv R:=by
 refine⟨⟨fn,hf,hn,by rw[hb];rfl⟩,fun m vs u h1 h2 h3 hu=>?_⟩
 subst h1
 have hal:=Nat.le_of_ble_eq_true ha
 have hE:ERel m fn.ntmps (argEnv 0 args) (vs++Array.replicate (fn.ntmps-vs.size) undef):=by
  refine⟨by simp[h3.1];omega,fun i v hv=>?_⟩
  obtain⟨g1,g2⟩:=argEnv_look _ _ _ _ hv
  have hi:=(List.getElem?_eq_some_iff.1 g2).1
  have hvi:vs[i]?=some (vs[i]'(by rw[h3.1];omega)):=Array.getElem?_eq_getElem _
  exact⟨_,by rw[Array.getElem?_append_left (by rw[h3.1];omega)];exact hvi,h3.2 i v _ (by simpa using g2) hvi⟩
 refine⟨trivial,fun c₀ cs hc₀ hroom=>?_⟩
 let b:Frame:={ (default:Frame)with fn:=f,kind:=.deferred,roundOf:=none }
 let a0:Act:={ tmps:=vs++Array.replicate (fn.ntmps-vs.size) undef,defers:=[] }
 have henter:Frame.enter P f vs .deferred=b.atR a0 [.code (.seq (.region id (⟨some d,.call { callee:=.builtin .recover,args:=#[],argTypes:=#[] },ty,pos,aft,none⟩::rest).toArray false) c')]:=by
  simp[Frame.enter,Frame.atR,hf,hb,b,a0]
 obtain⟨x,u',hrec,hx,hset⟩:∃x u',(∀cs',((recoverD (c₀::cs')=some (x,{ c₀ with mode:=u' }::cs'))\/(recoverD (c₀::cs')=none/\x= .nilIface/\u'=c₀.mode)))/\SRel m (pv.getD (.t (.v .nilIface))) x/\settle u'= .returning:=by
  cases pv with
  | none=>
    simp only[ModeRel]at hu
    refine⟨.nilIface,c₀.mode,fun cs'=>.inr ⟨by simp[recoverD,hc₀,hu],rfl,rfl⟩,.t _ _ (.v _),by rw[hc₀,hu];rfl⟩
  | some v=>
    obtain⟨x,hux,hxx⟩:=hu
    exact⟨x,.panicking [{ v:=x,recovered:=true }],fun cs'=>.inl (by simp[recoverD,hc₀,hux]),hxx,by simp[settle]⟩
 have hD:DefOk ⟨none,m.w.heap.size,[]⟩ m.w ([]:List Deferred):=⟨⟨[],rfl,fun _=>rfl,List.nodup_nil,by simp⟩,Nat.le_refl _,fun l hl=>by cases hl⟩
 have hto:=h ⟨none,m.w.heap.size,[]⟩ m (a0.put (some d) x) rfl h2 (ERel.put (a:=a0) d hE (Nat.le_of_ble_eq_true hd) hx) hD
 generalize hall:(⟨some d,.call { callee:=.builtin .recover,args:=#[],argTypes:=#[] },ty,pos,aft,none⟩::rest:List Oper).toArray=all at*
 have h0:all[0]?=some ⟨some d,.call { callee:=.builtin .recover,args:=#[],argTypes:=#[] },ty,pos,aft,none⟩:=by rw[<-hall];simp
 have hsz:all.size=rest.length+1:=by rw[<-hall];simp
 have hops:wpOpsIn (Fr none) 0 P all (Post ⟨none,m.w.heap.size,[]⟩ m fn.ntmps (Then P fn.ntmps c' (KDone m.H.length R))) (List.range' 1 rest.length) (a0.put (some d) x) m.w:=by
  rw[wpOpsIn_eq_wpListIn rest 1 (fun j=>by rw[<-hall];simp[Nat.add_comm 1 j])]
  exact hto
 have wide:∀ {x y:Machine},StepsIn (fun _=>True) P x y->StepsIn (Machine.fenced P (Fr none)) P x y:=fun h=>stepsIn_wide.2 (steps_iff.2 h)
 obtain⟨e1,a1,w1,hq1,harr1⟩:=wp_opsIn (F:=Fr none) (n:=0) _ _ _ hops b [.code c'] ({ c₀ with mode:=u' }::cs) rfl trivial (room_wide _)
 have harr1':=arrives_mono (I':=fun _=>True) (fun _ _=>trivial) harr1
 have hstep:step P (lone (b.atR a0 (.inRegion all (0::List.range' 1 rest.length)::[.code c'])) (c₀::cs) m.w)= .next (lone (b.atR (a0.put (some d) x) (.inRegion all (List.range' 1 rest.length)::[.code c'])) ({ c₀ with mode:=u' }::cs) m.w):=by
  have hg:=stepGR_op (P:=P) (b:=b) (a:=a0) (k:=[.code c']) (cs:=c₀::cs) (w:=m.w) (i:=0) (rest:=List.range' 1 rest.length) h0 (by simp[Region.wanted])
  have hfin:∀v,(b.atR a0 (.inRegion all (0::List.range' 1 rest.length)::[.code c'])).finish v=b.atR (a0.put (some d) v) (.inRegion all (List.range' 1 rest.length)::[.code c']):=by
   intro v;rw[Frame.finish_atR,h0];rfl
  have hr:(execOp a0.eval ⟨some d,.call { callee:=.builtin .recover,args:=#[],argTypes:=#[] },ty,pos,aft,none⟩).run P m.w= .ok .recover m.w:=by
   simp[execOp,resolve,invoke,builtin]
  have hk:(b.atR a0 (.inRegion all (0::List.range' 1 rest.length)::[.code c'])).kind= .deferred:=rfl
  have htr:=tryRecover_deferred hk (c₀::cs)
  refine step_lone_go ?_
  rw[hg,<-hfin]
  simp only[Frame.atR,b]at htr⊢
  rcases hrec cs with hr1|⟨hr1,hr2,hr3⟩
  ·simp[stepG.apply,Oper.semAt_none,hr,htr,hr1]
  ·have hc:({ c₀ with mode:=u' }:Frame)=c₀:=by rw[hr3]
   rw[hc]
   simp only[stepG.apply,Oper.semAt_none,hr,htr,hr1,hr2,Sem.runT_eq,GStep.bare_after]
   rfl
 have s0:StepsIn (fun _=>True) P (lone (Frame.enter P f vs .deferred) (c₀::cs) m.w) (lone (b.atR (a0.put (some d) x) (.inRegion all (List.range' 1 rest.length)::[.code c'])) ({ c₀ with mode:=u' }::cs) m.w):=by
  rw[henter]
  refine .head trivial stepR_seq (.head trivial stepR_region ?_)
  rw[hsz,List.range_eq_range',List.range'_succ]
  exact .one trivial hstep
 have fin:∀(m2:M) (a2:Act),Step m m2->HRel m2->DefOk ⟨none,m.w.heap.size,[]⟩ m2.w a2.defers->m.H.length≤m2.H.length/\blksUnder m.H.length (m2.H.take m.H.length)=true/\R (m2.H.take m.H.length)->∀todo,
   StepsIn (fun _=>True) P (lone (Frame.enter P f vs .deferred) (c₀::cs) m.w) (lone { b.atR a2 todo with mode:=.returning } ({ c₀ with mode:=u' }::cs) m2.w)->
   ∃e u'' w' fr,((∃y,e=Ending.returned y)/\settle u''= .returning/\∃m':M,m'.w=w'/\Step m m'/\HRel m'/\R m'.H)/\
    ComesIn (Machine.fenced P (Fr none)) P (lone (Frame.enter P f vs .deferred) (c₀::cs) m.w) (lone fr ({ c₀ with mode:=u'' }::cs) w') e/\fr.kind= .deferred/\fr.fn=f/\fr.going P w' e:=by
  intro m2 a2 st hm2 hdef hR todo hs
  obtain⟨⟨ks,hd1,_,hd2,hd3⟩,_,_⟩:=hdef
  simp only[List.append_nil]at hd1
  obtain⟨w',hsh,hs2⟩:=steps_marks (P:=P) (cs:={ c₀ with mode:=u' }::cs) (s0:=m.w.heap.size) (w0:=m2.w) ks m2.w { b.atR a2 todo with mode:=.returning } (.refl _ _) (by simp) hd1 hd2 hd3
  obtain⟨s2,hm3⟩:=hsh.ok hm2 st
  obtain⟨c1,c2,_⟩:=cut_ok hm3 s2 (k:=m.H.length) hR.1 (by rw[h2.len];exact Nat.le_refl _) hR.2.1
  refine⟨.returned (.tuple #[]),u',w',_,⟨⟨_,rfl⟩,hset,_,rfl,c1,c2,hR.2.2⟩,wide (hs.trans hs2),rfl,rfl,rfl,rfl,fn,hf,?_⟩
  simp[results,hres]
 obtain⟨m1,env1,te1,rfl,st1,hm1,he1,hd1,hx1,hK1⟩:=hq1
 cases te1 with
 | normal=>
   cases e1 <;> simp[ExRel]at hx1
   have hK1':TR P fn.ntmps c' env1 m1.H (KDone m.H.length R):=hK1
   obtain⟨e2,a2,w2,⟨m2,env2,te2,rfl,st2,hm2,he2,hd2,hx2,hK2⟩,harr2⟩:=hK1' ⟨none,m.w.heap.size,[]⟩ m1 a1 rfl hm1 he1 hd1 b [] ({ c₀ with mode:=u' }::cs) rfl (by simp[b,hf])
   have s1:StepsIn (fun _=>True) P (lone (Frame.enter P f vs .deferred) (c₀::cs) m.w) (lone (b.atR a1 [.code c']) ({ c₀ with mode:=u' }::cs) m1.w):=s0.trans harr1'
   cases te2 with
   | normal=>
     cases e2 <;> simp[ExRel]at hx2
     exact fin m2 a2 (st1.trans st2) hm2 hd2 hK2 [] (s1.trans (StepsIn.trans harr2 (.one trivial (stepR_end rfl))))
   | ret=>
     cases e2 <;> simp[ExRel]at hx2
     obtain⟨todo,hs⟩:=harr2.1 rfl
     exact fin m2 a2 (st1.trans st2) hm2 hd2 hK2 todo (s1.trans hs)
   | exit i=>exact hK2.elim
   | panic v=>exact hK2.elim
 | ret=>
   cases e1 <;> simp[ExRel]at hx1
   obtain⟨todo,hs⟩:=harr1'.1 rfl
   exact fin m1 a1 st1 hm1 hd1 hK1 todo (s0.trans hs)
 | exit i=>exact hK1.elim
 | panic v=>exact hK1.elim
def DefD(m:M)(gf:FuncId)(cv:List SV)(d:Deferred):Prop:=∃arr,d= { target:=.fn (.func gf) arr,args:=#[] }/\ARel m cv arr
def PostD(s0:Nat)(m:M)(n:Nat)(K:TK)(gf:FuncId)(cv:List SV)(KD:TK)(e:Exit)(a:Act)(w:World):Prop:=
 Post ⟨none,s0,[]⟩ m n K e a w\/
 ∃(m':M) (env:Env) (te:TExit) (ks' ks:List Nat) (d:Deferred),m'.w=w/\Step m m'/\HRel m'/\ERel m' n env a.tmps/\a.defers=ks'.map mark++d::ks.map mark/\(ks'++ks).Nodup/\
  (∀k∈ks'++ks,s0≤k/\m'.w.heap[k]?=some (.deferred (some [])))/\DefD m' gf cv d/\ExRel m' te e/\KD te env m'.H
def TD(P:Program)(n:Nat)(c:Code)(env:Env)(H:Heap)(K:TK)(gf:FuncId)(cv:List SV)(KD:TK):Prop:=
 ∀(s0:Nat) (m:M) (a:Act),m.H=H->HRel m->ERel m n env a.tmps->DefOk ⟨none,s0,[]⟩ m.w a.defers->Code.wpr P none c (PostD s0 m n K gf cv KD) a m.w
def ThenD(P:Program)(n:Nat)(c:Code)(K:TK)(gf:FuncId)(cv:List SV)(KD:TK):TK
 | .normal,env,H=>TD P n c env H K gf cv KD
 | e,env,H=>K e env H
section rules
variable {P:Program}{n:Nat}{env:Env}{H:Heap}{K KD:TK}{gf:FuncId}{cv:List SV}
theorem PostD.step{s0:Nat}{m m':M}(s:Step m m'){e:Exit}{a:Act}{w:World}(h:PostD s0 m' n K gf cv KD e a w):PostD s0 m n K gf cv KD e a w:=by
 rcases h with h|⟨m2,env2,te,ks',ks,d,h1,h2,h3⟩
 ·exact .inl (h.step s)
 ·exact .inr ⟨m2,env2,te,ks',ks,d,h1,s.trans h2,h3⟩
theorem TD.seq{x y:Code}(h:TR P n x env H (ThenD P n y K gf cv KD)):TD P n (.seq x y) env H K gf cv KD:=by
 intro s0 m a h1 h2 h3 h4
 refine wpr_seq (wpr_mono (h ⟨none,s0,[]⟩ m a h1 h2 h3 h4) ?_)
 rintro e a' w ⟨m2,env2,te,rfl,s,hm,he,hd,hx,hk⟩
 cases te with
 | normal=>
   cases e <;> simp[ExRel]at hx
   exact wpr_mono (hk s0 m2 a' rfl hm he hd) fun _ _ _ hp=>hp.step s
 | exit i=>cases e <;> simp[ExRel]at hx;exact .inl ⟨m2,env2,.exit i,rfl,s,hm,he,hd,hx,hk⟩
 | ret=>cases e <;> simp[ExRel]at hx;exact .inl ⟨m2,env2,.ret,rfl,s,hm,he,hd,trivial,hk⟩
 | panic v=>
   cases e with
   | panic ch=>exact .inl ⟨m2,env2,.panic v,rfl,s,hm,he,hd,hx,hk⟩
   | _=>simp[ExRel]at hx
theorem TD.defer{id t:Nat}{caps:Array Operand}{c2:Code}{ty ty' tz:TypeId}{pos pos':String}{aft aft':Array Edge}{ts:Array TypeId}(ht:Nat.ble (t+1) n=true)(hv:caps.toList.mapM env.val=some cv)
  (h:TR P n c2 ((t,.fn gf cv)::env) H KD):
  TD P n (.seq (.region id [⟨some t,.makeFunc (.func gf) #[] caps,ty,pos,aft,none⟩,⟨none,.defer { callee:=.value (.tmp t),args:=#[],argTypes:=ts },ty',pos',aft',none⟩].toArray false) c2) env H K gf cv KD:=by
 intro s0 m a h1 h2 h3 h4
 have hcl:SRel m (.fn gf cv) (.func (.func gf) #[] (caps.map a.eval)):=by
  have hl:∀(l:List Operand) (vs:List SV),l.mapM env.val=some vs->l.length=vs.length/\∀(i:Nat) c,vs[i]?=some c->∃o,l[i]?=some o/\env.val o=some c:=by
   intro l
   induction l with
   | nil=>intro vs h;simp at h;subst h;simp
   | cons x l ih=>
     intro vs h
     simp only[List.mapM_cons]at h
     cases hx:env.val x with
     | none=>rw[hx]at h;cases h
     | some v=>
       rw[hx]at h
       cases hq:(l.mapM env.val:Option (List SV)) with
       | none=>rw[hq]at h;cases h
       | some us=>
         rw[hq]at h;cases h
         obtain⟨g1,g2⟩:=ih us hq
         refine⟨by simp[g1],fun i c hc=>?_⟩
         cases i with
         | zero=>simp at hc;subst hc;exact⟨x,rfl,hx⟩
         | succ i=>simpa using g2 i c (by simpa using hc)
  obtain⟨g1,g2⟩:=hl _ _ hv
  refine .fn gf cv _ (by simp;simpa using g1) fun i c y hc hy=>?_
  obtain⟨o,ho,hvo⟩:=g2 i c hc
  have ho':caps[i]?=some o:=by simpa using ho
  simp only[Array.getElem?_map,ho',Option.map_some,Option.some.injEq]at hy
  subst hy
  exact h3.val hvo
 obtain⟨⟨ks,hd1,_,hd2,hd3⟩,hd4,_⟩:=h4
 simp only[List.append_nil]at hd1
 have hcl2:=hcl
 generalize hq:(caps.map a.eval)=arr at hcl
 have harr:ARel m cv arr:=by
  cases hcl with
  | fn _ _ _ hs hr=>exact⟨hs,fun i s x hsx hx=>hr i s x hsx hx⟩
 let a1:Act:=a.put (some t) (.func (.func gf) #[] arr)
 let d:Deferred:={ target:=.fn (.func gf) arr,args:=#[] }
 let a2:Act:={ tmps:=a1.tmps,defers:=d::a1.defers }
 have hE:ERel m n ((t,.fn gf cv)::env) a2.tmps:=h3.put t (Nat.le_of_ble_eq_true ht) hcl
 have hrun2:(execOp a1.eval ⟨none,.defer { callee:=.value (.tmp t),args:=#[],argTypes:=ts },ty',pos',aft',none⟩).run P m.w= .ok (.defer d) m.w:=by
  have he:a1.eval (.tmp t)= .func (.func gf) #[] arr:=by
   obtain⟨x,x1,x2⟩:=(h3.put t (Nat.le_of_ble_eq_true ht) hcl).2 t _ (Env.look_cons_same t _ env)
   have hlt:t<a.tmps.size:=by rw[h3.1];exact Nat.le_of_ble_eq_true ht
   simp[a1,Act.put,Act.eval,Array.getElem?_setIfInBounds,hlt]
  simp[execOp,resolve,he,Deferred.ofValue,d]
 refine wpr_seq (wpr_of_in (wpIn_region_lit ?_))
 refine wpListIn_plain rfl fun K' hK=>?_
 unfold Oper.wpIn
 refine⟨fun _ _=>trivial,?_⟩
 rw[semAt_val (x:=.value (.func (.func gf) #[] arr)) (w':=m.w) (by simp[execOp,Instr.makeFunc,hq]) (by intro d e;cases e)]
 simp only[Oper.uponIn]
 refine hK _ _ ?_
 refine wpListIn_plain rfl fun K2 hK2=>?_
 unfold Oper.wpIn
 refine⟨fun _ _=>trivial,?_⟩
 have hsem:(Oper.semAt (Fr none).round a1.eval ⟨none,.defer { callee:=.value (.tmp t),args:=#[],argTypes:=ts },ty',pos',aft',none⟩).run P m.w= .ok (.defer d) m.w:=hrun2
 rw[show(a.put (some t) (.func (.func gf) #[] arr))=a1 from rfl,hsem]
 simp only[Oper.uponIn]
 refine hK2 _ _ ?_
 show wpListIn (Fr none) 0 P _ _ [] a2 m.w
 have hsize:∀k∈ks,k<m.w.heap.size:=fun k hk=>(Array.getElem?_eq_some_iff.1 (hd3 k hk).2).1
 refine wpListIn_nil (wpr_mono (h ⟨none,m.w.heap.size,d::ks.map mark⟩ m a2 h1 h2 hE ⟨⟨[],by simp[a2,a1,Act.put,hd1],fun _=>rfl,List.nodup_nil,by simp⟩,Nat.le_refl _,fun l hl=>by cases hl⟩) ?_)
 rintro e a' w ⟨m2,env2,te,rfl,s,hm,he,⟨⟨ks',hd1',_,hd2',hd3'⟩,_,_⟩,hx,hk⟩
 refine .inr ⟨m2,env2,te,ks',ks,d,rfl,s,hm,he,hd1',?_,fun k hk=>?_,⟨arr,rfl,harr.1,fun i c y hc hy=>s.srel h2 (harr.2 i c y hc hy)⟩,hx,hk⟩
 ·refine List.nodup_append.2 ⟨hd2',hd2,fun x hx y hy e=>?_⟩
  subst e
  have:=(hd3' x hx).1
  have:=hsize x hy
  simp only at*
  omega
 ·rcases List.mem_append.1 hk with hk|hk
  ·exact⟨Nat.le_trans hd4 (hd3' k hk).1,(hd3' k hk).2⟩
  ·exact⟨(hd3 k hk).1,by rw[s.block k (hsize k hk) (noOwn h2 (hd3 k hk).2)];exact(hd3 k hk).2⟩
def KDef(P:Program)(tab:Tab)(rs:List ResultVar)(N:Nat)(R:Res->Heap->Prop)(gf:FuncId)(cv:List SV):TK
 | .normal,env,H=>∃RH,DSound P gf cv H none RH/\∀H3,RH H3->RetK tab rs N R .ret env H3
 | .ret,env,H=>∃RH,DSound P gf cv H none RH/\∀H3,RH H3->RetK tab rs N R .ret env H3
 | .panic v,env,H=>∃RH,DSound P gf cv H (some v) RH/\∀H3,RH H3->RetK tab rs N R .ret env H3
 | .exit _,_,_=>False
theorem Sound.ofDefer{tab:Tab}(hT:TabOk P tab){f:FuncId}{fn:Func}{c:Code}{args:List SV}{R:Res->Heap->Prop}(hf:P.funcs[f]?=some fn)(hn:(fn.name == "runtime.NumGoroutine")=false)(hb:fn.body=some c)
  (ha:Nat.ble args.length fn.ntmps=true)(h:TD P fn.ntmps c (argEnv 0 args) H (RetK tab fn.results.toList H.length R) gf cv (KDef P tab fn.results.toList H.length R gf cv)):Sound P f args H R:=by
 refine⟨⟨fn,hf,hn,by rw[hb];rfl⟩,fun m vs h1 h2 h3=>?_⟩
 have hal:=Nat.le_of_ble_eq_true ha
 refine calls_of_wpr hf hb (wpr_mono (h m.w.heap.size m _ h1 h2 ⟨by simp[h3.1];omega,fun i v hv=>?_⟩ ⟨⟨[],rfl,fun _=>rfl,List.nodup_nil,by simp⟩,Nat.le_refl _,fun l hl=>by cases hl⟩) ?_)
 ·obtain⟨g1,g2⟩:=argEnv_look _ _ _ _ hv
  have hi:=(List.getElem?_eq_some_iff.1 g2).1
  have hvi:vs[i]?=some (vs[i]'(by rw[h3.1];omega)):=Array.getElem?_eq_getElem _
  exact⟨_,by rw[Array.getElem?_append_left (by rw[h3.1];omega)];exact hvi,h3.2 i v _ (by simpa using g2) hvi⟩
 ·rintro e a' w' (hp|⟨m',env,te,ks',ks,d,rfl,s,hm',he,hd,hnd,hks,⟨arr,rfl,harr⟩,hx,hK⟩)
  ·exact post_body hT h1 h2 rfl hp
  ·have fin:∀(m3:M) vs v k,Step m m3->HRel m3->ERel m3 fn.ntmps env a'.tmps->resAll tab env m3.H fn.results.toList=some vs->Le (pack vs) v->H.length≤k->k≤m3.H.length->v.under k=true->blksUnder k (m3.H.take k)=true->R (.ret v) (m3.H.take k)->
     ∀w'',Shut m.w.heap.size m3.w w''->∃v,(results fn a'.tmps).run P w''= .ok v w''/\∃(m2:M) (r:Res),m2.w=w''/\Step m m2/\HRel m2/\ResRel m2 r (.returned v)/\R r m2.H:=by
    intro m3 vs v k s3 hm3 he3 g1 g2 g3 g4 g5 g6 g7 w'' hsh
    obtain⟨s2,hm2⟩:=hsh.ok hm3 s3
    have he2:ERel ⟨m3.A,m3.β,m3.H,w''⟩ fn.ntmps env a'.tmps:=⟨he3.1,fun i v hv=>let ⟨x,x1,x2⟩:=he3.2 i v hv;⟨x,x1,hsh.srel x2⟩⟩
    obtain⟨x,hr,hp⟩:=results_run hT hm2 he2 g1
    obtain⟨c1,c2,c3⟩:=cut_ok hm2 s2 g4 (by rw[h2.len,h1];exact g3) g6
    exact⟨x,hr,_,.ret v,rfl,c1,c2,c3 _ _ g5 (g2 _ _ hp),g7⟩
   have hnd':=List.nodup_append.1 hnd
   have go:∀(u:FrameMode) (pv:Option SV) (RH:Heap->Prop),u≠ .run->ModeRel m' pv u->DSound P gf cv m'.H pv RH->(∀H3,RH H3->RetK tab fn.results.toList H.length R .ret env H3)->
     LeavesInM (Fr none) 0 P fn a'.tmps (fun e w'=>∃(m':M) (r:Res),m'.w=w'/\Step m m'/\HRel m'/\ResRel m' r e/\R r m'.H) a'.defers u m'.w:=by
    intro u pv RH hu hmode hS hR
    rw[hd]
    refine leaves_marks hu ks' m'.w (.refl _ _) hnd'.1 (fun k hk=>hks k (List.mem_append_left _ hk)) fun w1 hw1 hkeep=>?_
    obtain⟨s1,hm1⟩:=hw1.ok hm' s
    obtain⟨⟨fng,q1,q2,q3⟩,hcalls⟩:=hS
    have q2':¬fng.name= "runtime.NumGoroutine":=by simpa using q2
    have q3':¬fng.body=none:=by intro e;simp[e]at q3
    refine⟨hu,.inr ⟨fun h=>by simp[Fence.wide]at h,.func gf,arr,gf,arr,rfl,?_,fun _ _=>trivial,?_⟩⟩
    ·simp[invoke,callFunc,q1,q2',q3']
    ·have harr1:ARel ⟨m'.A,m'.β,m'.H,w1⟩ cv arr:=⟨harr.1,fun i c y hc hy=>hw1.srel (harr.2 i c y hc hy)⟩
     have hmode1:ModeRel ⟨m'.A,m'.β,m'.H,w1⟩ pv u:=by
      cases pv with
      | none=>exact hmode
      | some v=>obtain⟨x,x1,x2⟩:=hmode;exact⟨x,x1,hw1.srel x2⟩
     have hc:=hcalls ⟨m'.A,m'.β,m'.H,w1⟩ arr u rfl hm1 harr1 hmode1
     refine⟨trivial,fun c0 cs hc0 hroom=>?_⟩
     obtain⟨e,u',w2,fr,⟨⟨y,rfl⟩,hset,m3,rfl,s3,hm3,hRH⟩,g1,g2,g3,g4⟩:=hc.2 c0 cs hc0 hroom
     refine⟨.returned y,u',m3.w,fr,?_,g1,g2,g3,g4⟩
     show LeavesInM (Fr none) 0 P fn a'.tmps _ (ks.map mark) (settle u') m3.w
     rw[hset,<-List.append_nil (ks.map mark)]
     have hks3:∀k∈ks,m.w.heap.size≤k/\m3.w.heap[k]?=some (.deferred (some [])):=by
      intro k hk
      obtain⟨f1,f2⟩:=hks k (List.mem_append_right _ hk)
      have hnk:k ∉ ks':=fun h=>hnd'.2.2 k h k hk rfl
      have f3:w1.heap[k]?=some (.deferred (some [])):=(hkeep k hnk).trans f2
      exact⟨f1,by rw[s3.block k (Array.getElem?_eq_some_iff.1 f3).1 (noOwn hm1 f3)];exact f3⟩
     refine leaves_marks (by simp) ks m3.w (.refl _ _) hnd'.2.1 hks3 fun w4 hw4 _=>?_
     obtain⟨vs,v,k,p1,p2,p3,p4,p5,p6,p7⟩:=hR _ hRH
     have he1:ERel ⟨m'.A,m'.β,m'.H,w1⟩ fn.ntmps env a'.tmps:=⟨he.1,fun i v hv=>let ⟨x,x1,x2⟩:=he.2 i v hv;⟨x,x1,hw1.srel x2⟩⟩
     exact fin m3 vs v k (s1.trans s3) hm3 (he1.step hm1 s3) p1 p2 p3 p4 p5 p6 p7 w4 hw4
   cases te with
   | normal=>
     cases e <;> simp[ExRel]at hx
     obtain⟨RH,k1,k2⟩:=hK
     exact go .returning none RH (by simp) rfl k1 k2
   | ret=>
     cases e <;> simp[ExRel]at hx
     obtain⟨RH,k1,k2⟩:=hK
     exact go .returning none RH (by simp) rfl k1 k2
   | panic v=>
     cases e with
     | panic ch=>
       obtain⟨x,rfl,hux⟩:=hx
       obtain⟨RH,k1,k2⟩:=hK
       exact go (.panicking _) (some v) RH (by simp) ⟨x,rfl,hux⟩ k1 k2
     | _=>simp[ExRel]at hx
   | exit i=>exact hK.elim
end rules
end Go.TL
