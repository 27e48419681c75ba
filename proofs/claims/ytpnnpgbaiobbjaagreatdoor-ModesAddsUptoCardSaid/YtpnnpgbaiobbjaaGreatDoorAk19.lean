import Derived.Test.YtpnnpgbaiobbjaaGreatDoorAk18
set_option linter.all false
namespace Go.TL
open Go
section rules
variable {P:Program}{n:Nat}{env:Env}{H:Heap}{K:TK}{all:Array Oper}{rest:List Oper}{tab:Tab}{q:Bool}
variable {d:Nat}{ty:TypeId}{pos:String}{aft:Array Edge}
theorem TO.zq4{f:FuncId}{bs:Array Operand}{vs:List SV}(hd:Nat.ble (d+1) n=true)(hv:env.vals bs.toList=some vs)(k:TO q P n all rest ((d,.bnd f vs)::env) H K):
  TO q P n all (⟨some d,.makeFunc (.func f) bs #[],ty,pos,aft,none⟩::rest) env H K:=
 TO.op hd (fun m ac g1 g2 g3=>⟨.func (.func f) (bs.map ac.eval) #[],fun w' hw'=>by simp[execOp,Instr.makeFunc],by
  obtain⟨h1,h2⟩:=g3.vals _ _ hv
  exact .bnd f vs _ (by simp[h1]) fun i c y hc hy=>h2 i c y hc (by simpa using hy)⟩) k
theorem Le.bnd{f:FuncId}{aas bs:List SV}(h:Les aas bs):Le (.bnd f aas) (.bnd f bs):=fun m x hx=>by
 cases hx with
 | bnd _ _ arr hs hr=>
   obtain⟨g1,g2⟩:=h.get
   refine .bnd f bs arr (by omega) fun i c y hc hy=>?_
   have hlt:=(qab.1 hc).1
   have ha:aas[i]?=some aas[i]:=qac (by omega)
   exact g2 i _ c ha hc _ _ (hr i _ y ha hy)
theorem zse{m:M}{ac:Act}(g:ERel m n env ac.tmps){f:Operand}{fid:FuncId}{bs:List SV}{args:Array Operand}{vs:List SV}(hf:env.val f=some (.bnd fid bs))(ha:env.vals args.toList=some vs):
  ∃arr,ac.eval f= .func (.func fid) arr #[]/\ARel m (bs++vs) (arr++args.map ac.eval):=by
 have h:=g.val hf
 generalize hq:ac.eval f=z at h
 cases h with
 | bnd _ _ arr hs hr=>
   obtain⟨g1,g2⟩:=g.vals _ _ ha
   refine⟨arr,rfl,by simp[g1,hs],fun i s x hs' hx=>?_⟩
   by_cases hi:i<bs.length
   ·rw[qaq hi]at hs'
    rw[qaY (by omega)]at hx
    exact hr _ s x hs' hx
   ·rw[qax (by omega)]at hs'
    rw[qa5 (by omega)]at hx
    exact g2 (i-bs.length) s x hs' (by rw[hs]at hx;simpa using hx)
theorem zoL{ac:Act}{f:Operand}{fid:FuncId}{arr:Array Value}{args:Array Operand}{ts:Array TypeId}{w:World}{dd:Option Tmp}(hf:ac.eval f= .func (.func fid) arr #[])(hc:Callable P fid):
  (execOp ac.eval ⟨dd,.call { callee:=.value f,args:=args,argTypes:=ts },ty,pos,aft,none⟩).run P w= .ok (.enter fid (arr++args.map ac.eval)) w:=by
 obtain⟨fn,h1,h2,h3⟩:=hc
 have h2':¬fn.name= "runtime.NumGoroutine":=by simpa using h2
 have h3':¬fn.body=none:=by intro e;simp[e]at h3
 simp[execOp,resolve,hf,Deferred.ofValue,invoke,callFunc,h1,h2',h3']
theorem TO.zul{cargs:List SV}{v:SV}{f:Operand}{fid:FuncId}{bs:List SV}{args:Array Operand}{ts:Array TypeId}{vs:List SV}(hs:Pure P fid cargs v)(hd:Nat.ble (d+1) n=true)
  (hf:env.val f=some (.bnd fid bs))(ha:env.vals args.toList=some vs)(hl:Les (bs++vs) cargs)(hu:unders 0 cargs=true)(hv:v.under 0=true)
  (k:TO false P n all rest ((d,v)::env) H K):
  TO false P n all (⟨some d,.call { callee:=.value f,args:=args,argTypes:=ts },ty,pos,aft,none⟩::rest) env H K:=by
 intro φ m ac h1 h2 h3 h4
 subst h1
 obtain⟨arr,hq,har⟩:=zse h3 hf ha
 have hh:=zk7 m.H
 have lies:=zg9 h2 hh
 have hl':Les (bs++vs) (rens (names [] m.H.length) cargs):=by rw[zjx _ hu];exact hl
 have harc:ARel (cutM m [] []) cargs (arr++args.map ac.eval):=by
  have h5:=har.le hl'
  exact zwcj
 have hcall:=hs.2 (cutM m [] []) _ rfl (lies.hrel h2) harc
 refine wpListIn_plain rfl fun K' hK=>?_
 unfold Oper.wpIn
 refine⟨fun _ _=>trivial,?_⟩
 rw[za3 (zoL hq hs.1) (by intro d e;cases e)]
 simp only[Oper.uponIn]
 refine⟨fun h=>by simp[Fence.wide]at h,zeE (Calls.mono hcall ?_)⟩
 rintro e w' ⟨mc',r,rfl,s,hmc,hr,hR,hR2⟩
 subst hR
 obtain⟨st,hb⟩:=zl7 h2 hh s hmc
 have hlc:([]:List Nat).length≤mc'.H.length:=qaK _
 cases e with
 | returned x=>
   have hbH:(back m mc' []).H=m.H:=by
    show patch m.H [] (mc'.H.map _)=m.H
    rw[hR2];simp[patch]
   refine hK _ _ (TO.zeT (m':=back m mc' []) st (k φ (back m mc' []) _ hbH hb ((h3.step h2 st).put d (qai hd) ?_) (by simpa [Act.put]using h4.step h2 st)))
   have:=zdu h2 hh hmc hlc hr
   rw[zby (N:=0) (fun j hj=>by omega) v hv]at this
   exact this
 | _=>simp[zbO]at hr
theorem TO.zo7(hT:zaA P tab){t e:TypeId}{i ie:TyI}{sz b c:Nat}{x y:Operand}(hd:Nat.ble (d+1) n=true)(ht:tab.get t=some i)(hk:i.k= .slice e)(he:tab.get e=some ie)(hs:ie.size=sz)(hpos:Nat.ble 1 sz=true)
  (hx:env.val x=some (.i (b:Int)))(hy:env.val y=some (.i (c:Int)))(hbc:b≤c)(h2:c≤10000000000)(hby:Nat.ble ie.bytes 4096=true)
  (k:TO false P n all rest ((d,.ms sz H.length 0 b)::env) (H++[.cells (zaX ie.zero c)]) K):TO false P n all (⟨some d,.makeSlice t x y,ty,pos,aft,none⟩::rest) env H K:=
 TO.eff hd (fun m ac g1 g2 g3=>by
  have hp':=qai hpos
  have hb':=qai hby
  obtain⟨ti,hti,hti1,hti2⟩:=(hT e ie he).info
  obtain⟨z,hz1,hz2,_,_⟩:=(hT e ie he).zero
  have hln:=(hT e ie he).len
  have hzl:z.cells.size=sz:=by
   exact zwft
  have hcm:c*ie.bytes≤10000000000*4096:=qb6 h2 hb'
  have hw:IntKind.i64.wrap (c:Int)=c:=zgp (by omega) (by omega)
  have hwb:IntKind.i64.wrap (b:Int)=b:=zgp (by omega) (by omega)
  have hbig2:¬((c:Int)<b):=by omega
  have hbig:¬(281474976710656<(ti.bytes:Int)*(c:Int)):=by
   rw[hti2,<-Int.natCast_mul,qcr];omega
  have hneg:¬((c:Int)<0):=by omega
  have hnegb:¬((b:Int)<0):=by omega
  obtain⟨arr,harr⟩:∃arr:Array Value,arr=Builtin.zeroCells z.cells c:=⟨_,rfl⟩
  have hrun:(Instr.makeSlice t (.int .i64 (b:Int)) (.int .i64 (c:Int))).run P m.w= .ok (.slice (some ⟨m.w.heap.size,0,none⟩) b c) (m.w.alloc (.cells arr e)):=by
   by_cases h0:c*sz=0
   ·have hc0:c=0:=by rcases Nat.mul_eq_zero.1 h0 with h|h <;> omega
    subst hc0
    have hb0:b=0:=by omega
    subst hb0
    have ha:arr= #[]:=by rw[harr];simp[Builtin.zeroCells]
    rw[ha]
    have hw0:IntKind.i64.wrap (0:Int)=0:=by decide
    simp[Instr.makeSlice,underlying,(hT t i ht).slice hk,(hT e ie he).sizeOf,asInt,asIntOf,hw0,typeInfo,hti,newRow,askRoom,roomBytes]
    refine congrArg (fun a=>m.w.alloc (Obj.cells a e)) ?_
    simp[Array.range]
   ·have hroom:¬140737488355328<c*ti.bytes:=by rw[hti2];omega
    have hc0:¬c=0:=by rintro rfl;simp at h0
    have hs0:¬sz=0:=by omega
    rw[harr]
    simp[Instr.makeSlice,underlying,(hT t i ht).slice hk,(hT e ie he).sizeOf,hs,asInt,asIntOf,hw,hwb,typeInfo,hti,hbig,hbig2,hneg,hnegb,hz1,newRow,askRoom,roomBytes,hroom,h0,hc0,hs0,Builtin.zeroCells,hzl]
  have hsize:arr.size=c*ie.zero.length:=by
   rw[harr,zbA,hzl,hln,hs]
  obtain⟨s,hm'⟩:=zjg g2 (ts:=ie.zero) (z:=z.cells) (e:=e) (arr:=arr) (c:=c) (N:=c) hz2 (by omega) (qag _) hsize (fun j hj=>by
   have hzz:z.cells.size=ie.zero.length:=by omega
   rw[harr,<-hzz]
   rw[<-hzz]at hj
   exact zd6 _ _ _ (by omega) hj)
  refine⟨.slice (some ⟨m.w.heap.size,0,none⟩) b c,⟨m.A,m.β++[⟨m.w.heap.size,0,arr.size⟩],m.H++[.cells (zaX ie.zero c)],m.w.alloc (.cells arr e)⟩,by simp[execOp,(g3.val hx).v_eq,(g3.val hy).v_eq,hrun],s,hm',by rw[<-g1],?_⟩
  rw[<-g1]
  refine .ms sz m.H.length 0 b c ⟨m.w.heap.size,0,arr.size⟩ (by simp[g2.len]) (by intro q;simp[tlOf]) hbc ?_
  show 0+0+c*sz=arr.size
  rw[hsize,hln,hs];omega) k
theorem TO.makeSlice(hT:zaA P tab){t e:TypeId}{i ie:TyI}{sz c:Nat}{x:Operand}(hd:Nat.ble (d+1) n=true)(ht:tab.get t=some i)(hk:i.k= .slice e)(he:tab.get e=some ie)(hs:ie.size=sz)(hpos:Nat.ble 1 sz=true)
  (hx:env.val x=some (.i (c:Int)))(h2:c≤10000000000)(hby:Nat.ble ie.bytes 4096=true)
  (k:TO false P n all rest ((d,.ms sz H.length 0 c)::env) (H++[.cells (zaX ie.zero c)]) K):TO false P n all (⟨some d,.makeSlice t x x,ty,pos,aft,none⟩::rest) env H K:=
 TO.zo7 hT hd ht hk he hs hpos hx hx (qag c) h2 hby k
theorem TO.zmi(hT:zaA P tab){t t' e:TypeId}{i ie:TyI}{sz id off len:Nat}{cs:List SV}{ys:List T}{x y:Operand}{vy:SV}{H':Heap}(hd:Nat.ble (d+1) n=true)(ht:tab.get t=some i)(hk:i.k= .slice e)
  (he:tab.get e=some ie)(hs:ie.size=sz)(hpos:Nat.ble 1 sz=true)(hx:env.val x=some (.ms sz id off len))(hH:H[id]?=some (.cells cs))(hy:env.val y=some vy)(hvy:vy.elems sz=some ys)
  (hlen:ys.length≤len)(hfit:off+ys.length*sz≤cs.length)(hH':H.set id (.cells (splice cs off ((ys.map T.cells).flatten.map .t)))=H')
  (k:TO false P n all rest ((d,.any)::env) H' K):TO false P n all (⟨some d,.call { callee:=.builtin .copy,args:=#[x,y],argTypes:=#[t,t'] },ty,pos,aft,none⟩::rest) env H K:=
 TO.eff hd (fun m ac g1 g2 g3=>by
  have hp':=qai hpos
  have hy':=(g3.val hy).elems hvy
  obtain⟨ad,cap',hq⟩:=hy'.zbz
  rw[hq]at hy'
  obtain⟨g,f0,f1,f2,f3⟩:=zbi (P:=P) hy' (by omega)
  have h:=g3.val hx
  generalize hz:ac.eval x=z at h
  cases h with
  | ms _ _ _ _ cap p hp hn hc hh=>
    have hH1:m.H[id]?=some (.cells cs):=by rw[g1];exact hH
    obtain⟨b1,b2,b3⟩:=g2.blk id p _ hp hH1
    have hmin:min ys.length len=ys.length:=qcn hlen
    obtain⟨l1,l2⟩:=zcO ys (fun e he=>by obtain⟨j,hj⟩:=qbd he;exact f2 j e hj)
    have hrun:(Builtin.copy_ #[t,t'] ty #[.slice (some ⟨p.b,p.lo+off,none⟩) len cap,ac.eval y]).run P m.w=
      ((storeCells ⟨p.b,p.lo+off,none⟩ ((List.range (ys.length*sz)).map g)).run P m.w).andThen fun _ w'=>.ok (goInt ys.length) w':=by
     rw[hq]
     simp[Builtin.copy_,underlying,(hT t i ht).slice hk,(hT e ie he).sizeOf,hs,Builtin.lenOf,hmin,f0 m.w rfl]
    by_cases h0:ys.length*sz=0
    ·have hys:ys=[]:=by
      exact zwej
     subst hys
     refine⟨goInt 0,m,?_,Step.refl m,g2,?_,.any _⟩
     ·simp[execOp,resolve,invoke,builtin,hz,hrun,storeCells]
     ·obtain⟨hlt,hg⟩:=qab.1 hH
      have h5:splice cs off ((List.map T.cells []).flatten.map .t)=cs:=by simp[splice]
      exact zwes
    ·obtain⟨s,hm'⟩:=zfZ g2 (off:=off) (vs:=(ys.map T.cells).flatten.map .t) (ys:=(List.range (ys.length*sz)).map g) hp hH1 (by rw[qaa,l1];omega) (by rw[qaa,l1];omega) (by rw[qaa,l1];simp) (fun v hv=>by simp at hv;obtain⟨q,hq,rfl⟩:=hv;exact f1 q hq) (fun j c v hc' hv=>by
      have hj:=(qab.1 hv).1
      simp at hj
      simp[hj]at hv
      subst hv
      rw[qau]at hc'
      obtain⟨d1,d2,d3⟩:=zfs (show 0<sz by omega) hj
      have hyq:ys[j / sz]?=some ys[j / sz]:=qac d1
      have hcl:=f2 _ _ hyq
      have hyc:(ys[j / sz]).cells[j % sz]?=some ((ys[j / sz]).cells[j % sz]'(by omega)):=qac (by omega)
      have:=l2 _ _ _ _ hyq hyc
      rw[d3]at this
      rw[this]at hc'
      cases hc'
      have hr:=f3 _ _ _ _ hyq hyc
      rw[d3]at hr
      exact .t _ _ hr)
     have hst:=run_storeCells_cells (P:=P) p.b (p.lo+off) ((List.range (ys.length*sz)).map g) 0 m.w (fun q hq=>(b2 _ (by omega) (by simp at hq;omega)).1) (fun q hq=>(b2 _ (by omega) (by simp at hq;omega)).2)
      (fun v hv=>by simp at hv;obtain⟨q,hq,rfl⟩:=hv;exact f1 q hq)
     refine⟨goInt ys.length,_,?_,s,hm',by rw[g1];exact hH',.any _⟩
     rw[hst]at hrun
     simp[execOp,resolve,invoke,builtin,hz,hrun]) k
theorem TO.zpX(hT:zaA P tab){t t' e:TypeId}{i ie:TyI}{sz:Nat}{x y:Operand}{vx vy:SV}(hd:Nat.ble (d+1) n=true)(ht:tab.get t=some i)(hk:i.k= .slice e)
  (he:tab.get e=some ie)(hs:ie.size=sz)(hpos:Nat.ble 1 sz=true)(hx:env.val x=some vx)(hvx:vx.elems sz=some [])(hy:env.val y=some vy)(hvy:vy.elems sz=some [])
  (k:TO false P n all rest ((d,.any)::env) H K):TO false P n all (⟨some d,.call { callee:=.builtin .copy,args:=#[x,y],argTypes:=#[t,t'] },ty,pos,aft,none⟩::rest) env H K:=
 TO.eff hd (fun m ac g1 g2 g3=>by
  have hp':=qai hpos
  have hy':=(g3.val hy).elems hvy
  have hx':=(g3.val hx).elems hvx
  obtain⟨ad,cap',hq⟩:=hy'.zbz
  obtain⟨ad2,cap2,hq2⟩:=hx'.zbz
  rw[hq]at hy'
  obtain⟨g,f0,f1,f2,f3⟩:=zbi (P:=P) hy' (by omega)
  refine⟨goInt 0,m,?_,Step.refl m,g2,g1,.any _⟩
  have hf:=f0 m.w rfl
  simp only[qaD]at hf hq2
  have hrun:(Builtin.copy_ #[t,t'] ty #[ac.eval x,ac.eval y]).run P m.w= .ok (goInt 0) m.w:=by
   rw[hq,hq2]
   cases ad2 <;> simp[Builtin.copy_,underlying,(hT t i ht).slice hk,(hT e ie he).sizeOf,hs,Builtin.lenOf,hf,storeCells]
  simp[execOp,resolve,invoke,builtin,hrun]) k
theorem TO.znd(hT:zaA P tab){t e:TypeId}{i ie:TyI}{x z:Operand}{sz id off len:Nat}{ik:IntKind}(hd:Nat.ble (d+1) n=true)(ht:tab.get t=some i)(hk:i.k= .slice e)(he:tab.get e=some ie)(hsz:ie.size=sz)
  (hx:env.val x=some (.ms sz id off len))(hz:env.val z=some (.t (.v (.int ik (len:Int)))))
  (k:TO q P n all rest ((d,.t (.sl sz []))::env) H K):TO q P n all (⟨some d,.slice t x (some z) none none,ty,pos,aft,none⟩::rest) env H K:=
 TO.op hd (fun m ac g1 g2 g3=>by
  have h:=g3.val hx
  generalize hq:ac.eval x=v at h
  cases h with
  | ms _ _ _ _ cap p hp hn hc hh=>
    have hrun:=fun w'=>zcz (P:=P) hT ht hk he (some ⟨p.b,p.lo+off,none⟩) len cap (some (ac.eval z)) none len len w' (.inr ⟨ik,by rw[(g3.val hz).v_eq]⟩) (.inl ⟨rfl,rfl⟩) (qag _) hc
    by_cases hcl:cap=len
    ·refine⟨.slice (some ⟨p.b,p.lo+off,none⟩) 0 0,fun w' hw'=>?_,.t _ _ (.empty sz _)⟩
     have:=hrun w'
     simp only[hcl,qbH]at this
     simp[execOp,hq,hcl,this]
    ·refine⟨.slice (some ⟨p.b,p.lo+off+len*sz,none⟩) 0 (cap-len),fun w' hw'=>?_,.t _ _ (.sl sz [] p.b (p.lo+off+len*sz) (cap-len) (fun _=>undef) (qaK _) (by simp) (by simp) (by simp) (by simp) (by simp))⟩
     have:=hrun w'
     rw[if_neg (by omega),hsz]at this
     simp only[qa6,zbs,qaZ,qbH]at this
     simp[execOp,hq,qaZ,this]) k
end rules
inductive TLs:T->T->Prop
 | refl (t:T):TLs t t
 | nil (sz:Nat):TLs (.v (.slice none 0 0)) (.sl sz [])
 | ag (cs ds:List T) (h:cs.length=ds.length) (hl:∀(i:Nat) c d,cs[i]?=some c->ds[i]?=some d->TLs c d):TLs (.ag cs) (.ag ds)
 | sl (sz:Nat) (cs ds:List T) (h:cs.length=ds.length) (hl:∀(i:Nat) c d,cs[i]?=some c->ds[i]?=some d->TLs c d):TLs (.sl sz cs) (.sl sz ds)
theorem TLs.both{A:Foot}{w:World}{a b:T}(h:TLs a b):(∀x,TRel A w a x->TRel A w b x)/\a.cells.length=b.cells.length/\∀(j:Nat) c d,a.cells[j]?=some c->b.cells[j]?=some d->∀x,TRel A w c x->TRel A w d x:=by
 have one:∀(a b:T),(∀x,TRel A w a x->TRel A w b x)->∀(j:Nat) c d,[a][j]?=some c->[b][j]?=some d->∀x,TRel A w c x->TRel A w d x:=by
  intro a b h j c d hc hd
  cases j with
  | zero=>simp at hc hd;subst hc;subst hd;exact h
  | succ j=>simp at hc
 induction h with
 | refl t=>exact⟨fun _ h=>h,rfl,fun j c d hc hd=>by rw[hc]at hd;cases hd;exact fun _ h=>h⟩
 | nil sz=>
   have h1:∀x,TRel A w (.v (.slice none 0 0)) x->TRel A w (.sl sz []) x:=by intro x h;cases h;exact .nil sz
   exact⟨h1,rfl,one _ _ h1⟩
 | ag cs ds hl _ ih=>
   refine⟨?_,hl,fun j c d hc hd=>(ih j c d hc hd).1⟩
   intro x h
   cases h with
   | ag _ arr hs h1 hr=>
     refine .ag _ _ (by omega) h1 fun i d y hd hy=>?_
     have hi:=(qab.1 hd).1
     have hc:cs[i]?=some (cs[i]'(by omega)):=qac _
     exact(ih i _ d hc hd).1 y (hr i _ y hc hy)
 | sl sz cs ds hl _ ih=>
   have h1:∀x,TRel A w (.sl sz cs) x->TRel A w (.sl sz ds) x:=by
    intro x h
    generalize hq:T.sl sz cs=q at h
    cases h with
    | v x=>cases hq
    | ag=>cases hq
    | nil sz'=>cases hq;have:ds=[]:=qaP (by simpa using hl.symm);subst this;exact .nil _
    | empty sz' a=>cases hq;have:ds=[]:=qaP (by simpa using hl.symm);subst this;exact .empty _ a
    | sl sz' es b off cap f hcap hsz hA hw h1 hr=>
      cases hq
      rw[hl]
      refine .sl sz ds b off cap f (by omega) (fun i d hd=>?_) (by rw[<-hl];exact hA) (by rw[<-hl];exact hw) (by rw[<-hl];exact h1) (fun i d j c' hd hc'=>?_)
      ·have hi:=(qab.1 hd).1
       have hc:cs[i]?=some (cs[i]'(by omega)):=qac _
       rw[<-(ih i _ d hc hd).2.1];exact hsz i _ hc
      ·have hi:=(qab.1 hd).1
       have hc:cs[i]?=some (cs[i]'(by omega)):=qac _
       have hj:=(qab.1 hc').1
       have hl2:=(ih i _ d hc hd).2.1
       have hcc:(cs[i]'(by omega)).cells[j]?=some ((cs[i]'(by omega)).cells[j]'(by omega)):=qac _
       exact(ih i _ d hc hd).2.2 j _ c' hcc hc' _ (hr i _ j _ hc hcc)
   exact⟨h1,rfl,one _ _ h1⟩
theorem Le.zrU{s:SV}{t u:T}(h:s.toT=some t)(k:TLs t u):Le s (.t u):=fun _ _ hx=>.t _ _ (k.both.1 _ (hx.toT h))
def TLss:List T->List T->Prop
 | [],[]=>True
 | a::aas,b::bs=>TLs a b/\TLss aas bs
 | _,_=>False
theorem TLss.get:∀ {cs ds:List T},TLss cs ds->cs.length=ds.length/\∀(i:Nat) c d,cs[i]?=some c->ds[i]?=some d->TLs c d
 | [],[],_=>⟨rfl,by simp⟩
 | a::aas,b::bs,h=>by
   have ih:=TLss.get h.2
   exact⟨by simp[ih.1],fun i c d hc hd=>by cases i with|zero=>simp at hc hd;subst hc;subst hd;exact h.1|succ i=>exact ih.2 i c d (by simpa using hc) (by simpa using hd)⟩
theorem TLs.agL{cs ds:List T}(h:TLss cs ds):TLs (.ag cs) (.ag ds):=.ag _ _ h.get.1 h.get.2
theorem TLs.slL{sz:Nat}{cs ds:List T}(h:TLss cs ds):TLs (.sl sz cs) (.sl sz ds):=.sl _ _ _ h.get.1 h.get.2
end Go.TL
namespace Go.Proofs.YtpnnpgbaiobbjaaGreatDoor
open Go Go.TL
attribute [local irreducible] TR TO Then zao RetK Sound zab Kf GG zaZ
def i64(k:Int)(h:-9223372036854775808≤k/\k≤9223372036854775807:=by decide):I64:=⟨k,h⟩
def mapS{σ α β:Type}(f:σ->α->σ×β):σ->List α->σ×List β
 | s,[]=>(s,[])
 | s,x::l=>((mapS f (f s x).1 l).1,(f s x).2::(mapS f (f s x).1 l).2)
theorem zn6{σ α β:Type}(f:σ->α->σ×β):∀(l k:List α) (s:σ),mapS f s (l++k)=((mapS f (mapS f s l).1 k).1,(mapS f s l).2++(mapS f (mapS f s l).1 k).2)
 | [],k,s=>rfl
 | x::l,k,s=>by
   rw[qbt]
   simp only[mapS]
   rw[zn6 f l k]
   rfl
theorem zq6{σ α β:Type}(f:σ->α->σ×β)(s:σ){l:List α}{j:Nat}(h:j<l.length):mapS f s (l.take (j+1))=((f (mapS f s (l.take j)).1 l[j]).1,(mapS f s (l.take j)).2++[(f (mapS f s (l.take j)).1 l[j]).2]):=by rw[zb0 h,zn6];rfl
theorem zcq{σ α β:Type}(f:σ->α->σ×β):∀(l:List α) (s:σ),(mapS f s l).2.length=l.length
 | [],_=>rfl
 | x::l,s=>by unfold mapS;simp only[qam];rw[zcq f l]
theorem zq5{σ α β:Type}(f:σ->α->σ×β):∀(l:List α) (i:Nat) (s:σ),mapN (fun _=>f) i s l=mapS f s l
 | [],_,_=>rfl
 | x::l,i,s=>by unfold mapN mapS;rw[zq5 f l]
def toI(n:Nat):I64:=if h:n≤1000000000 then⟨n,by omega,by omega⟩ else i64 0
def frF(a:List Str)(b:Str):List Str×Str:=(ins a (zaQ a b),zaQ a b)
abbrev Lc:=List Str×List Decl
def locF(b:Str)(t:I64)(ck:List OnC)(s:Lc):Lc×Str:=((ins s.1 (zaQ s.1 b),s.2++[⟨zaQ s.1 b,t,ck⟩]),zaQ s.1 b)
structure Room (a:List Str) (n:Nat):Prop where
 ok:zaD a
 len:a.length+n≤100000000000000
theorem Room.mono{a:List Str}{n k:Nat}(h:Room a n)(hk:k≤n):Room a k:=⟨h.ok,by have:=h.len;omega⟩
theorem zdm(a:List Str)(s:Str):(ins a s).length≤a.length+1:=by
 unfold ins
 split
 ·omega
 ·simp
theorem zgb{a:List Str}{n:Nat}(h:Room a n)(b:Str):(zaQ a b).length≤b.length+31:=by
 obtain⟨_,f2,_⟩:=zqM a b 1
 have hl:=h.len
 unfold zaQ zgf
 have h2:=zle (frs a b (a.length+1) 1) (by
  have:(10:Nat) ^ 18=1000000000000000000:=by decide
  omega)
 exact zwfh
theorem Room.fr1{a:List Str}{n:Nat}(h:Room a (n+1)){b:Str}(hb:b.length≤1000):Room (frF a b).1 n:=
 ⟨h.ok.ins (by have:=zgb h b;omega),by have:=zdm a (zaQ a b);have:=h.len;show(ins a (zaQ a b)).length+n≤_;omega⟩
theorem Room.loc1{s:Lc}{n:Nat}(h:Room s.1 (n+1)){b:Str}{t:I64}{ck:List OnC}(hb:b.length≤1000):Room (locF b t ck s).1.1 n:=h.fr1 hb
theorem zkm{n:Nat}(h:n≤1000000000):(toI n).1=(n:Int):=by unfold toI;rw[dif_pos h]
theorem zwR{n:Nat}(h:n≤1000000000):T.n (toI n)=T.i (n:Int):=by rw[show T.n (toI n)=T.i (toI n).1 from rfl,zkm h]
abbrev adF:SV:=.fn 66 [.ref 2 0]
abbrev adB:Blk:=.cells [.mp 0,adF]
abbrev axB:Blk:=.cells [.ref 1 0]
structure Nc where
 c0:T
 c1:T
 c2:T
 c5:T
 c6:T
 c7:T
structure Kt where
 sts:T
 t:Int
 defs:List T
 was:Str
 flag:Str
 conds:List T
 now:Str
 reset:Str
 bodies:List T
 parts:List T
 next:Str
 back:Str
abbrev exB (es:List T):Blk:=.cells [.ref 1 0,.sl 2 es 3]
abbrev ndB (c:Nc)(L Q:List T):Blk:=.cells [.t c.c0,.t c.c1,.t c.c2,.sl 3 L 6,.sl 7 Q 7,.t c.c5,.t c.c6,.t c.c7]
abbrev kB (k:Kt):Blk:=.cells [.ref 4 0,.ref 5 0,.t k.sts,.i k.t,.sl 3 k.defs 9,.s k.was,.s k.flag,.sl 1 k.conds 10,.s k.now,.s k.reset,.sl 8 k.bodies 11,.sl 1 k.parts 12,.s k.next,.s k.back]
abbrev adH (a:List Str):Heap:=[setB a,adB,axB]
abbrev kH (a:List Str)(es:List T)(c:Nc)(L Q:List T)(k:Kt):Heap:=[setB a,adB,axB,.tail es.length,exB es,ndB c L Q,.tail L.length,.tail Q.length,kB k,.tail k.defs.length,.tail k.conds.length,.tail k.bodies.length,.tail k.parts.length]
set_option maxHeartbeats 4000000 in
theorem ze0 (a:List Str) (ha:zaD a) (l:List Str) (hs:∀s∈l,zd7 s) (hl:l.length≤1000000000) (F:SV) (hF:F.under 3=true):Sound Tryz.prog 62 [.ref 1 0,.t (.sl 1 (l.map T.s))] [setB a,.cells [.mp 0,F],axB] (fun r H'=>r= .ret (.tup [])/\H'=[setB (l.foldl ins a),.cells [.mp 0,F],axB]):=by
 have hml:(l.map T.s).length=l.length:=qaa _
 have hok:=zdo (f:=ins) (l:=l) ha (fun a s h ha=>ha.ins (hs s h))
 refine so Tryz.func62 ?_
 repeat' (first|refine wkt ?_|fail)
 refine TR.zal l.length (fun _=>True) (fun j=>[(0,.ref 1 0),(6,.t (.sl 1 (l.map T.s))),(7,.i l.length),(8,.i j)]) (fun j=>[setB ((l.take j).foldl ins a),.cells [.mp 0,F],axB]) trivial (fun j hlt _=>?_) (fun _=>?_) ⟨rfl,rfl,by rw[<-hml];rfl,rfl,trivial⟩ rfl
 ·have hx:=zar T.s hlt
  have hn:=zau ins a hlt
  have hk:=hok j
  have hss:=hs _ (qad hlt)
  generalize (l.take j).foldl ins a=acc at*
  generalize l[j]=s at*
  repeat' (first|refine wkt ?_|refine zqp ?_|(apply TO.zok;(iterate 4 exact rfl);exact hk;exact hss;exact rfl)|refine zab.exit ?_|exact wkc|intro hc|refine wk2 ?_ ?_|refine wk ?_|fail)
  exact zab.zat hlt trivial (by(try dsimp only);exact⟨rfl,rfl,rfl,rfl,trivial⟩) (by(try dsimp only);rw[hn])
 ·rw[qah]
  repeat' (first|refine wu ?_|exact wkc|intro hc|refine wk2 ?_ ?_|fail)
  exact RetK.ziH 3 rfl (Le.refl _) rfl rfl rfl rfl (by simp[zad,Blk.under,unders,SV.under,hF]) ⟨rfl,rfl⟩
set_option maxHeartbeats 8000000 in
theorem zbC (a:List Str) (h:Room a 1) (base:Str) (hb:base.length≤1000):Sound Tryz.prog 66 [.s base,.ref 2 0] (adH a) (fun r H'=>r= .ret (.s (zaQ a base))/\H'=adH (ins a (zaQ a base))):=by
 have hk:=h.ok
 have hL:=h.len
 have hfl:=zgb h base
 obtain⟨f1,f2,f3⟩:=zqM a base 1
 have hge:=ztD a base (a.length+1) 1
 have hfr:zaQ a base=zgf base (frs a base (a.length+1) 1):=rfl
 rw[hfr]at hfl⊢
 clear hfr
 generalize frs a base (a.length+1) 1=N at*
 refine so Tryz.func66 ?_
 repeat' (first|refine wkt ?_|refine zab.exit ?_|exact wkc|intro hc|refine wk2 ?_ ?_|fail)
 refine TR.zn3 (ι:=Nat) (fun n=>1≤n/\n≤N) (fun n=>N-n) (fun n=>[(0,.s base),(1,.ref 2 0),(4,.i n)]) (fun n=>adH a) 1 ⟨qag _,hge⟩ ⟨rfl,rfl,rfl,trivial⟩ rfl ?_
 rintro n ⟨n1,n2⟩
 have hit:=zmJ (n:Int) (by omega)
 have hil:=zle n (by have:(10:Nat) ^ 18=1000000000000000000:=(by decide);omega)
 have hnm:zgf base n=base++[95]++Go.Lib.itoa (n:Int):=rfl
 have hsl:(base++[95]++Go.Lib.itoa (n:Int)).length≤1000000000:=by simp only[qae,qam,qaD];omega
 by_cases hN:n=N
 ·subst hN
  rw[hnm]at f1⊢
  have c1:=ze0 a hk [base++[95]++Go.Lib.itoa (n:Int)] (by intro s hs;rw[qaG.1 hs];exact hsl) (by simp) adF rfl
  have hfo:[base++[95]++Go.Lib.itoa (n:Int)].foldl ins a=ins a (base++[95]++Go.Lib.itoa (n:Int)):=rfl
  rw[hfo]at c1
  dsimp only[List.map]at c1
  clear hfo hfl
  generalize Go.Lib.itoa (n:Int)=it at*
  clear f3
  repeat' (first|refine wkt ?_|refine wv hit ?_|(apply TO.cat;(iterate 3 exact rfl);(simp only[qae,qam,qaD];omega))|(apply TO.zgK;(iterate 4 exact rfl);exact hk;exact hsl)|(exact fun hc=>absurd hc f1)|(exact fun hc=>absurd f1 hc)|(apply TO.zaE 3 c1;(iterate 3 exact rfl);exact Les.refl _;(iterate 8 exact rfl))|refine zab.exit ?_|exact wkc|intro hc|refine wk2 ?_ ?_|refine wk ?_|fail)
  exact zwfs
 ·have hin:=f3 n n1 (by omega)
  rw[hnm]at hin
  generalize Go.Lib.itoa (n:Int)=it at*
  clear f3 f1
  repeat' (first|refine wkt ?_|refine wv hit ?_|(apply TO.cat;(iterate 3 exact rfl);(simp only[qae,qam,qaD];omega))|(apply TO.zgK;(iterate 4 exact rfl);exact hk;exact hsl)|(exact fun hc=>absurd hin hc)|refine zab.exit ?_|exact wkc|intro hc|refine wk2 ?_ ?_|refine wk ?_|fail)
  exact zab.next (n+1) ⟨by omega,by omega⟩ (by omega) ⟨rfl,rfl,rfl,trivial⟩ rfl
set_option maxHeartbeats 8000000 in
theorem zhS (a:List Str) (h:Room a 1) (es:List T) (c:Nc) (L Q:List T) (k:Kt) (hL:L.length≤1000000000) (base:Str) (hb:base.length≤1000) (t:Int) (ck:List T):Sound Tryz.prog 120 [.ref 8 0,.s base,.i t,.t (.sl 3 ck)] (kH a es c L Q k)
  (fun r H'=>r= .ret (.s (zaQ a base))/\H'=kH (ins a (zaQ a base)) es c (L++[.ag [.s (zaQ a base),.v (.int .i64 t),.sl 3 ck]]) Q k):=by
 have c1:=zbC a h base hb
 generalize zaQ a base=nm at*
 generalize ins a nm=a' at*
 refine so Tryz.func120 ?_
 repeat' (first|refine wkt ?_|(apply TO.zaE 3 c1;(iterate 3 exact rfl);exact Les.refl _;(iterate 8 exact rfl))|fail)
 apply TR.zaw 0 (g:=True) [(_,0,1),(_,0,1),(_,0,1),(_,0,1),(_,0,0),(_,0,0),(_,0,0),(_,0,0),(_,0,0),(_,0,0),(_,0,0),(_,0,0),(_,0,0),(_,0,0),(_,0,0),(_,0,0),(_,1,0),(_,1,1),(_,1,1),(.any,1,0)] [kH a' es c L Q k,[setB a',adB,axB,.tail es.length,exB es,ndB c L Q,.tail (L.length+1),.tail Q.length,kB k,.tail k.defs.length,.tail k.conds.length,.tail k.bodies.length,.tail k.parts.length],[setB a',adB,axB,.tail es.length,exB es,ndB c (L++[.ag [.s nm,.v (.int .i64 t),.sl 3 ck]]) Q,.tail (L.length+1),.tail Q.length,kB k,.tail k.defs.length,.tail k.conds.length,.tail k.bodies.length,.tail k.parts.length]] hmix
 case hB=>exact zqv
 case h0=>exact rfl
 case hp=>
  repeat' (first|exact trivial|exact⟨⟨rfl,rfl⟩,trivial⟩|exact qaf rfl rfl|refine qaf (fun env=>?_) ?_|refine qaf ?_ ?_|refine wma ?_|(apply TO.zbb zag;(iterate 13 exact rfl);exact zqn;exact rfl)|refine wmk ?_|fail)
  done
 case hc=>exact rfl
 case hF=>exact rfl
 case hE=>exact rfl
 case hK=>
  intro _
  repeat' (first|refine wkt ?_|refine wk ?_|fail)
  exact RetK.keep 13 rfl (Le.refl _) rfl rfl rfl rfl rfl ⟨rfl,by simp⟩
def vrE(s:Str):Ex:=.mk (i64 2) (i64 0) (i64 0) (i64 0) s []
def cnE(t v:I64):Ex:=.mk (i64 1) (i64 0) t v [] []
def smE(s:Str)(o:OnC):Ex:=.mk (i64 8) (i64 0) o.t o.tag o.name [vrE s]
def zdn:List (Ex×Ex)->Ex->Ex
 | [],e=>e
 | c::l,e=>.mk (i64 4) (i64 0) (i64 0) (i64 0) [] [c.1,c.2,zdn l e]
def rstE(t:Tran):I64:=if t.resume=true then i64 0 else i64 1
theorem zbI(s:Str):Pure Tryz.prog 182 [.s s] (.t (.ag (exC (vrE s)))):=by
 refine so Tryz.func182 ?_
 repeat' (first|refine wu ?_|exact wkc|intro hc|refine wk2 ?_ ?_|fail)
 exact wkr
theorem zaT(t v:I64):Pure Tryz.prog 183 [.n t,.n v] (.t (.ag (exC (cnE t v)))):=by
 refine so Tryz.func183 ?_
 repeat' (first|refine wu ?_|exact wkc|intro hc|refine wk2 ?_ ?_|fail)
 exact wkr
theorem zeZ(t:Tran):Pure Tryz.prog 184 [.t (zah t)] (.n (rstE t)):=by
 unfold zah rstE
 by_cases h:t.resume=true
 ·rw[if_pos h,h]
  exact zwdf
 ·rw[if_neg h,qcb]at*
  rw[h]
  exact zwdf
theorem zbR(s:Str)(o:OnC):Pure Tryz.prog 196 [.s s,.t (onT o)] (.t (.ag (exC (smE s o)))):=by
 have c1:=zbI s
 have hv:exT (vrE s)= .ag (exC (vrE s)):=zay _
 have hc:exC (smE s o)=[T.n (i64 8),T.n (i64 0),T.n o.t,T.n o.tag,.s o.name,.sl 6 [exT (vrE s)]]:=rfl
 rw[hc,hv]
 unfold onT
 refine so Tryz.func196 ?_
 repeat' (first|refine wkt ?_|refine zqx ?_|fail)
 apply TR.zaw 0 (g:=True) [(_,0,0),(_,0,0),(_,0,0),(_,0,0),(_,0,0),(_,0,0),(_,0,0),(_,0,0),(_,0,0),(_,0,0),(.any,1,0)] [_,_] hmix
 case hB=>exact zqv
 case h0=>exact rfl
 case hp=>
  repeat' (first|exact trivial|exact⟨⟨rfl,rfl⟩,trivial⟩|exact qaf rfl rfl|refine qaf (fun env=>?_) ?_|refine qaf ?_ ?_|refine wma ?_|refine wmv c1 ?_|refine wmk ?_|fail)
  done
 case hc=>exact rfl
 case hF=>exact rfl
 case hE=>exact rfl
 case hK=>
  intro _
  repeat' (first|refine wu ?_|exact wkc|intro hc|refine wk2 ?_ ?_|fail)
  exact wkr
theorem zcb:∀(l:List (Ex×Ex)) (e:Ex),l.length≤1000000->Pure Tryz.prog 185 [.t (.sl 12 (l.map chT)),.t (.ag (exC e))] (.t (.ag (exC (zdn l e))))
 | [],e,_=>by
   unfold exC zdn
   refine so Tryz.func185 ?_
   repeat' (first|refine wu ?_|exact wkc|intro hc|refine wk2 ?_ ?_|fail)
   exact wkr
 | c::l,e,hl=>by
   have ih:=zcb l e (by simp only[qam]at hl;omega)
   have hml:(l.map chT).length=l.length:=qaa _
   have hc:exC (zdn (c::l) e)=[T.n (i64 4),T.n (i64 0),T.n (i64 0),T.n (i64 0),.s [],.sl 6 [exT c.1,exT c.2,exT (zdn l e)]]:=rfl
   rw[hc,zay,zay,zay]
   unfold exC at*
   refine so Tryz.func185 ?_
   repeat' (first|refine wkt ?_|refine zqx ?_|exact wkc|intro hc|refine wk2 ?_ ?_|fail)
   ·exfalso;first|(simp at hc;done)|(simp at hc;omega)
   apply TR.zaw 0 (g:=True) [(_,0,0),(_,0,0),(_,0,0),(_,0,0),(_,0,0),(_,0,0),(_,0,0),(_,0,0),(_,0,0),(_,0,0),(_,0,0),(_,0,0),(_,0,0),(_,0,0),(.any,1,0)] [_,_] hmix
   case hB=>exact zqv
   case h0=>exact rfl
   case hp=>
    repeat' (first|exact trivial|exact⟨⟨rfl,rfl⟩,trivial⟩|exact qaf rfl rfl|refine qaf (fun env=>?_) ?_|refine qaf ?_ ?_|refine wma ?_|refine wmv ih ?_|(apply TO.indexAddr zag;(iterate 8 exact rfl);decide;exact rfl)|(apply TO.zrH (a:=1) zag;(iterate 8 exact rfl);(simp only[qaj,qam];omega))|refine wmk ?_|fail)
    done
   case hc=>exact rfl
   case hF=>exact rfl
   case hE=>exact rfl
   case hK=>
    intro _
    repeat' (first|refine wu ?_|exact wkc|intro hc|refine wk2 ?_ ?_|fail)
    exact wkr
end Go.Proofs.YtpnnpgbaiobbjaaGreatDoor
namespace Go.TL
open Go
section rules
variable {P:Program}{n:Nat}{env:Env}{H:Heap}{K:TK}{c:Code}
theorem TR.forget(id j:Nat){cs:List SV}{sz tid:Nat}{es:List T}{H':Heap}(hH:H[id]?=some (.cells cs))(hi:cs[j]?=some (.sl sz es tid))(hH':H.set id (.cells (cs.set j (.t (.sl sz es))))=H')
  (k:TR P n c env H' K):TR P n c env H K:=by
 intro φ m a h1 h2 h3 h4
 have hid:=(qab.1 hH).1
 have hjl:=(qab.1 hi).1
 have hH1:m.H[id]?=some (.cells cs):=by rw[h1];exact hH
 obtain⟨p,hp⟩:∃p,m.β[id]?=some p:=⟨_,qac (by rw[h2.len,h1];exact hid)⟩
 obtain⟨b1,b2,b3⟩:=h2.blk id p _ hp hH1
 obtain⟨s,hm⟩:=upd (m:=m) h2 (cs':=cs.set j (.t (.sl sz es))) (w':=m.w) hp hH1 rfl rfl rfl rfl (fun _ _=>rfl) (fun _ _=>rfl) (fun _=>rfl) (fun _=>rfl) (fun _ h=>h) (by simpa using b1) (by omega) (fun q e hc=>by
  by_cases hq:q=j
  ·subst hq
   rw[qaw hjl]at hc
   cases hc
   obtain⟨y,hy1,hy0,hy2⟩:=b3 q _ hi
   refine⟨_,hy1,hy0,?_⟩
   cases hy2 with
   | sl _ _ _ _ p h hp ho=>exact .t _ _ h
  ·rw[qaJ (by omega)]at hc
   exact b3 q e hc)
 refine za4 (k φ ⟨m.A,m.β,m.H.set id (.cells (cs.set j (.t (.sl sz es)))),m.w⟩ a ?_ hm (h3.step h2 s) h4) fun _ _ _ hp=>hp.step s
 rw[<-hH',<-h1]
theorem TR.zfj(id j:Nat){cs:List SV}{v v':SV}(hl:Le v v'){H':Heap}(hH:H[id]?=some (.cells cs))(hi:cs[j]?=some v)(hH':H.set id (.cells (cs.set j v'))=H')
  (k:TR P n c env H' K):TR P n c env H K:=by
 intro φ m a h1 h2 h3 h4
 have hid:=(qab.1 hH).1
 have hjl:=(qab.1 hi).1
 have hH1:m.H[id]?=some (.cells cs):=by rw[h1];exact hH
 obtain⟨p,hp⟩:∃p,m.β[id]?=some p:=⟨_,qac (by rw[h2.len,h1];exact hid)⟩
 obtain⟨b1,b2,b3⟩:=h2.blk id p _ hp hH1
 obtain⟨s,hm⟩:=upd (m:=m) h2 (cs':=cs.set j v') (w':=m.w) hp hH1 rfl rfl rfl rfl (fun _ _=>rfl) (fun _ _=>rfl) (fun _=>rfl) (fun _=>rfl) (fun _ h=>h) (by simpa using b1) (by omega) (fun q e hc=>by
  by_cases hq:q=j
  ·subst hq
   rw[qaw hjl]at hc
   cases hc
   obtain⟨y,hy1,hy0,hy2⟩:=b3 q _ hi
   exact⟨_,hy1,hy0,hl _ _ hy2⟩
  ·rw[qaJ (by omega)]at hc
   exact b3 q e hc)
 refine za4 (k φ ⟨m.A,m.β,m.H.set id (.cells (cs.set j v')),m.w⟩ a ?_ hm (h3.step h2 s) h4) fun _ _ _ hp=>hp.step s
 rw[<-hH',<-h1]
end rules
end Go.TL
