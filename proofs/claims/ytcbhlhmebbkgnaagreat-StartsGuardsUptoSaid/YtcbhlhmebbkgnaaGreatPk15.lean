import Derived.Test.YtcbhlhmebbkgnaaGreatPk8
import Derived.Test.YtcbhlhmebbkgnaaGreatPk11
import Derived.Test.YtcbhlhmebbkgnaaGreatPk12
set_option linter.unusedSimpArgs false
set_option linter.unusedVariables false
namespace Go.TL
open Go
def zerosOf(z:List T)(n:Nat):List SV:=(List.replicate n z).flatten.map .t
theorem rep_get{α:Type}(z:List α)(hz:0<z.length):∀(n j:Nat),j<n*z.length->(List.replicate n z).flatten[j]?=z[j % z.length]?
 | 0,j,h=>by simp at h
 | n+1,j,h=>by
   rw[List.replicate_succ,List.flatten_cons]
   by_cases hj:j<z.length
   ·rw[List.getElem?_append_left hj,Nat.mod_eq_of_lt hj]
   ·rw[List.getElem?_append_right (by omega),rep_get z hz n (j-z.length) (by rw[Nat.succ_mul]at h;omega),<-Nat.mod_eq_sub_mod (by omega)]
theorem zerosOf_len(z:List T)(n:Nat):(zerosOf z n).length=n*z.length:=by simp[zerosOf]
theorem grow_zeros{m:M}(hm:HRel m){ts:List T}{z:Array Value}{e:TypeId}{arr:Array Value}{c N:Nat}(hz:fitsAll ts z.toList=true)(hpos:0<ts.length)(hN:c≤N)(hsz:arr.size=N*ts.length)(harr:∀j,j<N*ts.length->arr[j]?=z[j % ts.length]?):
  Step m ⟨m.A,m.β++[⟨m.w.heap.size,0,arr.size⟩],m.H++[.cells (zerosOf ts c)],m.w.alloc (.cells arr e)⟩/\HRel ⟨m.A,m.β++[⟨m.w.heap.size,0,arr.size⟩],m.H++[.cells (zerosOf ts c)],m.w.alloc (.cells arr e)⟩:=by
 obtain⟨g1,g0,g2⟩:=zero_rel (A:=m.A) (w:=m.w) _ _ hz
 have hcN:c*ts.length≤N*ts.length:=Nat.mul_le_mul_right _ hN
 refine grow_cells hm _ arr e (by rw[zerosOf_len,hsz];exact hcN) (fun j y hy=>?_) (fun j s y hs hy=>?_)
 ·have hj:=(Array.getElem?_eq_some_iff.1 hy).1
  rw[harr j (by omega)]at hy
  exact g0 _ y (by simpa using hy)
 ·have hj:=(Array.getElem?_eq_some_iff.1 hy).1
  rw[harr j (by omega)]at hy
  have hjs:=(List.getElem?_eq_some_iff.1 hs).1
  rw[zerosOf_len]at hjs
  unfold zerosOf at hs
  rw[List.getElem?_map,rep_get ts hpos c j hjs]at hs
  cases hq:ts[j % ts.length]? with
  | none=>rw[hq]at hs;cases hs
  | some u=>rw[hq]at hs;cases hs;exact .t _ _ (g2 _ u y hq (by simpa using hy))
theorem zeroCells_get(z:Array Value)(n j:Nat)(hz:0<z.size)(hj:j<n*z.size):(Builtin.zeroCells z n)[j]?=z[j % z.size]? :=by
 have h2:j % z.size<z.size:=Nat.mod_lt _ hz
 unfold Builtin.zeroCells
 rw[Array.getElem?_map,Array.getElem?_eq_getElem (by simpa using hj)]
 simp[h2]
theorem zeroCells_size(z:Array Value)(n:Nat):(Builtin.zeroCells z n).size=n*z.size:=by simp[Builtin.zeroCells]
section rules
variable {P:Program}{n:Nat}{env:Env}{H:Heap}{K:TK}{all:Array Oper}{rest:List Oper}{tab:Tab}
variable {d:Nat}{ty:TypeId}{pos:String}{aft:Array Edge}
theorem mem_drew{m:M}(hm:HRel m):Step m ⟨m.A,m.β,m.H,m.w.drew⟩/\HRel ⟨m.A,m.β,m.H,m.w.drew⟩:=
 keep_ok hm ⟨rfl,rfl,rfl,Nat.le_refl _,fun _ _=>rfl⟩
theorem TO.append_zeros(hT:TabOk P tab){t t' e:TypeId}{i ie:TyI}{sz c:Nat}{ik ik':IntKind}{x y:Operand}(hd:Nat.ble (d+1) n=true)(ht:tab.get t=some i)(hk:i.k= .slice e)(he:tab.get e=some ie)(hs:ie.size=sz)(hpos:Nat.ble 1 sz=true)
  (hu:P.underlying t'=some (.int ik'))(hx:env.val x=some (.t (.v (.slice none 0 0))))(hy:env.val y=some (.t (.v (.int ik (c:Int)))))(h1:1≤c)(h2:c≤10000000000)(hby:Nat.ble ie.bytes 4096=true)
  (k:TO false P n all rest ((d,.ms sz H.length 0 c)::env) (H++[.cells (zerosOf ie.zero c)]) K):TO false P n all (⟨some d,.call { callee:=.builtin .append,args:=#[x,y],argTypes:=#[t,t'] },ty,pos,aft,none⟩::rest) env H K:=
 TO.eff hd (fun m ac g1 g2 g3=>by
  have hp':=Nat.le_of_ble_eq_true hpos
  have hb':=Nat.le_of_ble_eq_true hby
  obtain⟨ti,hti,hti1,hti2⟩:=(hT e ie he).info
  obtain⟨z,hz1,hz2,_,_⟩:=(hT e ie he).zero
  have hln:=(hT e ie he).len
  have hzl:z.cells.size=sz:=by
   have:=(zero_rel (A:=m.A) (w:=m.w) _ _ hz2).1
   simp at this;omega
  have hmul:(2*c+512)*ie.bytes≤(2*10000000000+512)*4096:=Nat.mul_le_mul (by omega) hb'
  have hcm:c*ie.bytes≤10000000000*4096:=Nat.mul_le_mul h2 hb'
  have hw:IntKind.i64.wrap (c:Int)=c:=wrap_in (by omega) (by omega)
  have hbig:¬(281474976710656<(c:Int)*(ti.bytes:Int)):=by
   rw[hti2,<-Int.natCast_mul];omega
  have hneg:¬((c:Int)<0):=by omega
  have hbound:¬281474976710656<Builtin.nextslicecap c 0*ti.bytes:=by
   have h1:=nextslicecap_le c 0 (by omega)
   have h2:Builtin.nextslicecap c 0≤2*c+512:=by omega
   have h3:=Nat.mul_le_mul_right ti.bytes h2
   rw[hti2]at h3⊢;omega
  have hmax:¬(9223372036854775807<(c:Int)):=by omega
  have hmx:(IntKind.i64.max:Int)=9223372036854775807:=by decide
  obtain⟨nc,hnc⟩:∃nc,nc=(Question.appendCap c 0 e).cut (m.w.tape m.w.drawn (.appendCap c 0 e)):=⟨_,rfl⟩
  have hnc2:c≤nc:=by rw[hnc];simp[Question.cut]
  obtain⟨arr,harr⟩:∃arr:Array Value,arr=Builtin.zeroCells z.cells c++Builtin.zeroCells z.cells (nc-c):=⟨_,rfl⟩
  have hcs:c*sz≠0:=Nat.mul_ne_zero (by omega) (by omega)
  have hrun:(Builtin.append_ #[t,t'] ty #[.slice none 0 0,.int ik (c:Int)]).run P m.w= .ok (.slice (some ⟨m.w.heap.size,0,none⟩) c nc) (m.w.drew.alloc (.cells arr e)):=by
   have hfo:(Question.appendCap c 0 e).forced=false:=rfl
   have hc0:¬c=0:=by omega
   have hs0:¬sz=0:=by omega
   have hadd:(Builtin.append_ #[t,t'] ty #[.slice none 0 0,.int ik (c:Int)]).run P m.w=(((do
     pure (.slice (some (<-newRow e (Builtin.zeroCells z.cells c++Builtin.zeroCells z.cells (nc-c)))) c nc)):Sem Value).run P { m.w with drawn:=m.w.drawn+1 }):=by
    simp[Builtin.append_,underlying,hu,(hT t i ht).slice hk,(hT e ie he).sizeOf,hs,asInt,asIntOf,hw,typeInfo,hti,hbig,hneg,hbound,hmx,hmax,hfo,<-hnc,hz1,hcs,hc0,hs0,Builtin.firstCells]
   rw[hadd]
   simp[newRow]
   rw[harr]
  have hsize:arr.size=nc*ie.zero.length:=by
   rw[harr,Array.size_append,zeroCells_size,zeroCells_size,<-Nat.add_mul,hzl,hln,hs]
   congr 1;omega
  obtain⟨s0,hm0⟩:=mem_drew g2
  obtain⟨s,hm'⟩:=grow_zeros hm0 (ts:=ie.zero) (z:=z.cells) (e:=e) (arr:=arr) (c:=c) (N:=nc) hz2 (by omega) hnc2 hsize (fun j hj=>by
   have hzz:z.cells.size=ie.zero.length:=by omega
   rw[harr,<-hzz]
   rw[<-hzz]at hj
   by_cases hj1:j<c*z.cells.size
   ·rw[Array.getElem?_append_left (by rw[zeroCells_size];exact hj1),zeroCells_get _ _ _ (by omega) hj1]
   ·rw[Array.getElem?_append_right (by rw[zeroCells_size];omega),zeroCells_size,zeroCells_get _ _ _ (by omega) (by rw[Nat.sub_mul];omega)]
    congr 1
    rw[Nat.mul_comm c]
    exact Nat.sub_mul_mod (by rw[Nat.mul_comm];omega))
  refine⟨.slice (some ⟨m.w.heap.size,0,none⟩) c nc,⟨m.A,m.β++[⟨m.w.heap.size,0,arr.size⟩],m.H++[.cells (zerosOf ie.zero c)],m.w.drew.alloc (.cells arr e)⟩,by simp[execOp,resolve,invoke,builtin,(g3.val hx).v_eq,(g3.val hy).v_eq,hrun],s0.trans s,hm',by rw[<-g1],?_⟩
  rw[<-g1]
  refine .ms sz m.H.length 0 c nc ⟨m.w.heap.size,0,arr.size⟩ (by simp[g2.len]) (by intro q;simp[tlOf]) hnc2 ?_
  show 0+0+nc*sz=arr.size
  rw[hsize,hln,hs];omega) k
theorem flat_cells{sz:Nat}:∀(es:List T),(∀e∈es,e.cells.length=sz)->((es.map T.cells).flatten.length=es.length*sz/\∀(i j:Nat) e c,es[i]?=some e->e.cells[j]?=some c->((es.map T.cells).flatten)[i*sz+j]?=some c)
 | [],_=>by simp
 | e::es,h=>by
   obtain⟨h1,h2⟩:=flat_cells es (fun x hx=>h x (List.mem_cons_of_mem _ hx))
   have he:=h e List.mem_cons_self
   refine⟨by rw[List.map_cons,List.flatten_cons,List.length_append,h1,he,List.length_cons,Nat.succ_mul];omega,fun i j x c hx hc=>?_⟩
   rw[List.map_cons,List.flatten_cons]
   cases i with
   | zero=>
     simp at hx;subst hx
     have:=(List.getElem?_eq_some_iff.1 hc).1
     rw[Nat.zero_mul,Nat.zero_add,List.getElem?_append_left this];exact hc
   | succ i=>
     rw[List.getElem?_append_right (by rw[he,Nat.succ_mul];omega),he,show(i+1)*sz+j-sz=i*sz+j from by rw[Nat.succ_mul];omega]
     exact h2 i j x c (by simpa using hx) hc
theorem TO.append_ms(hT:TabOk P tab){t t' e:TypeId}{i i' ie:TyI}{sz id off len:Nat}{cs:List SV}{ys:List T}{x y:Operand}{vy:SV}{H':Heap}(hd:Nat.ble (d+1) n=true)(ht:tab.get t=some i)(hk:i.k= .slice e)(ht':tab.get t'=some i')(hk':i'.k= .slice e)
  (he:tab.get e=some ie)(hs:ie.size=sz)(hpos:Nat.ble 1 sz=true)(hx:env.val x=some (.ms sz id off len))(hH:H[id]?=some (.cells cs))(hy:env.val y=some vy)(hvy:vy.elems sz=some ys)
  (hfit:off+(len+ys.length)*sz≤cs.length)(hH':H.set id (.cells (splice cs (off+len*sz) ((ys.map T.cells).flatten.map .t)))=H')
  (k:TO false P n all rest ((d,.ms sz id off (len+ys.length))::env) H' K):TO false P n all (⟨some d,.call { callee:=.builtin .append,args:=#[x,y],argTypes:=#[t,t'] },ty,pos,aft,none⟩::rest) env H K:=
 TO.eff hd (fun m ac g1 g2 g3=>by
  have hp':=Nat.le_of_ble_eq_true hpos
  have hy':=(g3.val hy).elems hvy
  obtain⟨ad,cap',hq⟩:=hy'.slice_inv
  rw[hq]at hy'
  obtain⟨g,f0,f1,f2,f3⟩:=firstCells_run (P:=P) hy' (by omega)
  have h:=g3.val hx
  generalize hz:ac.eval x=z at h
  cases h with
  | ms _ _ _ _ cap p hp hn hc hh=>
    have hH1:m.H[id]?=some (.cells cs):=by rw[g1];exact hH
    obtain⟨b1,b2,b3⟩:=g2.blk id p _ hp hH1
    have hcap:len+ys.length≤cap:=by
     have:(len+ys.length)*sz≤cap*sz:=by omega
     exact Nat.le_of_mul_le_mul_right this (by omega)
    have hmul:(len+ys.length)*sz=len*sz+ys.length*sz:=Nat.add_mul _ _ _
    obtain⟨l1,l2⟩:=flat_cells ys (fun e he=>by obtain⟨j,hj⟩:=List.getElem?_of_mem he;exact f2 j e hj)
    have hrun:(Builtin.append_ #[t,t'] ty #[.slice (some ⟨p.b,p.lo+off,none⟩) len cap,ac.eval y]).run P m.w=
      ((storeCells (Addr.add ⟨p.b,p.lo+off,none⟩ (len*sz)) ((List.range (ys.length*sz)).map g)).run P m.w).andThen fun _ w'=>.ok (.slice (some ⟨p.b,p.lo+off,none⟩) (len+ys.length) cap) w':=by
     rw[hq]
     simp[Builtin.append_,underlying,(hT t i ht).slice hk,(hT t' i' ht').slice hk',(hT e ie he).sizeOf,hs,Builtin.lenOf,hcap,f0 m.w rfl]
    by_cases h0:ys.length*sz=0
    ·have hys:ys=[]:=by
      rcases Nat.mul_eq_zero.1 h0 with h|h
      ·exact List.eq_nil_of_length_eq_zero h
      ·omega
     subst hys
     refine⟨.slice (some ⟨p.b,p.lo+off,none⟩) (len+0) cap,m,?_,Step.refl m,g2,?_,.ms sz id off len cap p hp hn hc hh⟩
     ·simp[execOp,resolve,invoke,builtin,hz,hrun,storeCells]
     ·obtain⟨hlt,hg⟩:=List.getElem?_eq_some_iff.1 hH
      have h5:splice cs (off+len*sz) ((List.map T.cells []).flatten.map .t)=cs:=by simp[splice]
      have h6:=List.set_getElem_self hlt
      rw[hg]at h6
      rw[g1,<-hH',h5]
      exact h6.symm
    ·obtain⟨s,hm'⟩:=upd_cells g2 (off:=off+len*sz) (vs:=(ys.map T.cells).flatten.map .t) (ys:=(List.range (ys.length*sz)).map g) hp hH1 (by rw[List.length_map,l1];omega) (by rw[List.length_map,l1];omega) (by rw[List.length_map,l1];simp) (fun v hv=>by simp at hv;obtain⟨q,hq,rfl⟩:=hv;exact f1 q hq) (fun j c v hc' hv=>by
      have hj:=(List.getElem?_eq_some_iff.1 hv).1
      simp at hj
      simp[hj]at hv
      subst hv
      rw[List.getElem?_map]at hc'
      obtain⟨d1,d2,d3⟩:=divmod_lt (show 0<sz by omega) hj
      have hyq:ys[j / sz]?=some ys[j / sz]:=List.getElem?_eq_getElem d1
      have hcl:=f2 _ _ hyq
      have hyc:(ys[j / sz]).cells[j % sz]?=some ((ys[j / sz]).cells[j % sz]'(by omega)):=List.getElem?_eq_getElem (by omega)
      have:=l2 _ _ _ _ hyq hyc
      rw[d3]at this
      rw[this]at hc'
      cases hc'
      have hr:=f3 _ _ _ _ hyq hyc
      rw[d3]at hr
      exact .t _ _ hr)
     have hst:=run_storeCells_cells (P:=P) p.b (p.lo+(off+len*sz)) ((List.range (ys.length*sz)).map g) 0 m.w (fun q hq=>(b2 _ (by omega) (by simp at hq;omega)).1) (fun q hq=>(b2 _ (by omega) (by simp at hq;omega)).2)
      (fun v hv=>by simp at hv;obtain⟨q,hq,rfl⟩:=hv;exact f1 q hq)
     refine⟨.slice (some ⟨p.b,p.lo+off,none⟩) (len+ys.length) cap,_,?_,s,hm',by rw[g1];exact hH',?_⟩
     ·rw[show p.lo+(off+len*sz)=p.lo+off+len*sz from by omega]at hst⊢
      simp only[addr_add]at hrun
      rw[hst]at hrun
      simp[execOp,resolve,invoke,builtin,hz,hrun]
     ·exact s.srel g2 (.ms sz id off (len+ys.length) cap p hp hn hcap hh)) k
theorem TO.slice_ms(hT:TabOk P tab){q:Bool}{t e:TypeId}{i ie:TyI}{x z:Operand}{sz id off len b:Nat}{ik:IntKind}(hd:Nat.ble (d+1) n=true)(ht:tab.get t=some i)(hk:i.k= .slice e)(he:tab.get e=some ie)
  (hx:env.val x=some (.ms sz id off len))(hz:env.val z=some (.t (.v (.int ik (b:Int)))))(h2:b≤len)
  (k:TO q P n all rest ((d,.ms sz id off b)::env) H K):TO q P n all (⟨some d,.slice t x none (some z) none,ty,pos,aft,none⟩::rest) env H K:=
 TO.op hd (fun m ac g1 g2 g3=>by
  have h:=g3.val hx
  generalize hq:ac.eval x=v at h
  cases h with
  | ms _ _ _ _ cap p hp hn hc hh=>
    refine⟨.slice (some ⟨p.b,p.lo+off,none⟩) b cap,fun w' hw'=>?_,.ms sz id off b cap p hp hn (by omega) hh⟩
    have:=slice_sl_run (P:=P) hT ht hk he (some ⟨p.b,p.lo+off,none⟩) len cap none (some (ac.eval z)) 0 b w' (.inl ⟨rfl,rfl⟩) (.inr ⟨ik,by rw[(g3.val hz).v_eq]⟩) (Nat.zero_le _) (by omega)
    simp only[Nat.zero_mul,Nat.sub_zero,Option.map_some,addr_add,Nat.add_zero,ite_self]at this
    simp[execOp,hq,this]) k
theorem TR.freeze{c:Code}(i sz id len:Nat){cs:List SV}{es:List T}{H':Heap}(hi:env.look i=some (.ms sz id 0 len))(hH:H[id]?=some (.cells cs))(hcs:cs=(es.map T.cells).flatten.map .t)(hlen:len=es.length)(hsz:∀e∈es,e.cells.length=sz)
  (hpos:Nat.ble 1 sz=true)(hH':H.set id .dead=H')(k:TR P n c ((i,.t (.sl sz es))::env) H' K):TR P n c env H K:=by
 intro φ m a h1 h2 h3 h4
 have hp':=Nat.le_of_ble_eq_true hpos
 obtain⟨x,hx1,hx2⟩:=h3.2 i _ hi
 subst hlen
 obtain⟨l1,l2⟩:=flat_cells es hsz
 have hcl:cs.length=es.length*sz:=by rw[hcs,List.length_map,l1]
 cases hx2 with
 | ms _ _ _ _ cap p hp hn hc hh=>
   have hH1:m.H[id]?=some (.cells cs):=by rw[h1];exact hH
   obtain⟨b1,b2,b3⟩:=h2.blk id p _ hp hH1
   have hex:∀j,∃y,j<cs.length->m.w.cell? ⟨p.b,p.lo+j,none⟩=some y/\y.oneCell'=true/\∀c,cs[j]?=some c->SRel m c y:=by
    intro j
    by_cases hj:j<cs.length
    ·obtain⟨y,hy1,hy0,hy2⟩:=b3 j cs[j] (List.getElem?_eq_getElem hj)
     exact⟨y,fun _=>⟨hy1,hy0,fun c hc=>by rw[List.getElem?_eq_getElem hj]at hc;cases hc;exact hy2⟩⟩
    ·exact⟨undef,fun h=>absurd h hj⟩
   let f:Nat->Value:=fun j=>Classical.choose (hex j)
   have hf:=fun j=>Classical.choose_spec (hex j)
   obtain⟨s,hm'⟩:=mv_step h2 (k1:=.dead) (p':=p) (A':=fun b o=>m.A b o\/(b=p.b/\p.lo≤o/\o<p.lo+cs.length)) (w':=m.w) hp hH1 rfl rfl rfl rfl (Nat.le_refl _) (fun _ _ _ _=>rfl) (fun _ _ _ _ _=>rfl) (fun _ _ _=>rfl) (fun _ _ _ h=>h) (fun _ _ h=>h)
    (fun _ _ h=>.inl h) (fun b o h=>by
      rcases h with h|h
      ·exact .inl h
      ·exact .inr (.inl (by omega))) (fun h=>by cases h) (fun h=>by cases h) (fun o q1 q2=>(b2 o q1 q2).1) ⟨rfl,fun n'=>by simp[tlOf]⟩ (fun _=>trivial)
   have hlt:∀q j,q<es.length->j<sz->q*sz+j<cs.length:=fun q j hq hj=>by
    have:=Nat.mul_le_mul_right sz (show q+1≤es.length from hq)
    rw[Nat.succ_mul]at this
    omega
   have hr:SRel ⟨fun b o=>m.A b o\/(b=p.b/\p.lo≤o/\o<p.lo+cs.length),m.β.set id p,m.H.set id .dead,m.w⟩ (.t (.sl sz es)) (.slice (some ⟨p.b,p.lo+0,none⟩) es.length cap):=by
    refine .t _ _ (.sl sz es p.b (p.lo+0) cap f hc (fun j e he=>hsz e (List.mem_of_getElem? he)) (fun q j hq hj=>.inr ⟨rfl,by omega,by have:=hlt q j hq hj;omega⟩) (fun q j hq hj=>(hf _ (hlt q j hq hj)).1) (fun q j hq hj=>(hf _ (hlt q j hq hj)).2.1) (fun q e j c he hc'=>?_))
    have hq:=(List.getElem?_eq_some_iff.1 he).1
    have hj:=(List.getElem?_eq_some_iff.1 hc').1
    rw[hsz e (List.mem_of_getElem? he)]at hj
    have hcc:cs[q*sz+j]?=some (.t c):=by rw[hcs,List.getElem?_map,l2 q j e c he hc'];rfl
    have:=(hf _ (hlt q j hq hj)).2.2 _ hcc
    cases this with
    | t _ _ h=>exact s.trel h2 h
   refine wpr_mono (k φ ⟨fun b o=>m.A b o\/(b=p.b/\p.lo≤o/\o<p.lo+cs.length),m.β.set id p,m.H.set id .dead,m.w⟩ a (by rw[h1];exact hH') hm' ⟨h3.1,fun j v hv=>?_⟩ (h4.step h2 s)) fun _ _ _ hp=>hp.step s
   by_cases hj:i=j
   ·subst hj
    rw[Env.look_cons_same]at hv
    cases hv
    exact⟨_,hx1,hr⟩
   ·rw[Env.look_cons_other _ _ hj]at hv
    exact(h3.step h2 s).2 j v hv
end rules
theorem unders_t(k:Nat):∀(ts:List T),unders k (ts.map .t)=true
 | []=>rfl
 | t::ts=>by simp[unders,SV.under,unders_t k ts]
theorem rens_t(r:Nat->Nat):∀(ts:List T),rens r (ts.map .t)=ts.map .t
 | []=>rfl
 | t::ts=>by simp[rens,SV.ren,rens_t r ts]
section rules
variable {P:Program}{n:Nat}{env:Env}{H:Heap}{K:TK}{all:Array Oper}{rest:List Oper}{tab:Tab}
variable {d:Nat}{ty:TypeId}{pos:String}{aft:Array Edge}
theorem hands_none(H:Heap):Hands H [] []:=hands_range (N:=0) (Nat.zero_le _) rfl rfl
theorem TO.callMs{cargs:List SV}{tl:List T}{sz off len:Nat}{f:Operand}{fid:FuncId}{caps:List SV}{args:Array Operand}{ts:Array TypeId}{vs:List SV}
  (hs:Sound P fid cargs [] fun r H'=>r= .ret (.ms sz 0 off len)/\H'=[.cells (tl.map .t)])(hd:Nat.ble (d+1) n=true)
  (hf:env.val f=some (.fn fid caps))(ha:env.vals args.toList=some vs)(hl:Les (vs++caps) cargs)(hu:unders 0 cargs=true)
  (k:TO false P n all rest ((d,.ms sz H.length off len)::env) (H++[.cells (tl.map .t)]) K):
  TO false P n all (⟨some d,.call { callee:=.value f,args:=args,argTypes:=ts },ty,pos,aft,none⟩::rest) env H K:=
 TO.call1 [] hs hd hf ha (by rw[rens_under (N:=0) (fun j hj=>by omega) _ hu];exact hl) hu (hands_none H) (by simp[SV.ren,names]) (by
  simp only[patch,List.map_cons,List.map_nil,Blk.ren,rens_t]) k
theorem TO.append_none(hT:TabOk P tab){t t' e:TypeId}{i i' ie:TyI}{sz:Nat}{x y:Operand}{vy:SV}(hd:Nat.ble (d+1) n=true)(ht:tab.get t=some i)(hk:i.k= .slice e)(ht':tab.get t'=some i')(hk':i'.k= .slice e)
  (he:tab.get e=some ie)(hs:ie.size=sz)(hpos:Nat.ble 1 sz=true)(hx:env.val x=some (.t (.v (.slice none 0 0))))(hy:env.val y=some vy)(hvy:vy.elems sz=some [])
  (k:TO false P n all rest ((d,.t (.v (.slice none 0 0)))::env) H K):TO false P n all (⟨some d,.call { callee:=.builtin .append,args:=#[x,y],argTypes:=#[t,t'] },ty,pos,aft,none⟩::rest) env H K:=
 TO.eff hd (fun m ac g1 g2 g3=>by
  have hp':=Nat.le_of_ble_eq_true hpos
  have hy':=(g3.val hy).elems hvy
  obtain⟨ad,cap',hq⟩:=hy'.slice_inv
  rw[hq]at hy'
  obtain⟨g,f0,f1,f2,f3⟩:=firstCells_run (P:=P) hy' (by omega)
  have f0':=f0 m.w rfl
  simp only[List.length_nil]at hq f0'
  refine⟨.slice none 0 0,m,?_,Step.refl m,g2,g1,.t _ _ (.v _)⟩
  simp[execOp,resolve,invoke,builtin,Builtin.append_,underlying,(hT t i ht).slice hk,(hT t' i' ht').slice hk',(hT e ie he).sizeOf,hs,Builtin.lenOf,hq,f0',(g3.val hx).v_eq]) k
theorem run_eql_sl_none{t e:TypeId}(h:P.underlying t=some (.slice e))(p:Option Addr)(len cap:Nat)(w:World):(Go.binOp .eql t (.slice p len cap) (.slice none 0 0)).run P w= .ok (.bool p.isNone) w:=by
 have h':∀d:Nat,(Op.equalIn (d+1) t (.slice p len cap) (.slice none 0 0)).run P w= .ok p.isNone w:=fun d=>by
  cases p <;> simp[Op.equalIn,run_underlying h]
 simp only[Go.binOp]
 simp[Op.equal,Op.maxDepth,h' 9999]
theorem TO.eq_nil_sl(hT:TabOk P tab){t t' e:TypeId}{i:TyI}{sz:Nat}{es:List T}{x:Operand}{v:SV}(hd:Nat.ble (d+1) n=true)(ht:tab.get t=some i)(hk:i.k= .slice e)(hx:env.val x=some v)(hv:v.elems sz=some es)
  (k1:es=[]->TO false P n all rest ((d,.t (.v (.bool true)))::env) H K)(k2:TO false P n all rest ((d,.t (.v (.bool false)))::env) H K):TO false P n all (⟨some d,.binOp .eql t x (.const (.slice none 0 0)) t',ty,pos,aft,none⟩::rest) env H K:=by
 intro φ m a h1 h2 h3 h4
 have h:=(h3.val hx).elems hv
 obtain⟨ad,cap,hq⟩:=h.slice_inv
 rw[hq]at h
 have hrun:(execOp a.eval ⟨some d,.binOp .eql t x (.const (.slice none 0 0)) t',ty,pos,aft,none⟩).run P m.w= .ok (.value (.bool ad.isNone)) m.w:=by
  simp[execOp,eval_const,hq,eqGuard,run_eql_sl_none ((hT t i ht).slice hk)]
 refine wpListIn_plain rfl fun K' hK=>?_
 unfold Oper.wpIn
 refine⟨fun _ _=>trivial,?_⟩
 rw[semAt_val hrun (by intro d e;cases e)]
 simp only[Oper.uponIn]
 refine hK _ _ (TO.step' (Step.refl m) ?_)
 cases ad with
 | none=>
   have he:es=[]:=by
    generalize hl:es.length=q at h
    cases h with
    | nil=>rfl
   exact k1 he φ m _ h1 h2 (h3.put d (Nat.le_of_ble_eq_true hd) (.t _ _ (.v _))) (by simpa [Act.put]using h4)
 | some b=>exact k2 φ m _ h1 h2 (h3.put d (Nat.le_of_ble_eq_true hd) (.t _ _ (.v _))) (by simpa [Act.put]using h4)
theorem TO.build0(hT:TabOk P tab){t e:TypeId}{i ie:TyI}{sz:Nat}(hd:Nat.ble (d+1) n=true)(ht:tab.get t=some i)(hk:i.k= .slice e)(he:tab.get e=some ie)(hs:ie.size=sz)
  (k:TO false P n all rest ((d,.sl sz [] H.length)::env) (H++[.tail 0]) K):TO false P n all (⟨some d,.buildSlice t 0 #[],ty,pos,aft,none⟩::rest) env H K:=
 TO.eff hd (fun m ac h1 h2 h3=>by
  subst h1
  have hrun:(Instr.buildSlice t 0 #[]).run P m.w= .ok (.slice (some ⟨m.w.heap.size,0,none⟩) 0 0) (m.w.alloc (.cells #[] e)):=by
   simp[Instr.buildSlice,underlying,(hT t i ht).slice hk,(hT e ie he).sizeOf,newRow,Instr.fill]
   rw[show Array.range 0= #[] from by decide];simp
  obtain⟨s,hm'⟩:=grow h2 (A':=m.A) (βn:=[⟨m.w.heap.size,0,0⟩]) (Hn:=[.tail 0]) (w':=m.w.alloc (.cells #[] e)) rfl rfl rfl (by simp) (fun b hb=>RowKit.Below.heap_alloc _ _ _ hb) (fun _ _ h=>h) (fun _ _ h=>.inl h) rfl (by
   intro i p k h1 h2 h3
   cases i with
   | zero=>simp at h1;subst h1;left;simp
   | succ i=>simp at h1) (by
   intro i j p q hij h1 h2
   cases i <;> cases j <;> simp at h1 h2 hij) (fun _ _ h h'=>absurd h h') (by
   intro s i p k h1 h2
   cases i with
   | zero=>simp at h1 h2;subst h1;subst h2;exact fun o q1 q2=>by simp only at q1 q2;omega
   | succ i=>simp at h1)
  refine⟨_,_,by simp only[execOp,Array.map_empty,Sem.run_bind,hrun];rfl,s,hm',rfl,?_⟩
  refine .sl _ _ _ _ ⟨m.w.heap.size,0,0⟩ (.empty sz _) (by show(m.β++_)[m.H.length]?=_;rw[<-h2.len];simp) fun q hq=>?_
  have hk':tlOf (m.H++[Blk.tail 0])[m.H.length]?=some q:=hq
  simp[tlOf]at hk'
  subst hk'
  exact⟨Nat.le_refl _,fun _=>⟨some ⟨m.w.heap.size,0,none⟩,0,0,rfl,Nat.le_refl _,rfl,by simp,by simp,rfl⟩⟩) k
end rules
def mixC(cs:List T)(z:List T)(n:Nat):List SV:=cs.map .t++zerosOf z n
theorem mixC_len(cs z:List T)(n:Nat):(mixC cs z n).length=cs.length+n*z.length:=by simp[mixC,zerosOf_len]
theorem zerosOf_drop(z:List T)(n m:Nat)(h:m≤n):(zerosOf z n).drop (m*z.length)=zerosOf z (n-m):=by
 obtain⟨q,rfl⟩:∃q,n=m+q:=⟨n-m,by omega⟩
 have:zerosOf z (m+q)=zerosOf z m++zerosOf z q:=by
  unfold zerosOf
  rw[<-List.map_append,<-List.flatten_append,List.replicate_append_replicate]
 rw[this,List.drop_append_of_le_length (by rw[zerosOf_len];exact Nat.le_refl _),List.drop_of_length_le (by rw[zerosOf_len];exact Nat.le_refl _),List.nil_append]
 congr 1;omega
theorem mixC_splice(cs ys z:List T)(n m off:Nat)(h:m≤n)(ho:off=cs.length)(hy:ys.length=m*z.length):splice (mixC cs z n) off (ys.map .t)=mixC (cs++ys) z (n-m):=by
 subst ho
 unfold splice mixC
 have h1:((cs.map SV.t++zerosOf z n).take cs.length)=cs.map SV.t:=by
  rw[List.take_append_of_le_length (by simp)]
  exact List.take_of_length_le (by simp)
 have h2:(cs.map SV.t++zerosOf z n).drop (cs.length+(ys.map SV.t).length)=zerosOf z (n-m):=by
  rw[List.drop_append,List.drop_of_length_le (by simp),List.nil_append,List.length_map,List.length_map,hy,show cs.length+m*z.length-cs.length=m*z.length from by omega]
  exact zerosOf_drop z n m h
 rw[h1,h2,List.map_append]
theorem mixC_zero(cs z:List T):mixC cs z 0=cs.map .t:=by simp[mixC,zerosOf]
theorem flat_take{sz:Nat}(es:List T)(h:∀e∈es,e.cells.length=sz):∀(k:Nat) (hk:k<es.length),(((es.map T.cells).flatten).drop (k*sz)).take sz=es[k].cells:=by
 induction es with
 | nil=>intro k hk;simp at hk
 | cons e es ih=>
   intro k hk
   have he:=h e List.mem_cons_self
   rw[List.map_cons,List.flatten_cons]
   cases k with
   | zero=>rw[Nat.zero_mul,List.drop_zero,List.take_append_of_le_length (by omega),List.take_of_length_le (by omega)];rfl
   | succ k=>
     rw[List.drop_append,List.drop_of_length_le (by rw[he,Nat.succ_mul];omega),List.nil_append,he,show(k+1)*sz-sz=k*sz from by rw[Nat.succ_mul];omega]
     exact ih (fun x hx=>h x (List.mem_cons_of_mem _ hx)) k (by simpa using hk)
end Go.TL
