import Derived.Lib.MinMax
import Derived.Lib.Bytealg
import Derived.Test.YtdicfgideclbdaaGreatDoorAk4
set_option maxHeartbeats 64000000
set_option linter.all false
namespace Go.TL
open Go
variable {x y f:Operand}{a:Act}{l rest:List Oper}{c:Int}{Hc H' H1 H0 HF H:Heap}{cargs caps vs cs:List SV}{fid:FuncId}{m:M}{ts es:List T}{e t' ty:TypeId}{ie:TyI}{sz id' d:Nat}{ik:IntKind}{vy pv:SV}{o:Oper}{X:Act->World->Prop}{Q:Exit->Act->World->Prop}{g:Prop}{env1 env0 envF env:Env}{φ:Fm}{σ:Type}{rs:List ResultVar}{P:Program}{K:TK}{all:Array Oper}{q:Bool}{aft:Array Edge}
section rules
variable {n:Nat}
theorem zac.zzE{len k:Nat}{I:Nat->Prop}{E:Nat->Env}{G:Nat->Heap}(j:Nat)(hk:k<len)(hI:I (k+1))(h1:Nat.ble (G k).length j=true)(h2:Nat.ble j H.length=true)
  (hH:H.take j=G (k+1))(h3:zaa j (G (k+1))=true)(h4:(E (k+1)).under j=true)
  (h0:env.sub (E (k+1)):=by repeat' (first|exact trivial|refine qav rfl ?_|fail)):
  zac (fun k=>k≤len/\I k) (fun k=>len-k) E G k K .normal env H:=
 zac.cut j (k+1) ⟨hk,hI⟩ oA h0 h1 h2 hH h3 h4
end rules
section rules
variable {n:Nat}
variable {pos:String}
theorem TO.maxi{a b:Int}{ts:Array TypeId}(hd:Nat.ble (d+1) n=true)(hx:env.val x=some (.t (.v (.int .i64 a))))(hy:env.val y=some (.t (.v (.int .i64 b)))):RV q P n all rest env H K d (.call { callee:=.builtin .max,args:=#[x,y],argTypes:=ts }) (.t (.v (.int .i64 (max a b)))):=
 TO.op hd (fun m ac h1 h2 h3=>⟨.int .i64 (max a b),fun w' hw'=>by
  simp[execOp,resolve,invoke,builtin,(h3.val hx).v_eq,(h3.val hy).v_eq,Go.Lib.run_max_ints],.t _ _ (.v _)⟩)
theorem TO.mini{a b:Int}{ts:Array TypeId}(hd:Nat.ble (d+1) n=true)(hx:env.val x=some (.t (.v (.int .i64 a))))(hy:env.val y=some (.t (.v (.int .i64 b)))):RV q P n all rest env H K d (.call { callee:=.builtin .min,args:=#[x,y],argTypes:=ts }) (.t (.v (.int .i64 (min a b)))):=
 TO.op hd (fun m ac h1 h2 h3=>⟨.int .i64 (min a b),fun w' hw'=>by
  simp[execOp,resolve,invoke,builtin,(h3.val hx).v_eq,(h3.val hy).v_eq,Go.Lib.run_min_ints],.t _ _ (.v _)⟩)
theorem TO.zhi{f:FuncId}{fn:Func}{ts:Array TypeId}{l:Str}(hd:Nat.ble (d+1) n=true)(hf:P.funcs[f]?=some fn)(hname:(fn.name == "runtime.NumGoroutine")=false)(hb:fn.body.isNone=true)(hn:Extern.findNext fn=none)
  (he:Extern.find fn=some Extern.BytealgIndexByte.indexByte)(hx:env.val x=some (.t (.v (str l))))(hy:env.val y=some (.t (.v (.int .u8 c)))):RV q P n all rest env H K d (.call { callee:=.value (.func f),args:=#[x,y],argTypes:=ts }) (.t (.v (.int .i64 (Lib.indexByte l c.toNat.toUInt8)))):=
 TO.op hd (fun m ac h1 h2 h3=>⟨.int .i64 (Lib.indexByte l c.toNat.toUInt8),fun w' hw'=>by
  have:=run_callFunc_extern hf hname hb hn he #[ac.eval x,ac.eval y] w'
  rw[(h3.val hx).v_eq,(h3.val hy).v_eq,Lib.run_indexByteString]at this;simp only[Result.andThen]at this;simp[execOp,resolve,eval_func,Deferred.ofValue,invoke,(h3.val hx).v_eq,(h3.val hy).v_eq,this],.t _ _ (.v _)⟩)
end rules
section rules
variable {n:Nat}
variable {pos:String}
theorem TO.zbI(N:Nat){Hc1:Heap}{v:SV}{args:Array Operand}{ts:Array TypeId}
  (hs:Sound P fid cargs Hc fun r H'=>r= .ret v/\H'=Hc1)(hd:Nat.ble (d+1) n=true)(hf:env.val f=some (.fn fid caps))(ha:env.vals args.toList=some vs)(hl:Les (vs++caps) cargs)
  (hN:Nat.ble N H.length=true)(hc:H.take N=Hc)(hu:unders N cargs=true)(hb:zaa N Hc=true)(hv:v.under N=true)(h1:Hc1.length=N)(h2:zaa N Hc1=true)
  (hH:za7 (Hc1++H.drop N)=some H')(k:TO false P n all rest ((d,v)::env) H' K):
  TO false P n all (⟨some d,.call { callee:=.value f,args:=args,argTypes:=ts },ty,pos,aft,none⟩::rest) env H K:=by
 refine TO.zxd N hs ⟨fun u G hr=>?_,fun u G hr=>?_⟩ hd hf ha hl hu (qaj hN) hc hb (fun u G hr=>?_) (fun u G hr=>?_)
 ·obtain⟨h,rfl⟩:=hr;cases h;exact⟨hv,h1,h2⟩
 ·cases hr.1
 ·obtain⟨h,rfl⟩:=hr;cases h;rw[<-zby hH];exact k
 ·cases hr.1
end rules
def zaK(z:List T)(n:Nat):List SV:=(List.replicate n z).flatten.map .t
theorem zsZ{α:Type}(z:List α)(hz:0<z.length):∀(n j:Nat),j<n*z.length->(List.replicate n z).flatten[j]?=z[j % z.length]?
 | 0,j,h=>by simp at h
 | n+1,j,h=>by
   rw[qbN,qaK];by_cases hj:j<z.length
   ·rw[qat hj,Nat.mod_eq_of_lt hj]
   ·rw[qas oA,zsZ z hz n (j-z.length) (by rw[qb7]at h;omega),<-Nat.mod_eq_sub_mod oA]
theorem zba(z:List T)(n:Nat):(zaK z n).length=n*z.length:=by simp[zaK]
theorem zjC(hm:HRel m){z:Array Value}{arr:Array Value}{c N:Nat}(hz:zee ts z.toList=true)(hpos:0<ts.length)(hN:c≤N)(hsz:arr.size=N*ts.length)(harr:∀j,j<N*ts.length->arr[j]?=z[j % ts.length]?):
  Step m ⟨m.A,m.β++[⟨m.w.heap.size,0,arr.size⟩],m.H++[.cells (zaK ts c)],m.w.alloc (.cells arr e)⟩/\HRel ⟨m.A,m.β++[⟨m.w.heap.size,0,arr.size⟩],m.H++[.cells (zaK ts c)],m.w.alloc (.cells arr e)⟩:=by
 obtain⟨g1,g0,g2⟩:=zbY (A:=m.A) (w:=m.w) _ _ hz;have hcN:c*ts.length≤N*ts.length:=qaH _ hN;refine zcw hm _ arr e (by rw[zba,hsz];exact hcN) (fun j y hy=>?_) (fun j s y hs hy=>?_)
 ·have hj:=(qam.1 hy).1;rw[harr j oA]at hy;exact g0 _ y (by simpa using hy)
 ·have hj:=(qam.1 hy).1;rw[harr j oA]at hy;have hjs:=(qaa.1 hs).1;rw[zba]at hjs;unfold zaK at hs;rw[qan,zsZ ts hpos c j hjs]at hs;cases hq:ts[j % ts.length]? with
  | none=>rw[hq]at hs;cases hs
  | some u=>rw[hq]at hs;cases hs;exact .t _ _ (g2 _ u y hq (by simpa using hy))
theorem zbD(z:Array Value)(n:Nat):(Builtin.zeroCells z n).size=n*z.size:=by simp[Builtin.zeroCells]
section rules
variable {n:Nat}{tab:Tab}
variable {pos:String}
theorem zpb(hm:HRel m):Step m ⟨m.A,m.β,m.H,m.w.drew⟩/\HRel ⟨m.A,m.β,m.H,m.w.drew⟩:=
 zej hm ⟨rfl,rfl,rfl,qag _,fun _ _=>rfl⟩
theorem TO.zli(hT:zas P tab){t:TypeId}{i:TyI}{c:Nat}{ik':IntKind}(hd:Nat.ble (d+1) n=true)(ht:tab.get t=some i)(hk:i.k= .slice e)(he:tab.get e=some ie)(hs:ie.size=sz)(hpos:Nat.ble 1 sz=true)
  (hu:P.underlying t'=some (.int ik'))(hx:env.val x=some (.t (.v (.slice none 0 0))))(hy:env.val y=some (.t (.v (.int ik (c:Int)))))(h1:1≤c)(h2:c≤10000000000)(hby:Nat.ble ie.bytes 4096=true)
  (k:TO false P n all rest ((d,.ms sz H.length 0 c)::env) (H++[.cells (zaK ie.zero c)]) K):TO false P n all (⟨some d,.call { callee:=.builtin .append,args:=#[x,y],argTypes:=#[t,t'] },ty,pos,aft,none⟩::rest) env H K:=
 TO.eff hd (fun m ac g1 g2 g3=>by
  have hp':=qaj hpos;have hb':=qaj hby;obtain⟨ti,hti,hti1,hti2⟩:=(hT e ie he).info;obtain⟨z,hz1,hz2,_,_⟩:=(hT e ie he).zero;have hln:=(hT e ie he).len
  have hzl:z.cells.size=sz:=by
   exact zwfi
  have hmul:(2*c+512)*ie.bytes≤(2*10000000000+512)*4096:=qbU oA hb';have hcm:c*ie.bytes≤10000000000*4096:=qbU h2 hb';have hw:IntKind.i64.wrap (c:Int)=c:=ze2 oA oA
  have hbig:¬(281474976710656<(c:Int)*(ti.bytes:Int)):=by
   rw[hti2,<-Int.natCast_mul];omega
  have hneg:¬((c:Int)<0):=oA
  have hbound:¬281474976710656<Builtin.nextslicecap c 0*ti.bytes:=by
   have h1:=nextslicecap_le c 0 oA;have h2:Builtin.nextslicecap c 0≤2*c+512:=oA
   have h3:=qaH ti.bytes h2;rw[hti2]at h3⊢;omega
  have hmax:¬(9223372036854775807<(c:Int)):=oA
  have hmx:(IntKind.i64.max:Int)=9223372036854775807:=oB
  obtain⟨nc,hnc⟩:∃nc,nc=(Question.appendCap c 0 e).cut (m.w.tape m.w.drawn (.appendCap c 0 e)):=⟨_,rfl⟩;have hnc2:c≤nc:=by rw[hnc];simp[Question.cut]
  obtain⟨arr,harr⟩:∃arr:Array Value,arr=Builtin.zeroCells z.cells c++Builtin.zeroCells z.cells (nc-c):=⟨_,rfl⟩;have hcs:c*sz≠0:=Nat.mul_ne_zero oA oA
  have hrun:(Builtin.append_ #[t,t'] ty #[.slice none 0 0,.int ik (c:Int)]).run P m.w= .ok (.slice (some ⟨m.w.heap.size,0,none⟩) c nc) (m.w.drew.alloc (.cells arr e)):=by
   have hfo:(Question.appendCap c 0 e).forced=false:=rfl;have hc0:¬c=0:=oA
   have hs0:¬sz=0:=oA
   have hadd:(Builtin.append_ #[t,t'] ty #[.slice none 0 0,.int ik (c:Int)]).run P m.w=(((do
     pure (.slice (some (<-newRow e (Builtin.zeroCells z.cells c++Builtin.zeroCells z.cells (nc-c)))) c nc)):Sem Value).run P { m.w with drawn:=m.w.drawn+1 }):=by
    simp[Builtin.append_,underlying,hu,(hT t i ht).slice hk,(hT e ie he).sizeOf,hs,asInt,asIntOf,hw,typeInfo,hti,hbig,hneg,hbound,hmx,hmax,hfo,<-hnc,hz1,hcs,hc0,hs0,Builtin.firstCells]
   rw[hadd];simp[newRow];rw[harr]
  have hsize:arr.size=nc*ie.zero.length:=by
   rw[harr,Array.size_append,zbD,zbD,<-qa3,hzl,hln,hs];congr 1;omega
  obtain⟨s0,hm0⟩:=zpb g2
  obtain⟨s,hm'⟩:=zjC hm0 (ts:=ie.zero) (z:=z.cells) (e:=e) (arr:=arr) (c:=c) (N:=nc) hz2 oA hnc2 hsize (fun j hj=>by
   have hzz:z.cells.size=ie.zero.length:=oA
   rw[harr,<-hzz];rw[<-hzz]at hj;by_cases hj1:j<c*z.cells.size
   ·rw[qa7 (by rw[zbD];exact hj1),zc3 _ _ _ oA hj1]
   ·rw[qbi (by rw[zbD];omega),zbD,zc3 _ _ _ oA (by rw[Nat.sub_mul];omega)];congr 1;rw[qcx c];exact Nat.sub_mul_mod (by rw[qcx];omega))
  refine⟨.slice (some ⟨m.w.heap.size,0,none⟩) c nc,⟨m.A,m.β++[⟨m.w.heap.size,0,arr.size⟩],m.H++[.cells (zaK ie.zero c)],m.w.drew.alloc (.cells arr e)⟩,by simp[execOp,resolve,invoke,builtin,(g3.val hx).v_eq,(g3.val hy).v_eq,hrun],s0.trans s,hm',by rw[<-g1],?_⟩;rw[<-g1];refine .ms sz m.H.length 0 c nc ⟨m.w.heap.size,0,arr.size⟩ (by simp[g2.len]) (by intro q;simp[tlOf]) hnc2 ?_;show 0+0+nc*sz=arr.size;rw[hsize,hln,hs];omega) k
theorem zbR{sz:Nat}:∀(es:List T),(∀e∈es,e.cells.length=sz)->((es.map T.cells).flatten.length=es.length*sz/\∀(i j:Nat) e c,es[i]?=some e->e.cells[j]?=some c->((es.map T.cells).flatten)[i*sz+j]?=some c)
 | [],_=>oC
 | e::es,h=>by
   obtain⟨h1,h2⟩:=zbR es (fun x hx=>h x (qai _ hx));have he:=h e qah;refine⟨by rw[qaf,qaK,qab,h1,he,qae,qb7];omega,fun i j x c hx hc=>?_⟩;rw[qaf,qaK];cases i with
   | zero=>
     simp at hx;subst hx
     have:=(qaa.1 hc).1
     rw[qcy,qaV,qat this];exact hc
   | succ i=>
     rw[qas (by rw[he,qb7];omega),he,show(i+1)*sz+j-sz=i*sz+j from by rw[qb7];omega];exact h2 i j x c (by simpa using hx) hc
theorem TO.zrf(hT:zas P tab){t:TypeId}{i i':TyI}{id off len:Nat}{ys:List T}(hd:Nat.ble (d+1) n=true)(ht:tab.get t=some i)(hk:i.k= .slice e)(ht':tab.get t'=some i')(hk':i'.k= .slice e)
  (he:tab.get e=some ie)(hs:ie.size=sz)(hpos:Nat.ble 1 sz=true)(hx:env.val x=some (.ms sz id off len))(hH:H[id]?=some (.cells cs))(hy:env.val y=some vy)(hvy:vy.elems sz=some ys)
  (hfit:off+(len+ys.length)*sz≤cs.length)(hH':H.set id (.cells (splice cs (off+len*sz) ((ys.map T.cells).flatten.map .t)))=H')
  (k:TO false P n all rest ((d,.ms sz id off (len+ys.length))::env) H' K):TO false P n all (⟨some d,.call { callee:=.builtin .append,args:=#[x,y],argTypes:=#[t,t'] },ty,pos,aft,none⟩::rest) env H K:=
 TO.eff hd (fun m ac g1 g2 g3=>by
  have hp':=qaj hpos;have hy':=(g3.val hy).elems hvy;obtain⟨ad,cap',hq⟩:=hy'.zca;rw[hq]at hy';obtain⟨g,f0,f1,f2,f3⟩:=zbA (P:=P) hy' oA;have h:=g3.val hx;generalize hz:ac.eval x=z at h;cases h with
  | ms _ _ _ _ cap p hp hn hc hh=>
    have hH1:m.H[id]?=some (.cells cs):=by rw[g1];exact hH
    obtain⟨b1,b2,b3⟩:=g2.blk id p _ hp hH1
    have hcap:len+ys.length≤cap:=by
     have:(len+ys.length)*sz≤cap*sz:=oA
     exact Nat.le_of_mul_le_mul_right this oA
    have hmul:(len+ys.length)*sz=len*sz+ys.length*sz:=qa3 _ _ _;obtain⟨l1,l2⟩:=zbR ys (fun e he=>by obtain⟨j,hj⟩:=qbg he;exact f2 j e hj)
    have hrun:(Builtin.append_ #[t,t'] ty #[.slice (some ⟨p.b,p.lo+off,none⟩) len cap,ac.eval y]).run P m.w=
      ((storeCells (Addr.add ⟨p.b,p.lo+off,none⟩ (len*sz)) ((List.range (ys.length*sz)).map g)).run P m.w).andThen fun _ w'=>.ok (.slice (some ⟨p.b,p.lo+off,none⟩) (len+ys.length) cap) w':=by
     rw[hq];simp[Builtin.append_,underlying,(hT t i ht).slice hk,(hT t' i' ht').slice hk',(hT e ie he).sizeOf,hs,Builtin.lenOf,hcap,f0 m.w rfl]
    by_cases h0:ys.length*sz=0
    ·have hys:ys=[]:=by
      rcases Nat.mul_eq_zero.1 h0 with h|h
      ·exact qaF h
      ·omega
     subst hys;refine⟨.slice (some ⟨p.b,p.lo+off,none⟩) (len+0) cap,m,?_,Step.refl m,g2,?_,.ms sz id off len cap p hp hn hc hh⟩
     ·simp[execOp,resolve,invoke,builtin,hz,hrun,storeCells]
     ·obtain⟨hlt,hg⟩:=qaa.1 hH;have h5:splice cs (off+len*sz) ((List.map T.cells []).flatten.map .t)=cs:=by simp[splice]
      have h6:=qbv hlt;rw[hg]at h6;rw[g1,<-hH',h5];exact h6.symm
    ·obtain⟨s,hm'⟩:=ziU g2 (off:=off+len*sz) (vs:=(ys.map T.cells).flatten.map .t) (ys:=(List.range (ys.length*sz)).map g) hp hH1 (by rw[qac,l1];omega) (by rw[qac,l1];omega) (by rw[qac,l1];simp) (fun v hv=>by simp at hv;obtain⟨q,hq,rfl⟩:=hv;exact f1 q hq) (fun j c v hc' hv=>by
      have hj:=(qaa.1 hv).1;simp at hj;simp[hj]at hv;subst hv;rw[qan]at hc';obtain⟨d1,d2,d3⟩:=zfU (show 0<sz by omega) hj;have hyq:ys[j / sz]?=some ys[j / sz]:=qad d1;have hcl:=f2 _ _ hyq;have hyc:(ys[j / sz]).cells[j % sz]?=some ((ys[j / sz]).cells[j % sz]' oA):=qad oA
      have:=l2 _ _ _ _ hyq hyc
      rw[d3]at this;rw[this]at hc';cases hc';have hr:=f3 _ _ _ _ hyq hyc;rw[d3]at hr;exact .t _ _ hr)
     have hst:=run_storeCells_cells (P:=P) p.b (p.lo+(off+len*sz)) ((List.range (ys.length*sz)).map g) 0 m.w (fun q hq=>(b2 _ oA (by simp at hq;omega)).1) (fun q hq=>(b2 _ oA (by simp at hq;omega)).2)
      (fun v hv=>by simp at hv;obtain⟨q,hq,rfl⟩:=hv;exact f1 q hq)
     refine⟨.slice (some ⟨p.b,p.lo+off,none⟩) (len+ys.length) cap,_,?_,s,hm',by rw[g1];exact hH',?_⟩
     ·rw[show p.lo+(off+len*sz)=p.lo+off+len*sz from oA]at hst⊢;simp only[zbh]at hrun;rw[hst]at hrun;simp[execOp,resolve,invoke,builtin,hz,hrun]
     ·exact s.srel g2 (.ms sz id off (len+ys.length) cap p hp hn hcap hh)) k
theorem TO.zpG(hT:zas P tab){t:TypeId}{i:TyI}{z:Operand}{id off len b:Nat}(hd:Nat.ble (d+1) n=true)(ht:tab.get t=some i)(hk:i.k= .slice e)(he:tab.get e=some ie)
  (hx:env.val x=some (.ms sz id off len))(hz:env.val z=some (.t (.v (.int ik (b:Int)))))(h2:b≤len)
  (k:TO q P n all rest ((d,.ms sz id off b)::env) H K):TO q P n all (⟨some d,.slice t x none (some z) none,ty,pos,aft,none⟩::rest) env H K:=
 TO.op hd (fun m ac g1 g2 g3=>by
  have h:=g3.val hx;generalize hq:ac.eval x=v at h;cases h with
  | ms _ _ _ _ cap p hp hn hc hh=>
    refine⟨.slice (some ⟨p.b,p.lo+off,none⟩) b cap,fun w' hw'=>?_,.ms sz id off b cap p hp hn oA hh⟩
    have:=zdy (P:=P) hT ht hk he (some ⟨p.b,p.lo+off,none⟩) len cap none (some (ac.eval z)) 0 b w' (.inl ⟨rfl,rfl⟩) (.inr ⟨ik,by rw[(g3.val hz).v_eq]⟩) (qaM _) oA
    simp only[qcy,Nat.sub_zero,qaT,zbh,qcl,ite_self]at this;simp[execOp,hq,this]) k
theorem frz(h2:HRel m){id len:Nat}{x:Value}(hx:SRel m (.ms sz id 0 len) x)(hH1:m.H[id]?=some (.cells cs))(hcl:es.length*sz≤cs.length)(hcs:∀(j:Nat) c,((es.map T.cells).flatten.map SV.t)[j]?=some c->cs[j]?=some c)(hlen:len=es.length)(hsz:∀e∈es,e.cells.length=sz)(hpos:Nat.ble 1 sz=true):
  ∃m',m'.w=m.w/\m'.H=m.H.set id .dead/\m'.β=m.β/\Step m m'/\HRel m'/\SRel m' (.t (.sl sz es)) x:=by
 have hp':=qaj hpos;subst hlen;obtain⟨l1,l2⟩:=zbR es hsz;cases hx with
 | ms _ _ _ _ cap p hp hn hc hh=>
   obtain⟨b1,b2,b3⟩:=h2.blk id p _ hp hH1
   have hex:∀j,∃y,j<cs.length->m.w.cell? ⟨p.b,p.lo+j,none⟩=some y/\y.oneCell'=true/\∀c,cs[j]?=some c->SRel m c y:=by
    intro j;by_cases hj:j<cs.length
    ·obtain⟨y,hy1,hy0,hy2⟩:=b3 j cs[j] (qad hj);exact zwdi
    ·exact⟨undef,fun h=>oI h hj⟩
   let f:Nat->Value:=fun j=>Classical.choose (hex j)
   have hf:=fun j=>Classical.choose_spec (hex j)
   obtain⟨s,hm'⟩:=zeS h2 (k1:=.dead) (p':=p) (A':=fun b o=>m.A b o\/(b=p.b/\p.lo≤o/\o<p.lo+cs.length)) (w':=m.w) hp hH1 rfl rfl rfl rfl (qag _) (fun _ _ _ _=>rfl) (fun _ _ _ _ _=>rfl) (fun _ _ _=>rfl) (fun _ _ _ h=>h) (fun _ _ h=>h)
    (fun _ _ h=>.inl h) (fun b o h=>by
      rcases h with h|h
      ·exact .inl h
      ·exact .inr (.inl oA)) (fun h=>by cases h) (fun h=>by cases h) (fun o q1 q2=>(b2 o q1 q2).1) ⟨rfl,fun n'=>by simp[tlOf]⟩ (fun _=>trivial)
   have hlt:∀q j,q<es.length->j<sz->q*sz+j<cs.length:=fun q j hq hj=>by
    exact zwdq
   obtain⟨hlt2,hg⟩:=qaa.1 hp;refine⟨⟨fun b o=>m.A b o\/(b=p.b/\p.lo≤o/\o<p.lo+cs.length),m.β.set id p,m.H.set id .dead,m.w⟩,rfl,rfl,by show m.β.set id p=m.β;rw[<-hg];exact qbv hlt2,s,hm',.t _ _ (.sl sz es p.b (p.lo+0) cap f hc (fun j e he=>hsz e (qau he)) (fun q j hq hj=>.inr ⟨rfl,oA,by have:=hlt q j hq hj;omega⟩) (fun q j hq hj=>(hf _ (hlt q j hq hj)).1) (fun q j hq hj=>(hf _ (hlt q j hq hj)).2.1) (fun q e j c he hc'=>?_))⟩;have hq:=(qaa.1 he).1;have hj:=(qaa.1 hc').1;rw[hsz e (qau he)]at hj;have hcc:cs[q*sz+j]?=some (.t c):=hcs _ _ (by rw[qan,l2 q j e c he hc'];rfl)
   have:=(hf _ (hlt q j hq hj)).2.2 _ hcc
   cases this with
   | t _ _ h=>exact s.trel h2 h
theorem zsa{n:Nat}{m':M}{i:Nat}{v:SV}{x:Value}(h3:ERel m n env a.tmps)(h2:HRel m)(s:Step m m')(hx1:a.tmps[i]?=some x)(hr:SRel m' v x):ERel m' n ((i,v)::env) a.tmps:=⟨h3.1,fun j v hv=>by
 by_cases hj:i=j
 ·subst hj;rw[Env.zap]at hv;cases hv;exact⟨_,hx1,hr⟩
 ·rw[Env.zah _ _ hj]at hv;exact(h3.step h2 s).2 j v hv⟩
theorem TR.freeze{c:Code}(i sz id len:Nat)(hi:env.look i=some (.ms sz id 0 len))(hH:H[id]?=some (.cells cs))(hcs:cs=(es.map T.cells).flatten.map .t)(hlen:len=es.length)(hsz:∀e∈es,e.cells.length=sz)
  (hpos:Nat.ble 1 sz=true)(hH':H.set id .dead=H')(k:TR P n c ((i,.t (.sl sz es))::env) H' K):TR P n c env H K:=by
 intro φ m a h1 h2 h3 h4;obtain⟨x,hx1,hx2⟩:=h3.2 i _ hi;have l1:=(zbR es hsz).1;obtain⟨m',e1,e2,_,s,hm',hr⟩:=frz h2 hx2 (by rw[h1];exact hH) (by rw[hcs,qac,l1];exact qag _) (fun j c h=>by rw[hcs];exact h) hlen hsz hpos
 have:=k φ m' a (by rw[e2,h1];exact hH') hm' (zsa h3 h2 s hx1 hr) (h4.step h2 s)
 rw[<-e1];exact za5 this fun _ _ _ hp=>hp.step s
end rules
theorem zla(k:Nat):∀(ts:List T),unders k (ts.map .t)=true
 | []=>rfl
 | t::ts=>by simp[unders,SV.under,zla k ts]
theorem zsY(r:Nat->Nat):∀(ts:List T),rens r (ts.map .t)=ts.map .t
 | []=>rfl
 | t::ts=>by simp[rens,SV.ren,zsY r ts]
section rules
variable {n:Nat}{tab:Tab}
variable {pos:String}
theorem ze7(H:Heap):Hands H [] []:=zfv (N:=0) (qaM _) rfl rfl
theorem TO.zry{tl:List T}{off len:Nat}{args:Array Operand}{ts:Array TypeId}
  (hs:Sound P fid cargs [] fun r H'=>r= .ret (.ms sz 0 off len)/\H'=[.cells (tl.map .t)])(hd:Nat.ble (d+1) n=true)
  (hf:env.val f=some (.fn fid caps))(ha:env.vals args.toList=some vs)(hl:Les (vs++caps) cargs)(hu:unders 0 cargs=true)
  (k:TO false P n all rest ((d,.ms sz H.length off len)::env) (H++[.cells (tl.map .t)]) K):
  TO false P n all (⟨some d,.call { callee:=.value f,args:=args,argTypes:=ts },ty,pos,aft,none⟩::rest) env H K:=
 TO.zcm [] hs hd hf ha (by rw[zbs (N:=0) (fun j hj=>oA) _ hu];exact hl) hu (ze7 H) (by simp[SV.ren,names]) (by
  simp only[patch,qaf,qaD,Blk.ren,zsY]) k
theorem TO.zm8(hT:zas P tab){t:TypeId}{i i':TyI}(hd:Nat.ble (d+1) n=true)(ht:tab.get t=some i)(hk:i.k= .slice e)(ht':tab.get t'=some i')(hk':i'.k= .slice e)
  (he:tab.get e=some ie)(hs:ie.size=sz)(hpos:Nat.ble 1 sz=true)(hx:env.val x=some (.t (.v (.slice none 0 0))))(hy:env.val y=some vy)(hvy:vy.elems sz=some [])
  (k:TO false P n all rest ((d,.t (.v (.slice none 0 0)))::env) H K):TO false P n all (⟨some d,.call { callee:=.builtin .append,args:=#[x,y],argTypes:=#[t,t'] },ty,pos,aft,none⟩::rest) env H K:=
 TO.eff hd (fun m ac g1 g2 g3=>by
  have hp':=qaj hpos;have hy':=(g3.val hy).elems hvy;obtain⟨ad,cap',hq⟩:=hy'.zca;rw[hq]at hy';obtain⟨g,f0,f1,f2,f3⟩:=zbA (P:=P) hy' oA;have f0':=f0 m.w rfl;simp only[qal]at hq f0';refine⟨.slice none 0 0,m,?_,Step.refl m,g2,g1,.t _ _ (.v _)⟩;simp[execOp,resolve,invoke,builtin,Builtin.append_,underlying,(hT t i ht).slice hk,(hT t' i' ht').slice hk',(hT e ie he).sizeOf,hs,Builtin.lenOf,hq,f0',(g3.val hx).v_eq]) k
theorem zix{t:TypeId}(h:P.underlying t=some (.slice e))(p:Option Addr)(len cap:Nat)(w:World):(Go.binOp .eql t (.slice p len cap) (.slice none 0 0)).run P w= .ok (.bool p.isNone) w:=by
 have h':∀d:Nat,(Op.equalIn (d+1) t (.slice p len cap) (.slice none 0 0)).run P w= .ok p.isNone w:=fun d=>by
  cases p <;> simp[Op.equalIn,run_underlying h]
 simp only[Go.binOp];simp[Op.equal,Op.maxDepth,h' 9999]
theorem TO.zrU(hT:zas P tab){t:TypeId}{i:TyI}{v:SV}(hd:Nat.ble (d+1) n=true)(ht:tab.get t=some i)(hk:i.k= .slice e)(hx:env.val x=some v)(hv:v.elems sz=some es)
  (k1:es=[]->TO false P n all rest ((d,.t (.v (.bool true)))::env) H K)(k2:TO false P n all rest ((d,.t (.v (.bool false)))::env) H K):TO false P n all (⟨some d,.binOp .eql t x (.const (.slice none 0 0)) t',ty,pos,aft,none⟩::rest) env H K:=by
 intro φ m a h1 h2 h3 h4;have h:=(h3.val hx).elems hv;obtain⟨ad,cap,hq⟩:=h.zca;rw[hq]at h
 have hrun:(execOp a.eval ⟨some d,.binOp .eql t x (.const (.slice none 0 0)) t',ty,pos,aft,none⟩).run P m.w= .ok (.value (.bool ad.isNone)) m.w:=by
  simp[execOp,eval_const,hq,eqGuard,zix ((hT t i ht).slice hk)]
 refine wpListIn_plain rfl fun K' hK=>?_
 unfold Oper.wpIn;refine⟨fun _ _=>trivial,?_⟩;rw[za9 hrun (by intro d e;cases e)];simp only[Oper.uponIn];refine hK _ _ (TO.zfF (Step.refl m) ?_);cases ad with
 | none=>
   have he:es=[]:=by
    generalize hl:es.length=q at h;cases h with
    | nil=>rfl
   exact k1 he φ m _ h1 h2 (h3.put d (qaj hd) (.t _ _ (.v _))) (by simpa [Act.put]using h4)
 | some b=>exact k2 φ m _ h1 h2 (h3.put d (qaj hd) (.t _ _ (.v _))) (by simpa [Act.put]using h4)
theorem TO.zyP(hT:zas P tab){t:TypeId}{i:TyI}(hd:Nat.ble (d+1) n=true)(ht:tab.get t=some i)(hk:i.k= .slice e)(he:tab.get e=some ie)(hs:ie.size=sz)
  (k:TO false P n all rest ((d,.sl sz [] H.length)::env) (H++[.tail 0]) K):TO false P n all (⟨some d,.buildSlice t 0 #[],ty,pos,aft,none⟩::rest) env H K:=
 TO.eff hd (fun m ac h1 h2 h3=>by
  subst h1
  have hrun:(Instr.buildSlice t 0 #[]).run P m.w= .ok (.slice (some ⟨m.w.heap.size,0,none⟩) 0 0) (m.w.alloc (.cells #[] e)):=by
   simp[Instr.buildSlice,underlying,(hT t i ht).slice hk,(hT e ie he).sizeOf,newRow,Instr.fill];rw[show Array.range 0= #[] from oB];simp
  obtain⟨s,hm'⟩:=grow h2 (A':=m.A) (βn:=[⟨m.w.heap.size,0,0⟩]) (Hn:=[.tail 0]) (w':=m.w.alloc (.cells #[] e)) rfl rfl rfl oC (fun b hb=>RowKit.Below.heap_alloc _ _ _ hb) (fun _ _ h=>h) (fun _ _ h=>.inl h) rfl (by
   intro i p k h1 h2 h3;cases i with
   | zero=>simp at h1;subst h1;left;simp
   | succ i=>simp at h1) (by
   intro i j p q hij h1 h2;cases i <;> cases j <;> simp at h1 h2 hij) (fun _ _ h h'=>oI h h') (by
   intro s i p k h1 h2;cases i with
   | zero=>simp at h1 h2;subst h1;subst h2;exact fun o q1 q2=>by simp only at q1 q2;omega
   | succ i=>simp at h1)
  refine⟨_,_,by simp only[execOp,Array.map_empty,Sem.run_bind,hrun];rfl,s,hm',rfl,?_⟩;refine .sl _ _ _ _ ⟨m.w.heap.size,0,0⟩ (.empty sz _) (by show(m.β++_)[m.H.length]?=_;rw[<-h2.len];simp) fun q hq=>?_
  have hk':tlOf (m.H++[Blk.tail 0])[m.H.length]?=some q:=hq;simp[tlOf]at hk';subst hk';exact⟨qag _,fun _=>⟨some ⟨m.w.heap.size,0,none⟩,0,0,rfl,qag _,rfl,oC,oC,rfl⟩⟩) k
end rules
def mixC(cs:List T)(z:List T)(n:Nat):List SV:=cs.map .t++zaK z n
theorem zuI(cs z:List T)(n:Nat):(mixC cs z n).length=cs.length+n*z.length:=by simp[mixC,zba]
theorem zm0(z:List T)(n m:Nat)(h:m≤n):(zaK z n).drop (m*z.length)=zaK z (n-m):=by
 obtain⟨q,rfl⟩:∃q,n=m+q:=⟨n-m,oA⟩
 have:zaK z (m+q)=zaK z m++zaK z q:=by
  unfold zaK;rw[<-qaw,<-qbM,List.replicate_append_replicate]
 rw[this,qcn (by rw[zba];exact qag _),qa2 (by rw[zba];exact qag _),qaP];congr 1;omega
theorem znM(cs ys z:List T)(n m off:Nat)(h:m≤n)(ho:off=cs.length)(hy:ys.length=m*z.length):splice (mixC cs z n) off (ys.map .t)=mixC (cs++ys) z (n-m):=by
 subst ho;unfold splice mixC
 have h1:((cs.map SV.t++zaK z n).take cs.length)=cs.map SV.t:=by
  rw[qco oC];exact qaJ oC
 have h2:(cs.map SV.t++zaK z n).drop (cs.length+(ys.map SV.t).length)=zaK z (n-m):=by
  rw[qcI,qa2 oC,qaP,qac,qac,hy,show cs.length+m*z.length-cs.length=m*z.length from oA];exact zm0 z n m h
 rw[h1,h2,qaw]
theorem zsx(cs z:List T):mixC cs z 0=cs.map .t:=by simp[mixC,zaK]
theorem zr6(es:List T)(h:∀e∈es,e.cells.length=sz):∀(k:Nat) (hk:k<es.length),(((es.map T.cells).flatten).drop (k*sz)).take sz=es[k].cells:=by
 induction es with
 | nil=>intro k hk;simp at hk
 | cons e es ih=>
   intro k hk;have he:=h e qah;rw[qaf,qaK];cases k with
   | zero=>rw[qcy,qbj,qco oA,qaJ oA];rfl
   | succ k=>
     rw[qcI,qa2 (by rw[he,qb7];omega),qaP,he,show(k+1)*sz-sz=k*sz from by rw[qb7];omega];exact ih (fun x hx=>h x (qai _ hx)) k (by simpa using hk)
section rules
variable {n:Nat}{tab:Tab}
variable {pos:String}
theorem TO.zrA(hT:zas P tab){t:TypeId}{i:TyI}(hd:Nat.ble (d+1) n=true)(ht:tab.get t=some i)(hk:i.k= .slice e)(hx:env.val x=some (.t (.v (.slice none 0 0))))
  (k:TO q P n all rest ((d,.t (.v (.int .i64 0)))::env) H K):TO q P n all (⟨some d,.call { callee:=.builtin .cap,args:=#[x],argTypes:=#[t] },ty,pos,aft,none⟩::rest) env H K:=
 TO.op hd (fun m ac h1 h2 h3=>⟨.int .i64 0,fun w' hw'=>by
  simp[execOp,resolve,invoke,builtin,Builtin.cap_,underlying,(hT t i ht).slice hk,(h3.val hx).v_eq,goInt],.t _ _ (.v _)⟩) k
theorem TO.ztj(hT:zas P tab){t:TypeId}{i:TyI}{z:Operand}(hd:Nat.ble (d+1) n=true)(ht:tab.get t=some i)(hk:i.k= .slice e)(he:tab.get e=some ie)
  (hx:env.val x=some (.t (.v (.slice none 0 0))))(hz:env.val z=some (.t (.v (.int ik 0))))
  (k:TO q P n all rest ((d,.t (.v (.slice none 0 0)))::env) H K):TO q P n all (⟨some d,.slice t x none (some z) none,ty,pos,aft,none⟩::rest) env H K:=
 TO.op hd (fun m ac g1 g2 g3=>by
  refine⟨.slice none 0 0,fun w' hw'=>?_,.t _ _ (.v _)⟩
  have:=zdy (P:=P) hT ht hk he none 0 0 none (some (ac.eval z)) 0 0 w' (.inl ⟨rfl,rfl⟩) (.inr ⟨ik,by rw[(g3.val hz).v_eq];rfl⟩) (qag _) (qag _)
  simp only[Nat.sub_zero,Option.map_none,ite_self]at this;simp[execOp,(g3.val hx).v_eq,this]) k
theorem TO.zti(hT:zas P tab){t:TypeId}{i:TyI}{z:Operand}{id off len:Nat}(hd:Nat.ble (d+1) n=true)(ht:tab.get t=some i)(hk:i.k= .slice e)(he:tab.get e=some ie)
  (hx:env.val x=some (.ms sz id off len))(hz:env.val z=some (.t (.v (.int ik 0))))
  (k:TO q P n all rest ((d,.ms sz id off 0)::env) H K):TO q P n all (⟨some d,.slice t x none (some z) none,ty,pos,aft,none⟩::rest) env H K:=
 TO.zpG hT hd ht hk he hx (b:=0) hz (qaM _) k
end rules
theorem zk9(k:Nat)(ts:List T):zaa k [.cells (ts.map .t)]=true:=by
 simp[zaa,Blk.under,zla]
def zyy(X:Act->World->Prop)(Q:Exit->Act->World->Prop):Exit->Act->World->Prop
 | .normal,a,w=>X a w
 | .panic ch,a,w=>Q (.panic ch) a w
 | _,_,_=>False
def NK(env1:Env)(H1:Heap):TK
 | .normal,env,H=>env=env1/\H=H1
 | _,_,_=>False
def NKP(K:TK)(g:Prop)(env1:Env)(H1:Heap):TK
 | .normal,env,H=>(env=env1/\H=H1)/\g
 | .panic v,env,H=>K (.panic v) env H
 | _,_,_=>False
theorem ztX{F:Fence}{n:Nat}{w:World}(h:Oper.wpIn F n P o a w X (zyy X Q)):Oper.wpIn F n P o a w X Q:=by
 unfold Oper.wpIn at h⊢;refine⟨h.1,?_⟩;have h2:=h.2;revert h2;generalize (o.semAt F.round a.eval).run P w=r;intro h;cases r with
 | ok x w'=>
   cases x <;> simp only[Oper.uponIn]at h⊢ <;> first
    | exact h
    | (refine⟨h.1,CallsIn.mono h.2 fun e w2 h2=>?_⟩
       cases e with
       | returned v=>exact h2
       | panicked ch=>exact h2
       | outgrown=>obtain⟨a0,w0,h0⟩:=h2;exact h0.elim)
    | (refine⟨h.1,RoundIn.mono h.2 fun e w2 h2=>?_⟩
       cases e with
       | returned v=>exact h2
       | panicked ch=>exact h2
       | outgrown=>obtain⟨a0,w0,h0⟩:=h2;exact h0.elim)
 | halt x w'=>
   cases x <;> simp only[Oper.uponIn]at h⊢
   exact h
theorem zva{n i:Nat}(ho:all[i]?=some o)(ht:TO false P n all [o] env H (NKP K g env1 H1))(h1:m.H=H)(h2:HRel m)(h3:ERel m n env a.tmps)(h4:zdE φ m.w a.defers)
  (next:g->∀m' a',m'.H=H1->Step m m'->HRel m'->ERel m' n env1 a'.tmps->zdE φ m'.w a'.defers->X a' m'.w)
  (hpan:∀m' env' a' v ch,Step m m'->HRel m'->ERel m' n env' a'.tmps->zdE φ m'.w a'.defers->zbe m' (.panic v) (.panic ch)->K (.panic v) env' m'.H->Q (.panic ch) a' m'.w):wpOpIn (Fr φ.r) 0 P all Q i X a m.w:=by
 have h:=ht φ m a h1 h2 h3 h4;simp only at h
 have h':wpListIn (Fr φ.r) 0 P all (zyy X Q) [o] a m.w:=by
  refine za4 (fun e a' w' hp=>?_) (fun _ _=>Post.zdv) [o] a m.w h;obtain⟨m',env',te,rfl,s,hm',he',hd',hx,hk⟩:=hp;cases te with
  | normal=>
    obtain⟨⟨rfl,hH⟩,hg⟩:=hk;cases e <;> simp[zbe]at hx
    exact next hg m' a' hH s hm' he' hd'
  | exit j=>exact hk.elim
  | ret=>exact hk.elim
  | panic v=>
    cases e with
    | panic ch=>exact hpan m' env' a' v ch s hm' he' hd' hx hk
    | _=>simp[zbe]at hx
 unfold wpListIn at h';unfold wpOpIn;simp only[ho];split
 ·rename_i hw;rw[oG hw]at h';exact ztX h'
 ·rename_i hw;rw[oH hw]at h';exact⟨h'.1,h'.2⟩
theorem TO.nkp{n:Nat}(hg:g)(h:TO false P n all [o] env H (NK env1 H1)):TO false P n all [o] env H (NKP K g env1 H1):=
 fun φ m a h1 h2 h3 h4=>za4 (fun _ _ _ hp=>hp.mono fun te _ _ hk=>by cases te <;> first|exact⟨hk,hg⟩|exact hk.elim) (fun _ _=>Post.zdv) [o] a m.w (h φ m a h1 h2 h3 h4)
def zdI(all:Array Oper)(i:Nat):Option Nat:=(all[i]?).bind (·.dst)
def envA(all:Array Oper)(vs:List SV)(p:Nat->Bool):List Nat->Env
 | []=>[]
 | i::r=>match p i,zdI all i,vs[i]? with
   | true,some d,some v=>(d,v)::envA all vs p r
   | _,_,_=>envA all vs p r
theorem zbw(a b:Env)(s:Nat):Env.look (a++b) s=match Env.look a s with|some v=>some v|none=>Env.look b s:=by
 induction a with
 | nil=>rfl
 | cons x a ih=>
   obtain⟨k,v⟩:=x;simp only[qaZ,Env.look];cases Nat.beq k s
   ·exact ih
   ·rfl
theorem zc5{vs:List SV}{p:Nat->Bool}(hu:∀i j d,zdI all i=some d->zdI all j=some d->i=j){i d:Nat}{v:SV}(hp:p i=true)(hd:zdI all i=some d)(hv:vs[i]?=some v):∀(l:List Nat),i∈l->(envA all vs p l).look d=some v
 | j::l,hi=>by
   unfold envA;by_cases hij:j=i
   ·subst hij;rw[hp,hd,hv];simp only[Env.look,qbD,cond_true]
   ·have hi':i∈l:=by simpa [Ne.symm hij]using hi
    split
    ·rename_i d' v' e1 e2 e3
     have:d'≠d:=fun e=>hij (hu j i d (by rw[<-e];exact e2) hd)
     rw[Env.zah _ _ this];exact zc5 hu hp hd hv l hi'
    ·exact zc5 hu hp hd hv l hi'
theorem zeI{vs:List SV}{p:Nat->Bool}{d:Nat}:∀(l:List Nat),(∀j∈l,p j=true->zdI all j≠some d)->(envA all vs p l).look d=none
 | [],_=>rfl
 | j::l,h=>by
   unfold envA;split
   ·rename_i d' v' e1 e2 e3
    have:d'≠d:=fun e=>h j qah e1 (by rw[e2,e])
    rw[Env.zah _ _ this];exact zeI l fun j' hj'=>h j' (qai _ hj')
   ·exact zeI l fun j' hj'=>h j' (qai _ hj')
theorem zkk{vs:List SV}{p:Nat->Bool}{s:Nat}{v:SV}:∀(l:List Nat),(envA all vs p l).look s=some v->∃j,j∈l/\p j=true/\zdI all j=some s/\vs[j]?=some v
 | j::l,h=>by
   unfold envA at h;split at h
   ·rename_i d' v' e1 e2 e3;by_cases hd:d'=s
    ·subst hd;rw[Env.zap]at h;cases h;exact⟨j,qah,e1,e2,e3⟩
    ·rw[Env.zah _ _ hd]at h;exact zwet
   ·exact zwet
def slotsOf(all:Array Oper)(o:Oper):List Nat:=
 (o.op.operands.toList.filterMap fun x=>match x with| .tmp t=>some t|_=>none)++(match o.guard with|some g=>(zdI all g.1).toList|none=>[])
def zaM(all:Array Oper)(vs:List SV)(env0:Env):Env:=envA all vs (fun _=>true) (List.range all.size)++env0
def zaC(full:Env):List Nat->Env
 | []=>[]
 | s::r=>match full.look s with
   | some v=>(s,v)::zaC full r
   | none=>zaC full r
theorem zgE(full:Env)(t:Nat)(v:SV):∀(l:List Nat),(zaC full l).look t=some v->t∈l/\full.look t=some v
 | s::r,h=>by
   unfold zaC at h;split at h
   ·rename_i u hu;by_cases hs:s=t
    ·subst hs;rw[Env.zap]at h;cases h;exact⟨qah,hu⟩
    ·rw[Env.zah _ _ hs]at h;exact zwel
   ·exact zwel
theorem zit{full:Env}{t:Nat}{v:SV}(h:full.look t=some v):∀(l:List Nat),t∈l->(zaC full l).look t=some v
 | s::r,hm=>by
   unfold zaC;by_cases hs:s=t
   ·subst hs;rw[h];simp only[]
    rw[Env.zap]
   ·have hr:t∈r:=by
     rcases qa5.1 hm with h1|h1
     ·exact oI h1.symm hs
     ·exact h1
    split
    ·rw[Env.zah _ _ hs];exact zit h r hr
    ·exact zit h r hr
def putE(d:Option Nat)(v:SV)(env:Env):Env:=match d with|some d=>(d,v)::env|none=>env
def Prem(P:Program)(n:Nat)(all:Array Oper)(full:Env):List Oper->List (SV×Bool)->List Heap->Prop
 | [],[],_=>True
 | o::l,(v,false)::t,hs=>(∀H env,TO false P n all [o] (zaC full (slotsOf all o)++env) H (NK (putE o.dst v (zaC full (slotsOf all o)++env)) H))/\Prem P n all full l t hs
 | o::l,(v,true)::t,H1::H2::hs=>(∀env,TO false P n all [o] (zaC full (slotsOf all o)++env) H1 (NK (putE o.dst v (zaC full (slotsOf all o)++env)) H2))/\Prem P n all full l t (H2::hs)
 | _,_,_=>False
def effs(t:List (SV×Bool))(k:Nat):Nat:=((t.take k).filter (·.2)).length
def zj8(P:Program)(n:Nat)(all:Array Oper)(full:Env)(G:List Heap):List Oper->List (SV×Bool)->List Heap->Prop
 | [],[],_=>True
 | o::l,(v,false)::t,hs=>(∀H∈G,∀env,TO false P n all [o] (zaC full (slotsOf all o)++env) H (NK (putE o.dst v (zaC full (slotsOf all o)++env)) H))/\zj8 P n all full G l t hs
 | o::l,(v,true)::t,H1::H2::hs=>(∀env,TO false P n all [o] (zaC full (slotsOf all o)++env) H1 (NK (putE o.dst v (zaC full (slotsOf all o)++env)) H2))/\zj8 P n all full G l t (H2::hs)
 | _,_,_=>False
theorem Prem.toH{n:Nat}{full:Env}{G:List Heap}:∀ {l:List Oper} {t:List (SV×Bool)} {hs:List Heap},Prem P n all full l t hs->zj8 P n all full G l t hs
 | [],[],_,_=>trivial
 | _::_,(_,false)::_,_,h=>⟨fun H _=>h.1 H,h.2.toH⟩
 | _::_,(_,true)::_,_::_::_,h=>⟨h.1,h.2.toH⟩
 | _::_,(_,true)::_,[],h=>h.elim
 | _::_,(_,true)::_,[_],h=>h.elim
 | [],_::_,_,h=>h.elim
 | _::_,[],_,h=>h.elim
theorem zj8.get{n:Nat}{full:Env}{G:List Heap}:∀ {l:List Oper} {t:List (SV×Bool)} {hs:List Heap},zj8 P n all full G l t hs->l.length=t.length/\∀(i:Nat) o v b,l[i]?=some o->t[i]?=some (v,b)->
   (b=false->∀H∈G,∀env,TO false P n all [o] (zaC full (slotsOf all o)++env) H (NK (putE o.dst v (zaC full (slotsOf all o)++env)) H))/\
   (b=true->∃H1 H2,hs[effs t i]?=some H1/\hs[effs t i+1]?=some H2/\∀env,TO false P n all [o] (zaC full (slotsOf all o)++env) H1 (NK (putE o.dst v (zaC full (slotsOf all o)++env)) H2))
 | [],[],hs,_=>oC
 | o::l,(v,false)::t,hs,h=>by
   obtain⟨h1,h2⟩:=h;obtain⟨g1,g2⟩:=zj8.get h2;refine⟨by simp[g1],fun i o' v' b' ho hv=>?_⟩;cases i with
   | zero=>simp at ho hv;obtain⟨rfl,rfl⟩:=hv;subst ho;exact⟨fun _=>h1,fun e=>by cases e⟩
   | succ i=>
     have:=g2 i o' v' b' (by simpa using ho) (by simpa using hv)
     simpa [effs]using this
 | o::l,(v,true)::t,H1::H2::hs,h=>by
   obtain⟨h1,h2⟩:=h;obtain⟨g1,g2⟩:=zj8.get h2;refine⟨by simp[g1],fun i o' v' b' ho hv=>?_⟩;cases i with
   | zero=>simp at ho hv;obtain⟨rfl,rfl⟩:=hv;subst ho;exact⟨fun e=>by(cases e),fun _=>⟨H1,H2,rfl,rfl,h1⟩⟩
   | succ i=>
     have:=g2 i o' v' b' (by simpa using ho) (by simpa using hv)
     have e:effs ((v,true)::t) (i+1)=effs t i+1:=by simp[effs]
     rw[e];simpa using this
 | o::l,(v,true)::t,[],h=>by exact h.elim
 | o::l,(v,true)::t,[_],h=>by exact h.elim
 | [],_::_,_,h=>by exact h.elim
 | _::_,[],_,h=>by exact h.elim
def mixW(w:List Nat)(ops:Array Oper)(fl:List Bool):Bool:=
 zrQ ops && ((List.range ops.size).all fun i=>
  ((List.range ops.size).all fun j=>Nat.beq i j || (match zdI ops i,zdI ops j with|some d,some d'=>!Nat.beq d d'|_,_=>true)) &&
  (match ops[i]? with
    | some o=>(slotsOf ops o).all fun s=>(List.range ops.size).all fun j=>(match zdI ops j with|some d=>!Nat.beq d s || (match w.contains s with|true=>(cov ops 8 (zaR ops j)).contains i|false=>(cov ops 8 (zaR ops i)).contains j)|none=>true)
    | none=>true) &&
  (!(fl.getD i false) || (List.range i).all fun j=>!(fl.getD j false) || (cov ops 8 (zaR ops i)).contains j))
abbrev mixB (ops:Array Oper)(fl:List Bool):Bool:=mixW [] ops fl
def okC(ops:Array Oper)(fl:List Bool)(i c:Nat):Bool:=(List.range ops.size).all fun j=>!(fl.getD j false) ||
 ((!(cov ops 8 (zaR ops j)).contains i || Nat.ble c ((fl.take j).filter id).length) && (!(cov ops 8 (zaR ops i)).contains j || Nat.blt ((fl.take j).filter id).length c))
def unl(N:Nat)(L:Array Bool):Nat:=((List.range N).filter fun i=>L[i]? == some false).length
theorem filter_lt{p q:Nat->Bool}(h:∀i,q i=true->p i=true):∀(l:List Nat) (x:Nat),x∈l->p x=true->q x=false->(l.filter q).length<(l.filter p).length
 | y::l,x,hx,hp,hq=>by
   have hle:∀l:List Nat,(l.filter q).length≤(l.filter p).length:=by
    intro l
    induction l with
    | nil=>simp
    | cons z l ih=>
      simp only[List.filter_cons];cases hz:q z
      ·cases p z <;> simp <;> omega
      ·simp[h z hz];exact ih
   simp only[List.filter_cons];rcases qa5.1 hx with rfl|hx
   ·rw[hp,hq];have:=hle l;simp;omega
   ·have:=filter_lt h l x hx hp hq
    cases hz:q y
    ·cases p y <;> simp <;> omega
    ·simp[h y hz];exact this
theorem zt2(w:List Nat)(D:σ->Nat->Bool)(Hp:σ->Heap)(V:σ->List SV){G:Nat->Prop}{n:Nat}{m0:M}(hw:∀t,w.contains t=true->(env0.look t).isSome=true)(hB:mixW w all []=true)(hvl:∀s,(V s).length=all.size)
  (hst:∀(s:σ) (i:Nat) o,all[i]?=some o->D s i=false->(∀j∈cov all 8 (zaR all i),D s j=true)->(∀k,D s k=true->∀j∈cov all 8 (zaR all k),D s j=true)->
    ∃(s':σ) (v:SV),(∀j,D s' j=(D s j || decide (i=j)))/\(∀j,D s j=true->(V s')[j]?=(V s)[j]?)/\(V s')[i]?=some v/\
     ∀env,TO false P n all [o] (zaC (zaC env0 w++zaM all (V s) env0) (slotsOf all o)++env) (Hp s) (NKP K (G i) (putE o.dst v (zaC (zaC env0 w++zaM all (V s) env0) (slotsOf all o)++env)) (Hp s')))
  (hK:∀s,(∀j,j<all.size->D s j=true)->(∀j,j<all.size->G j)->K .normal (zaM all (V s) env0) (Hp s)):
  ∀(fuel:Nat) (L:Array Bool) (m:M) (a:Act) (s:σ),L.size=all.size->DC all L->unl all.size L≤fuel->(∀i,D s i=L.getD i false)->m.H=Hp s->(∀j,L[j]?=some true->G j)->
   Step m0 m->HRel m->ERel m n (envA all (V s) (fun i=>L.getD i false) (List.range all.size)++env0) a.tmps->zdE φ m.w a.defers->
   wpAnyIn (Fr φ.r) 0 P .any all (Post φ m0 n K) fuel L a m.w:=by
 simp only[mixW,qar]at hB;obtain⟨hd,hall⟩:=hB;have hall':∀i,i<all.size->_:=fun i hi=>qaB.1 hall i (by simpa using hi)
 have hdl:∀i d,zdI all i=some d->i<all.size:=fun i d h=>by
  unfold zdI at h;cases ho:all[i]? with
  | none=>rw[ho]at h;cases h
  | some o=>exact(qam.1 ho).1
 have hu:∀i j d,zdI all i=some d->zdI all j=some d->i=j:=by
  intro i j d h1 h2
  have:=hall' i (hdl i d h1)
  simp only[qar]at this
  have:=qaB.1 this.1.1 j (by simpa using hdl j d h2)
  rw[h1,h2]at this;simpa using this
 have hcv:∀(i:Nat) o s j,all[i]?=some o->s∈slotsOf all o->zdI all j=some s->(w.contains s=true->i∈cov all 8 (zaR all j))/\(w.contains s=false->j∈cov all 8 (zaR all i)):=by
  intro i o s j ho hs' hj
  have:=hall' i (qam.1 ho).1
  simp only[qar,ho]at this
  have:=qaB.1 this.1.2 s hs'
  have:=qaB.1 this j (by simpa using hdl j s hj)
  rw[hj]at this;refine⟨fun h=>?_,fun h=>?_⟩
  ·rw[h]at this;simpa using this
  ·rw[h]at this;simpa using this
 have hfull:∀(vs:List SV) (L:Array Bool),L.size=all.size->(∀i,i<all.size->L[i]?=some true)->envA all vs (fun i=>L.getD i false) (List.range all.size)++env0=zaM all vs env0:=by
  intro vs L hL hA;unfold zaM;congr 1
  have:∀l:List Nat,(∀i∈l,i<all.size)->envA all vs (fun i=>L.getD i false) l=envA all vs (fun _=>true) l:=by
   intro l
   induction l with
   | nil=>intro _;rfl
   | cons i l ih=>
     intro hl;have h1:L.getD i false=true:=gT.2 (hA i (hl i qah));simp only[envA,h1,ih fun j hj=>hl j (qai _ hj)]
  exact this _ fun i hi=>by simpa using hi
 have hdone:∀(L:Array Bool) (m:M) (a:Act) (s:σ),L.size=all.size->(∀i,i<all.size->L[i]?=some true)->(∀i,D s i=L.getD i false)->m.H=Hp s->(∀j,L[j]?=some true->G j)->
   Step m0 m->HRel m->ERel m n (envA all (V s) (fun i=>L.getD i false) (List.range all.size)++env0) a.tmps->zdE φ m.w a.defers->Post φ m0 n K .normal a m.w:=by
  intro L m a s hL hA hD hH hG st h2 h3 h4;rw[hfull (V s) L hL hA]at h3;exact⟨m,zaM all (V s) env0,.normal,rfl,st,h2,h3,h4,trivial,by rw[hH];exact hK s (fun j hj=>by rw[hD j];exact gT.2 (hA j hj)) fun j hj=>hG j (hA j hj)⟩
 intro fuel
 induction fuel with
 | zero=>
   intro L m a s hL hdc hun hD hH hG st h2 h3 h4
   have hA:∀i,i<all.size->L[i]?=some true:=by
    intro i hi
    have:L[i]?=some (L[i]' oA):=qaq oA
    rw[this];cases hb:L[i]' oA
    ·exfalso
     have hmem:i∈(List.range all.size).filter fun i=>L[i]? == some false:=by
      rw[qcg];exact⟨by simpa using hi,by rw[this,hb];rfl⟩
     have:=List.length_pos_of_mem hmem
     unfold unl at hun;omega
    ·rfl
   refine⟨?_,hdone L m a s hL hA hD hH hG st h2 h3 h4⟩;refine qcj.2 fun i hi=>?_
   have h:=((zb7 hL).1 hi).1;rw[hA i (by rw[<-hL];exact(qam.1 h).1)]at h;cases h
 | succ fuel ih=>
   intro L m a s hL hdc hun hD hH hG st h2 h3 h4;refine⟨fun hr=>?_,fun i hi=>?_⟩
   ·refine hdone L m a s hL (fun i hi=>?_) hD hH hG st h2 h3 h4
    have:L[i]?=some (L[i]' oA):=qaq oA
    rw[this];cases hb:L[i]' oA
    ·exfalso;obtain⟨j,_,hj,_⟩:=zed hL hd (n:=i) (by rw[this,hb]);rw[hr]at hj;cases hj
    ·rfl
   ·obtain⟨g1,g2⟩:=(zb7 hL).1 hi;have hil:i<all.size:=by rw[<-hL];exact(qam.1 g1).1
    have ho:all[i]?=some all[i]:=qaq hil;generalize all[i]=o at ho;have hcl:=zdT hdc 8 (zaR all i) g2
    have hlook:∀t u,(zaC (zaC env0 w++zaM all (V s) env0) (slotsOf all o)++(envA all (V s) (fun i=>L.getD i false) (List.range all.size)++env0)).look t=some u->
      (envA all (V s) (fun i=>L.getD i false) (List.range all.size)++env0).look t=some u:=by
     intro t u htu;rw[zbw]at htu;cases hpk:(zaC (zaC env0 w++zaM all (V s) env0) (slotsOf all o)).look t with
     | none=>rw[hpk]at htu;exact htu
     | some u'=>
       rw[hpk]at htu;cases htu;obtain⟨k1,k2⟩:=zgE _ _ _ _ hpk;rw[zbw]at k2;cases hwl:(zaC env0 w).look t with
       | some u1=>
         rw[hwl]at k2;cases k2;obtain⟨w1,w2⟩:=zgE _ _ _ _ hwl;rw[zbw]
         have:(envA all (V s) (fun i=>L.getD i false) (List.range all.size)).look t=none:=by
          refine zeI _ fun j hj hjl hjd=>?_
          have hjt:=gT.1 hjl
          have:=zdT hdc 8 (zaR all j) (hdc j hjt) i ((hcv i o t j ho k1 hjd).1 (by simpa using w1))
          rw[g1]at this;cases this
         rw[this];exact w2
       | none=>
       rw[hwl]at k2
       have hwn:w.contains t=false:=by
        cases hc:w.contains t with
        | false=>rfl
        | true=>
          have h0:=hw t hc;cases he0:env0.look t with
          | none=>rw[he0]at h0;cases h0
          | some u0=>exact oI hwl (by rw[zit he0 w (by simpa using hc)];simp)
       dsimp only at k2;unfold zaM at k2;rw[zbw]at k2⊢;cases hq':(envA all (V s) (fun _=>true) (List.range all.size)).look t with
       | some u''=>
         rw[hq']at k2;cases k2;obtain⟨j,j1,_,j2,j3⟩:=zkk _ hq';have hj:=hcl j ((hcv i o t j ho k1 j2).2 hwn);rw[zc5 hu (p:=fun i=>L.getD i false) (gT.2 hj) j2 j3 _ j1]
       | none=>
         rw[hq']at k2
         have:(envA all (V s) (fun i=>L.getD i false) (List.range all.size)).look t=none:=by
          refine zeI _ fun j hj _ hjd=>?_
          have hjl:j<all.size:=by simpa using hj
          have:=zc5 (vs:=V s) hu (p:=fun _=>true) rfl hjd (qad (by rw[hvl];omega)) (List.range all.size) hj
          rw[this]at hq';cases hq'
         rw[this];exact k2
    have h3':ERel m n (zaC (zaC env0 w++zaM all (V s) env0) (slotsOf all o)++(envA all (V s) (fun i=>L.getD i false) (List.range all.size)++env0)) a.tmps:=h3.sub hlook
    have hset:∀j:Nat,(L.setIfInBounds i true)[j]?=if i=j then some true else L[j]? :=by
     intro j;rw[qaQ];split
     ·rw[oG oA]
     ·rfl
    have hdf:D s i=false:=by
     rw[hD i];cases hb:L.getD i false with
     | false=>rfl
     | true=>have:=gT.1 hb;rw[g1]at this;cases this
    obtain⟨s1,v,d1,d2,d3,d4⟩:=hst s i o ho hdf (fun j hj=>by rw[hD j];exact gT.2 (hcl j hj)) (fun k hk j hj=>by
     rw[hD k]at hk;rw[hD j];exact gT.2 (zdT hdc 8 (zaR all k) (hdc k (gT.1 hk)) j hj))
    refine zva (K:=K) (hpan:=fun m' env' a' v ch s' hm' he' hd' hx hk=>⟨m',env',.panic v,rfl,st.trans s',hm',he',hd',hx,hk⟩) ho (d4 _) hH h2 h3' h4 ?_;intro hgi m' a' hH1 s' h2' h3'' h4'
    refine ih (L.setIfInBounds i true) m' a' s1 (by simpa using hL) (zvJ hL hdc hi) ?_ (fun j=>?_) hH1 (fun j hj=>by
      rw[hset]at hj;split at hj
      ·rename_i e;subst e;exact hgi
      ·exact hG j hj) (st.trans s') h2' (h3''.sub fun t u htu=>?_) h4'
    ·have:=filter_lt (p:=fun x=>L[x]? == some false) (q:=fun x=>(L.setIfInBounds i true)[x]? == some false) (fun x hx=>by
      rw[hset]at hx;split at hx
      ·cases hx
      ·exact hx) (List.range all.size) i (by simpa using hil) (by rw[g1];rfl) (by rw[hset,oG rfl];rfl)
     unfold unl at hun⊢;omega
    ·rw[d1 j,hD j];cases hb:(L.setIfInBounds i true).getD j false with
     | true=>
       have:=gT.1 hb
       rw[hset]at this;split at this
       ·rename_i e;simp[e]
       ·rw[gT.2 this];rfl
     | false=>
       by_cases hij:i=j
       ·have:=hset j
        rw[oG hij]at this;rw[gT.2 this]at hb;cases hb
       ·have h9:=hset j;rw[oH hij]at h9;cases hl:L.getD j false with
        | false=>simp[hij]
        | true=>
          rw[gT.1 hl]at h9;rw[gT.2 h9]at hb;cases hb
    ·rw[zbw]at htu;cases hq':(envA all (V s1) (fun x=>(L.setIfInBounds i true).getD x false) (List.range all.size)).look t with
     | some u'=>
       rw[hq']at htu;cases htu;obtain⟨j,j1,j0,j2,j3⟩:=zkk _ hq';have j0':=gT.1 j0;rw[hset]at j0';by_cases hij:i=j
       ·subst hij;rw[d3]at j3;cases j3;unfold zdI at j2;rw[ho]at j2
        have:o.dst=some t:=j2
        rw[this,putE,Env.zap]
       ·rw[oH hij]at j0';have hne:zdI all i≠some t:=fun e=>hij (hu i j t e j2)
        have e2:(envA all (V s) (fun i=>L.getD i false) (List.range all.size)++env0).look t=some u:=by
         rw[zbw,zc5 hu (p:=fun i=>L.getD i false) (gT.2 j0') j2 (by rw[<-d2 j (by rw[hD j];exact gT.2 j0')];exact j3) _ j1]
        have e3:(zaC (zaC env0 w++zaM all (V s) env0) (slotsOf all o)++(envA all (V s) (fun i=>L.getD i false) (List.range all.size)++env0)).look t=some u:=by
         exact zwu
        cases hdd:o.dst with
        | none=>exact e3
        | some d=>
          have:d≠t:=fun e=>hne (by unfold zdI;rw[ho];simp[hdd,e])
          rw[putE,Env.zah _ _ this];exact e3
     | none=>
       rw[hq']at htu
       have hno:∀j,j<all.size->L[j]?=some true->zdI all j≠some t:=by
        intro j hj hjt hjd
        have:=zc5 (vs:=V s1) hu (p:=fun x=>(L.setIfInBounds i true).getD x false) (i:=j) (gT.2 (by rw[hset];split;rfl;exact hjt)) hjd (qad (by rw[hvl];omega)) (List.range all.size) (by simpa using hj)
        rw[this]at hq';cases hq'
       have hni:zdI all i≠some t:=by
        intro hjd
        have:=zc5 (vs:=V s1) hu (p:=fun x=>(L.setIfInBounds i true).getD x false) (i:=i) (gT.2 (by rw[hset,oG rfl])) hjd (qad (by rw[hvl];omega)) (List.range all.size) (by simpa using hil)
        rw[this]at hq';cases hq'
       have e2:(envA all (V s) (fun i=>L.getD i false) (List.range all.size)++env0).look t=some u:=by
        rw[zbw,zeI (List.range all.size) fun j hj hjp=>hno j (by simpa using hj) (gT.1 hjp)];exact htu
       have e3:(zaC (zaC env0 w++zaM all (V s) env0) (slotsOf all o)++(envA all (V s) (fun i=>L.getD i false) (List.range all.size)++env0)).look t=some u:=by
        exact zwu
       cases hdd:o.dst with
       | none=>exact e3
       | some d=>
         have:d≠t:=fun e=>hni (by unfold zdI;rw[ho];simp[hdd,e])
         rw[putE,Env.zah _ _ this];exact e3
theorem zoK(fl:List Bool)(y:Nat):((fl.take (y+1)).filter id).length=((fl.take y).filter id).length+(fl.getD y false).toNat:=by
 rw[qbK,List.filter_append,qab,qbQ];cases h:fl[y]? with
 | none=>rfl
 | some b=>cases b <;> rfl
theorem zrC(fl:List Bool){c:Nat}:∀y,c<((fl.take y).filter id).length->∃j,j<y/\fl.getD j false=true/\((fl.take j).filter id).length=c
 | 0,h=>by simp at h
 | y+1,h=>by
   by_cases h1:c<((fl.take y).filter id).length
   ·obtain⟨j,a,b⟩:=zrC fl y h1;exact⟨j,oA,b⟩
   ·rw[zoK]at h;cases hb:fl.getD y false with
    | false=>rw[hb,Bool.toNat_false]at h;omega
    | true=>rw[hb,Bool.toNat_true]at h;exact⟨y,oA,hb,oA⟩
theorem zoJ(fl:List Bool){x:Nat}(hx:fl.getD x false=true):∀y,x<y->((fl.take x).filter id).length<((fl.take y).filter id).length
 | y+1,h=>by
   rw[zoK];by_cases h1:x<y
   ·have:=zoJ fl hx y h1;omega
   ·obtain rfl:x=y:=oA
    rw[hx,Bool.toNat_true];omega
theorem TR.begG(w:List Nat)(D:σ->Nat->Bool)(Hp:σ->Heap)(V:σ->List SV){G:Nat->Prop}{n:Nat}(s0:σ)(hm:P.follows .mixedOrders=true)(hw:w.all (fun t=>(env0.look t).isSome)=true)(hB:mixW w l.toArray []=true)(hvl:∀s,(V s).length=l.length)
  (hst:∀(s:σ) (i:Nat) o,l[i]?=some o->i<l.length->D s i=false->(∀j∈cov l.toArray 8 (zaR l.toArray i),D s j=true)->(∀k,D s k=true->∀j∈cov l.toArray 8 (zaR l.toArray k),D s j=true)->
    ∃(s':σ) (v:SV),(∀j,D s' j=(D s j || decide (i=j)))/\(∀j,D s j=true->(V s')[j]?=(V s)[j]?)/\(V s')[i]?=some v/\
     ∀env,TO false P n l.toArray [o] (zaC (zaC env0 w++zaM l.toArray (V s) env0) (slotsOf l.toArray o)++env) (Hp s) (NKP K (G i) (putE o.dst v (zaC (zaC env0 w++zaM l.toArray (V s) env0) (slotsOf l.toArray o)++env)) (Hp s')))
  (hK:∀s,(∀j,j<l.length->D s j=true)->(∀j,j<l.length->G j)->K .normal (zaM l.toArray (V s) env0) (Hp s))(hD:∀i,D s0 i=false):TR P n (.region id' l.toArray true) env0 (Hp s0) K:=by
 intro φ m a h1 h2 h3 h4;obtain⟨s1,hm1⟩:Step m ⟨m.A,m.β,m.H,{ m.w with drawn:=m.w.drawn+1 }⟩/\HRel ⟨m.A,m.β,m.H,{ m.w with drawn:=m.w.drawn+1 }⟩:=zej h2 ⟨rfl,rfl,rfl,qag _,fun _ _=>rfl⟩
 have hr:∀i:Nat,(Array.replicate l.toArray.size false).getD i false=false:=fun i=>by
  rw[qbp,qbu];split <;> rfl
 have hr':∀i:Nat,(Array.replicate l.toArray.size false)[i]? ≠some true:=fun i h=>by
  have:=gT.2 h
  rw[hr]at this;cases this
 refine zcP (wpIn_region_any hm (zt2 w D Hp V (G:=G) (m0:=m) (fun t ht=>qaB.1 hw t (by simpa using ht)) hB (fun s=>by simp[hvl]) (fun s i o ho=>hst s i o (by simpa using ho) (by have:=(qam.1 ho).1;simpa using this))
  (fun s h hG=>hK s (fun j hj=>h j (by simpa using hj)) fun j hj=>hG j (by simpa using hj)) l.toArray.size (Array.replicate l.toArray.size false) ⟨m.A,m.β,m.H,{ m.w with drawn:=m.w.drawn+1 }⟩ a s0 oC (fun i hi=>oI hi (hr' i)) ?_ (fun i=>by rw[hD,hr]) h1 (fun j h=>oI h (hr' j)) s1 hm1 ?_ (h4.step h2 s1)))
 ·unfold unl
  have:=qcP (fun i=>(Array.replicate l.toArray.size false)[i]? == some false) (List.range l.toArray.size)
  simpa using this
 ·have:∀x:List Nat,envA l.toArray (V s0) (fun i=>(Array.replicate l.toArray.size false).getD i false) x=[]:=by
   intro x
   induction x with
   | nil=>rfl
   | cons i x ih=>
     have h0:=hr i;simp only[envA,h0,ih]
  rw[this,qaP];exact h3.step h2 s1
theorem TR.begW(w:List Nat){G:Nat->Prop}{n:Nat}{fl:List Bool}{hs:List Heap}(hm:P.follows .mixedOrders=true)(hw:w.all (fun t=>(env0.look t).isSome)=true)(hB:mixW w l.toArray fl=true)(hvl:vs.length=l.length)(hfl:fl.length=l.length)
  (hq:∀(i:Nat) o v,l[i]?=some o->vs[i]?=some v->fl.getD i false=false->∀(c:Nat) H,hs[c]?=some H->okC l.toArray fl i c=true->∀env,TO false P n l.toArray [o] (zaC (zaC env0 w++zaM l.toArray vs env0) (slotsOf l.toArray o)++env) H (NKP K (G i) (putE o.dst v (zaC (zaC env0 w++zaM l.toArray vs env0) (slotsOf l.toArray o)++env)) H))
  (he:∀(i:Nat) o v,l[i]?=some o->vs[i]?=some v->fl.getD i false=true->∃H1 H2,hs[((fl.take i).filter id).length]?=some H1/\hs[((fl.take i).filter id).length+1]?=some H2/\∀env,TO false P n l.toArray [o] (zaC (zaC env0 w++zaM l.toArray vs env0) (slotsOf l.toArray o)++env) H1 (NKP K (G i) (putE o.dst v (zaC (zaC env0 w++zaM l.toArray vs env0) (slotsOf l.toArray o)++env)) H2))
  (h0:hs[0]?=some H0)(hF:hs[(fl.filter id).length]?=some HF)(hK:(∀j,j<l.length->G j)->K .normal (zaM l.toArray vs env0) HF):TR P n (.region id' l.toArray true) env0 H0 K:=by
 have hB0:mixW w l.toArray []=true:=by
  unfold mixW at hB⊢;rw[qar,qaB]at hB⊢;refine⟨hB.1,fun i hi=>?_⟩
  have:=hB.2 i hi
  rw[qar]at this⊢;exact⟨this.1,rfl⟩
 have hch:∀i j,i<l.length->fl.getD i false=true->j<i->fl.getD j false=true->j∈cov l.toArray 8 (zaR l.toArray i):=by
  intro i j hi h1 hj h2;simp only[mixW,qar]at hB
  have:=qaB.1 hB.2 i (by simpa using hi)
  simp only[qar,h1,qcp,qbV]at this
  have:=qaB.1 this.2 j (by simpa using hj)
  rw[h2]at this;simpa using this
 rw[show H0=(hs[0]?).getD [] by rw[h0];rfl];refine TR.begG (G:=G) (σ:={ s:Nat×(Nat->Bool) // (∀i:Nat,fl.getD i false=true->(((fl.take i).filter id).length<s.1 ↔ s.2 i=true))/\s.1≤(fl.filter id).length/\∃H,hs[s.1]?=some H }) w (fun s=>s.1.2) (fun s=>(hs[s.1.1]?).getD []) (fun _=>vs) ⟨(0,fun _=>false),fun i hi=>⟨fun h=>oI h (Nat.not_lt_zero _),fun h=>Bool.noConfusion h⟩,qaM _,H0,h0⟩ hm hw hB0 (fun _=>hvl) ?_ ?_ fun _=>rfl
 ·rintro⟨⟨c,D⟩,hc1,hc2,H,hc3⟩ i o ho hil g1 hcl hdn;dsimp only at hc1 hc2 hc3 g1 hcl hdn⊢;have hv:vs[i]?=some (vs[i]' oA):=qad oA;generalize vs[i]' oA=v at hv
  have key:∀(c':Nat) H',(∀x:Nat,fl.getD x false=true->(((fl.take x).filter id).length<c' ↔ (D x || decide (i=x))=true))->c'≤(fl.filter id).length->hs[c']?=some H'->
    (∀env,TO false P n l.toArray [o] (zaC (zaC env0 w++zaM l.toArray vs env0) (slotsOf l.toArray o)++env) H (NKP K (G i) (putE o.dst v (zaC (zaC env0 w++zaM l.toArray vs env0) (slotsOf l.toArray o)++env)) H'))->_:=fun c' H' q1 q2 q3 q4=>
   (⟨⟨(c',fun j=>D j || decide (i=j)),q1,q2,H',q3⟩,v,fun _=>rfl,fun _ _=>rfl,hv,by
     intro env;show TO false P n l.toArray [o] _ ((hs[c]?).getD []) (NKP K (G i) _ ((hs[c']?).getD []));rw[hc3,q3];exact q4 env⟩:∃(s':{ s:Nat×(Nat->Bool) // (∀i:Nat,fl.getD i false=true->(((fl.take i).filter id).length<s.1 ↔ s.2 i=true))/\s.1≤(fl.filter id).length/\∃H,hs[s.1]?=some H }) (v:SV),(∀j,s'.1.2 j=(D j || decide (i=j)))/\(∀j,D j=true->vs[j]?=vs[j]?)/\vs[i]?=some v/\
     ∀env,TO false P n l.toArray [o] (zaC (zaC env0 w++zaM l.toArray vs env0) (slotsOf l.toArray o)++env) ((hs[c]?).getD []) (NKP K (G i) (putE o.dst v (zaC (zaC env0 w++zaM l.toArray vs env0) (slotsOf l.toArray o)++env)) ((hs[s'.1.1]?).getD [])))
  cases hb:fl.getD i false with
  | false=>
    refine key c H (fun x hx=>?_) hc2 hc3 (hq i o v ho hv hb c H hc3 ?_)
    ·rw[hc1 x hx,show decide (i=x)=false from decide_eq_false (fun e=>by rw[e,hx]at hb;cases hb),Bool.or_false]
    ·unfold okC;refine qaB.2 fun j hj=>?_
     cases hfj:fl.getD j false with
     | false=>rfl
     | true=>
       rw[qcp,qbV,qar];have h5:=hc1 j hfj;constructor
       ·cases hcc:(cov l.toArray 8 (zaR l.toArray j)).contains i with
        | false=>rfl
        | true=>
          rw[qcp,qbV];refine qcm (qbE fun hlt=>?_)
          have:=hdn j (h5.1 hlt) i (by simpa using hcc)
          rw[g1]at this;cases this
       ·cases hcc:(cov l.toArray 8 (zaR l.toArray i)).contains j with
        | false=>rfl
        | true=>
          rw[qcp,qbV];exact qcm (h5.2 (hcl j (by simpa using hcc)))
  | true=>
    obtain⟨H1,H2,k1,k2,k3⟩:=he i o v ho hv hb
    have hci:((fl.take i).filter id).length=c:=by
     have h5:=hc1 i hb
     have hge:c≤((fl.take i).filter id).length:=qbE fun hlt=>by
      rw[h5.1 hlt]at g1;cases g1
     refine Nat.le_antisymm (qbE fun hlt=>?_) hge;obtain⟨j,hji,g3,g4⟩:=zrC fl i hlt
     have:=(hc1 j g3).2 (hcl j (hch i j hil hb hji g3))
     omega
    rw[hci]at k1 k2;rw[hc3]at k1;cases k1;refine key (c+1) H2 (fun x hx=>?_) ?_ k2 k3
    ·by_cases hix:i=x
     ·subst hix;rw[hci];simp
     ·rw[show decide (i=x)=false from decide_eq_false hix,Bool.or_false,<-hc1 x hx]
      have:((fl.take x).filter id).length≠c:=by
       rcases Nat.lt_or_gt_of_ne hix with h|h
       ·have:=zoJ fl hb x h;omega
       ·have:=zoJ fl hx i h;omega
      omega
    ·have:=zoJ fl hb fl.length oA
     rw[qap]at this;omega
 ·rintro⟨⟨c,D⟩,hc1,hc2,H,hc3⟩ hall hGG;dsimp only at hc1 hc2 hc3 hall⊢
  have hc:c=(fl.filter id).length:=by
   refine Nat.le_antisymm hc2 (qbE fun hlt=>?_);rw[<-qap (l:=fl)]at hlt;obtain⟨i,g0,g1,g2⟩:=zrC fl fl.length hlt
   have:=(hc1 i g1).2 (hall i oA)
   omega
  subst hc;rw[hF];exact hK hGG
theorem TR.zpw(w:List Nat){n:Nat}(t:List (SV×Bool))(hs:List Heap)(hm:P.follows .mixedOrders=true)(hw:w.all (fun t=>(env0.look t).isSome)=true)(hB:mixW w l.toArray (t.map (·.2))=true)(h0:hs[0]?=some H0)
  (hp:zj8 P n l.toArray (zaC env0 w++zaM l.toArray (t.map (·.1)) env0) hs l t hs)(hF:hs[((t.map (·.2)).filter id).length]?=some HF)(hE:za7 (zaM l.toArray (t.map (·.1)) env0)=some envF)(hK:K .normal envF HF):
  TR P n (.region id' l.toArray true) env0 H0 K:=by
 obtain⟨g1,g2⟩:=hp.get
 have hef:∀i,((t.map (·.2)).take i |>.filter id).length=effs t i:=by
  intro i;unfold effs;rw[<-qbB,qcO,qac];rfl
 refine TR.begW w (G:=fun _=>True) (vs:=t.map (·.1)) (fl:=t.map (·.2)) (hs:=hs) hm hw hB (by simp[g1]) (by simp[g1]) ?_ ?_ h0 hF (fun _=>by rw[zby hE]at hK;exact hK)
 all_goals
  intro i o v ho hv hb;obtain⟨⟨v',b⟩,hx,rfl⟩:∃x,t[i]?=some x/\x.1=v:=by simpa using hv
  rw[qbQ,qan,hx]at hb
  have:=g2 i o v' b ho hx
 ·exact fun c H hcH _ env=>(this.1 (by simpa using hb) H (qau hcH) env).nkp trivial
 ·rw[hef];obtain⟨H1,H2,e1,e2,e3⟩:=this.2 (by simpa using hb);exact⟨H1,H2,e1,e2,fun env=>(e3 env).nkp trivial⟩
theorem TR.zya(w:List Nat){n:Nat}(t:List (SV×Bool))(hs:List Heap)(hm:P.follows .mixedOrders=true)(hw:w.all (fun t=>(env0.look t).isSome)=true)(hB:mixW w l.toArray (t.map (·.2))=true)(h0:hs[0]?=some H0)
  (hp:Prem P n l.toArray (zaC env0 w++zaM l.toArray (t.map (·.1)) env0) l t hs)(hF:hs[((t.map (·.2)).filter id).length]?=some HF)(hE:za7 (zaM l.toArray (t.map (·.1)) env0)=some envF)(hK:K .normal envF HF):
  TR P n (.region id' l.toArray true) env0 H0 K:=TR.zpw w t hs hm hw hB h0 hp.toH hF hE hK
theorem TR.zkM{n:Nat}(t:List (SV×Bool))(hs:List Heap)(hm:P.follows .mixedOrders=true)(hB:mixB l.toArray (t.map (·.2))=true)(h0:hs[0]?=some H0)
  (hp:Prem P n l.toArray (zaM l.toArray (t.map (·.1)) env0) l t hs)(hF:hs[((t.map (·.2)).filter id).length]?=some HF)(hE:za7 (zaM l.toArray (t.map (·.1)) env0)=some envF)(hK:K .normal envF HF):
  TR P n (.region id' l.toArray true) env0 H0 K:=TR.zya [] t hs hm rfl hB h0 hp hF hE hK
theorem TR.zfC{n:Nat}(t:List (SV×Bool))(hs:List Heap)(hm:P.follows .mixedOrders=true)(hB:mixB l.toArray (t.map (·.2))=true)(h0:hs[0]?=some H0)
  (hp:zj8 P n l.toArray (zaM l.toArray (t.map (·.1)) env0) hs l t hs)(hF:hs[((t.map (·.2)).filter id).length]?=some HF)(hE:za7 (zaM l.toArray (t.map (·.1)) env0)=some envF)(hK:K .normal envF HF):
  TR P n (.region id' l.toArray true) env0 H0 K:=TR.zpw [] t hs hm rfl hB h0 hp hF hE hK
theorem zbn{α:Type}:∀(l:List α),za7 l=some l
 | []=>rfl
 | x::l=>by simp[za7,zbn l]
theorem zrJ(hm:HRel m):Step m ⟨m.A,m.β,m.H.map (fun _=>.dead),m.w⟩/\HRel ⟨m.A,m.β,m.H.map (fun _=>.dead),m.w⟩:=by
 have pick:∀(i:Nat) c,(m.H.map (fun _=>Blk.dead))[i]?=some c->c= .dead:=by
  intro i c h;rw[qan]at h;cases hq:m.H[i]? with
  | none=>rw[hq]at h;cases h
  | some x=>rw[hq]at h;cases h;rfl
 have own:∀b o,¬Own ⟨m.A,m.β,m.H.map (fun _=>.dead),m.w⟩ b o:=by
  rintro b o ⟨i,q,c,h1,h2,h3,h4⟩
  have:=pick i c h2
  subst this;cases h3
 refine⟨⟨rfl,rfl,rfl,qag _,fun _ _ h=>h,fun _ _ h=>.inl h,fun b o h=>oI h (own b o),fun _ _ _ _=>rfl,fun _ _ _ _ _=>rfl,fun _ _ _=>rfl,fun _ _ h=>h,fun _ L h=>⟨L,h⟩,fun _ _ _ h=>h,fun i q hq=>⟨q,hq,?_⟩⟩,?_⟩
 ·have hd:∀n,tlOf (m.H.map (fun _=>Blk.dead))[i]? ≠some n:=by
   intro n h;cases hq:(m.H.map (fun _=>Blk.dead))[i]? with
   | none=>rw[hq]at h;cases h
   | some x=>have:=pick i x hq;subst this;rw[hq]at h;cases h
  show zaZ m.H[i]? (m.H.map (fun _=>Blk.dead))[i]? q q;unfold zaZ;split
  ·exact fun n' h=>oI h (hd n')
  ·exact⟨rfl,hd⟩
 ·refine⟨by simpa using hm.len,fun i q c h1 h2=>?_,fun i j q r c l hij h1 h2 h3 h4 hc hl=>?_,fun b o h hn=>own b o hn,hm.inA,fun i q c h1 h2 hc hq=>?_,hm.glob⟩
  ·have:=pick i c h2;subst this;trivial
  ·have:=pick i c h2;subst this;cases hc
  ·have:=pick i c h2;subst this;cases hc
theorem zcH(k:Nat):∀n,zaa k (List.replicate n .dead)=true
 | 0=>rfl
 | n+1=>by
   rw[qbN,zaa,zcH k n];rfl
theorem Sound.zAC{f:FuncId}{args:List SV}{R R':Res->Heap->Prop}(h:Sound P f args H R)(hr:∀v H',R (.ret v) H'->R' (.ret v) H')
  (hp:∀v H',R (.panic v) H'->v.under H.length=true/\H.length≤H'.length/\R' (.panic v) (List.replicate H.length .dead)):Sound P f args H R':=by
 refine⟨h.1,fun m vs h1 h2 h3=>Calls.mono (h.2 m vs h1 h2 h3) ?_⟩;rintro e w' ⟨m',r,rfl,s,hm',hres,hR⟩;cases r with
 | ret v=>exact⟨m',.ret v,rfl,s,hm',hres,hr v _ hR⟩
 | panic v=>
   obtain⟨g1,g2,g3⟩:=hp v _ hR;obtain⟨s1,hm1⟩:=zrJ hm'
   have hl:(m'.H.map (fun _=>Blk.dead)).take H.length=List.replicate H.length .dead:=by
    rw[List.map_const',List.take_replicate,Nat.min_eq_left g2]
   obtain⟨c1,c2,c3⟩:=zg3 (k:=H.length) hm1 (s.trans s1) (by simpa using g2) (by rw[h2.len,h1];exact qag _) (by show zaa _ (List.take _ (m'.H.map _))=true;rw[hl];exact zcH _ _);refine⟨M.cut ⟨m'.A,m'.β,m'.H.map fun _=>.dead,m'.w⟩ H.length,.panic v,rfl,c1,c2,?_,?_⟩
   ·cases e with
    | panicked ch=>
      obtain⟨x,x1,x2⟩:=hres;exact⟨x,x1,c3 v x g1 (s1.srel hm' x2)⟩
    | _=>simp[zbZ]at hres
   ·show R' (.panic v) (List.take _ (m'.H.map _));rw[hl];exact g3
def Err(c:Int)(v pv:SV)(H1:Heap):Res->Heap->Prop:=fun r H'=>if c=0 then r= .ret v/\H'=H1 else r= .panic pv/\H'=List.replicate H1.length .dead
def Err0(c:Int)(v pv:SV)(H1:Heap)(N:Nat):Res->Heap->Prop:=fun r H'=>if c=0 then r= .ret v/\H'=H1 else r= .panic pv/\N≤H'.length
theorem Sound.err{f:FuncId}{args:List SV}{v:SV}(hl:H1.length=H.length)(hu:∀k,pv.under k=true)(h:Sound P f args H (Err0 c v pv H1 H.length)):Sound P f args H (Err c v pv H1):=by
 refine h.zAC (fun u H' g=>?_) (fun u H' g=>?_)
 ·unfold Err0 at g;unfold Err
  split at g
  ·rename_i hc;rw[oG hc];exact g
  ·cases g.1
 ·unfold Err0 at g;unfold Err
  split at g
  ·cases g.1
  ·rename_i hc;obtain⟨g1,g2⟩:=g;cases g1;exact⟨hu _,g2,by rw[oH hc,hl];exact⟨rfl,rfl⟩⟩
section rules
variable {n:Nat}{tab:Tab}
variable {pos:String}
theorem TO.zlx(l:List Nat){H2 H3:Heap}{v v':SV}{args:Array Operand}{ts:Array TypeId}
  (hs:Sound P fid cargs Hc (Err c v pv H1))(hd:Nat.ble (d+1) n=true)(hf:env.val f=some (.fn fid caps))(ha:env.vals args.toList=some vs)(hl:Les (vs++caps) (rens (names l H.length) cargs))(hu:unders Hc.length cargs=true)(hh:Hands H l Hc)
  (hv:v.ren (names l H.length)=v')(hpv:pv.ren (names l H.length)=pv)(hH:patch H l (H1.map (Blk.ren (names l H.length)))=H2)(hD:patch H l ((List.replicate H1.length .dead).map (Blk.ren (names l H.length)))=H3)
  (k:c=0->TO false P n all rest ((d,v')::env) H2 K)(kp:c≠0->K (.panic pv) env H3):
  TO false P n all (⟨some d,.call { callee:=.value f,args:=args,argTypes:=ts },ty,pos,aft,none⟩::rest) env H K:=by
 refine TO.call l hs hd hf ha hl hu hh (fun u Hc' h=>?_) (fun u Hc' h=>?_)
 ·unfold Err at h;split at h
  ·rename_i hc;obtain⟨h1,rfl⟩:=h;cases h1;rw[hv,hH];exact k hc
  ·cases h.1
 ·unfold Err at h;split at h
  ·cases h.1
  ·rename_i hc;obtain⟨h1,rfl⟩:=h;cases h1;rw[hpv,hD];exact kp hc
theorem TO.zly(N:Nat){H2:Heap}{v:SV}{args:Array Operand}{ts:Array TypeId}
  (hs:Sound P fid cargs Hc (Err c v pv H1))(hd:Nat.ble (d+1) n=true)(hf:env.val f=some (.fn fid caps))(ha:env.vals args.toList=some vs)(hl:Les (vs++caps) cargs)
  (hN:Nat.ble N H.length=true)(hc:H.take N=Hc)(hu:unders N cargs=true)(hb:zaa N Hc=true)(hv:v.under N=true)(hpv:pv.under N=true)(h1:H1.length=N)(h2:zaa N H1=true)
  (hH:za7 (H1++H.drop N)=some H2)(k:c=0->TO false P n all rest ((d,v)::env) H2 K)(kp:c≠0->K (.panic pv) env (List.replicate N .dead++H.drop N)):
  TO false P n all (⟨some d,.call { callee:=.value f,args:=args,argTypes:=ts },ty,pos,aft,none⟩::rest) env H K:=by
 refine TO.zxd N hs ⟨fun u G hr=>?_,fun u G hr=>?_⟩ hd hf ha hl hu (qaj hN) hc hb (fun u G hr=>?_) (fun u G hr=>?_)
 ·unfold Err at hr;split at hr
  ·obtain⟨h,rfl⟩:=hr;cases h;exact⟨hv,h1,h2⟩
  ·cases hr.1
 ·unfold Err at hr;split at hr
  ·cases hr.1
  ·obtain⟨h,rfl⟩:=hr;cases h;exact⟨hpv,by simp[h1],zcH _ _⟩
 ·unfold Err at hr;split at hr
  ·rename_i hc0;obtain⟨h,rfl⟩:=hr;cases h;rw[<-zby hH];exact k hc0
  ·cases hr.1
 ·unfold Err at hr;split at hr
  ·cases hr.1
  ·rename_i hc0;obtain⟨h,rfl⟩:=hr;cases h;rw[h1];exact kp hc0
theorem RetK.errP{N:Nat}{v:SV}(hc:c≠0)(hN:Nat.ble N H.length=true)(hu:pv.under H.length=true)(hb:zaa H.length H=true):RetK tab rs N (Err0 c v pv H1 N) (.panic pv) env H:=by
 have hn:=qaj hN;have ht:H.take H.length=H:=qaJ (qag _);exact⟨pv,H.length,Le.refl _,hn,qag _,hu,by rw[ht];exact hb,by rw[ht];unfold Err0;rw[oH hc];exact⟨rfl,hn⟩⟩
theorem RetK.errV{N:Nat}{v:SV}(hc:c=0)(hr:zbO tab env H rs=some vs)(hl:Le (pack vs) v)(hN:Nat.ble N H1.length=true)(hk:Nat.ble H1.length H.length=true)(hu:v.under H1.length=true)
  (ht:H.take H1.length=H1)(hb:zaa H1.length H1=true):RetK tab rs N (Err0 c v pv H1 N) .ret env H:=
 ⟨vs,v,H1.length,hr,hl,qaj hN,qaj hk,hu,by rw[ht];exact hb,by rw[ht];unfold Err0;rw[oG hc];exact⟨rfl,rfl⟩⟩
theorem RetK.errN{N:Nat}{v:SV}(hc:c=0)(hr:zbO tab env H rs=some vs)(hl:Le (pack vs) v)(hN:Nat.ble N H1.length=true)(hk:Nat.ble H1.length H.length=true)(hu:v.under H1.length=true)
  (ht:H.take H1.length=H1)(hb:zaa H1.length H1=true):RetK tab rs N (Err0 c v pv H1 N) .normal env H:=
 ⟨vs,v,H1.length,hr,hl,qaj hN,qaj hk,hu,by rw[ht];exact hb,by rw[ht];unfold Err0;rw[oG hc];exact⟨rfl,rfl⟩⟩
theorem TO.zw8(hT:zas P tab){t:TypeId}{i:TyI}{j2:Nat}{v vx:SV}{ty' ty2:TypeId}{pos' pos2:String}{aft' aft2:Array Edge}(hd:Nat.ble (d+1) n=true)(ht:tab.get t=some i)(hj:Nat.ble (j2+1) n=true)(hne2:Nat.beq j2 d=false)(hx:Env.val ((d,.any)::env) x=some vx)(hy:Env.val ((j2,vx)::(d,.any)::env) y=some v)(hv:v.solid=true)(hc:allT v.cells=some ts)
  (hsz:i.size=ts.length)(hpos:0<ts.length)
  (k:TO false P n all rest ((d,.cp ts 0)::(j2,vx)::(d,.any)::env) H K):TO false P n all (⟨some d,.alloc t,ty,pos,aft,none⟩::⟨some j2,.assign x,ty2,pos2,aft2,none⟩::⟨none,.store t (.tmp d) y,ty',pos',aft',none⟩::rest) env H K:=by
 intro φ m a h1 h2 h3 h4;have hnj:j2≠d:=fun e=>by rw[e]at hne2;simp at hne2
 have hlt:d<a.tmps.size:=by rw[h3.1];exact qaj hd
 let a0:Act:=a.put (some d) (.pointer (some ⟨m.w.heap.size,0,none⟩))
 have hE0:ERel m n ((d,.any)::env) a0.tmps:=h3.put d (qaj hd) (.any _)
 let a1:Act:=a0.put (some j2) (a0.eval x)
 have hE1:ERel m n ((j2,vx)::(d,.any)::env) a1.tmps:=hE0.put j2 (qaj hj) (hE0.val hx);obtain⟨w1,m',r1,r2,f2,f3,f4,f5⟩:=zhM hT ht h2 (hE1.val hy) hv hc hsz hpos;have hev:a1.tmps[d]?=some (.pointer (some ⟨m.w.heap.size,0,none⟩)):=by simp[a1,a0,Act.put,qaQ,hlt,hnj]
 refine wpListIn_plain rfl fun K' hK=>?_
 unfold Oper.wpIn;refine⟨fun _ _=>trivial,?_⟩;rw[za9 (r1 ..) (by intro d e;cases e)];simp only[Oper.uponIn];refine hK _ _ ?_;refine wpListIn_plain rfl fun K2 hK2=>?_
 unfold Oper.wpIn;refine⟨fun _ _=>trivial,?_⟩;rw[show a.put (some d) _=a0 from rfl,za9 (show(execOp a0.eval ⟨some j2,.assign x,ty2,pos2,aft2,none⟩).run P w1= .ok (.value (a0.eval x)) w1 by simp[execOp]) (by intro d e;cases e)];simp only[Oper.uponIn];refine hK2 _ _ ?_;refine wpListIn_plain rfl fun K3 hK3=>?_
 unfold Oper.wpIn;refine⟨fun _ _=>trivial,?_⟩;rw[show a0.put (some j2) (a0.eval x)=a1 from rfl,za9 (r2 a1 _ _ _ _ _ (by simp[Act.eval,hev]) rfl) (by intro d e;cases e)];simp only[Oper.uponIn];refine hK3 _ _ (TO.zfF f2 (k φ m' a1 (by rw[f4,h1]) f3 ⟨hE1.1,fun i v hv=>?_⟩ (by simpa [a1,a0,Act.put]using h4.step h2 f2)));by_cases hi:d=i
 ·subst hi;rw[Env.zap]at hv;cases hv;exact⟨_,hev,f5⟩
 ·rw[Env.zah _ _ hi]at hv;exact(hE1.step h2 f2).2 i v hv
end rules
end Go.TL
