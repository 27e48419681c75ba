import Derived.Maps.Keyed
import Derived.Test.YtdicfgideclbdaaGreatDoorAk3
set_option maxHeartbeats 64000000
set_option linter.all false
namespace Go.TL
open Go
variable {c:Code}{R:Res->Heap->Prop}{m:M}{es:List (Value×T)}{kx:Value}{x y:Operand}{ts:List T}{rs:List ResultVar}{vs:List SV}{fi k d:Nat}{H' H:Heap}{env' env:Env}{l rest:List Oper}{e:zev}{L:Array Bool}{P:Program}{K:TK}{all:Array Oper}{q:Bool}{ty:TypeId}{aft:Array Edge}
def DefD(m:M)(gf:FuncId)(cv:List SV)(d:Deferred):Prop:=∃arr,d= { target:=.fn (.func gf) arr,args:=#[] }/\ARel m cv arr
def ztZ(s0:Nat)(m:M)(n:Nat)(K:TK)(gf:FuncId)(cv:List SV)(KD:TK)(e:Exit)(a:Act)(w:World):Prop:=
 Post ⟨none,s0,[]⟩ m n K e a w\/
 ∃(m':M) (env:Env) (te:zev) (ks' ks:List Nat) (d:Deferred),m'.w=w/\Step m m'/\HRel m'/\ERel m' n env a.tmps/\a.defers=ks'.map mark++d::ks.map mark/\(ks'++ks).Nodup/\
  (∀k∈ks'++ks,s0≤k/\m'.w.heap[k]?=some (.deferred (some [])))/\DefD m' gf cv d/\zbe m' te e/\KD te env m'.H
def TD(P:Program)(n:Nat)(c:Code)(env:Env)(H:Heap)(K:TK)(gf:FuncId)(cv:List SV)(KD:TK):Prop:=
 ∀(s0:Nat) (m:M) (a:Act),m.H=H->HRel m->ERel m n env a.tmps->zdE ⟨none,s0,[]⟩ m.w a.defers->Code.wpr P none c (ztZ s0 m n K gf cv KD) a m.w
def zhd(P:Program)(n:Nat)(c:Code)(K:TK)(gf:FuncId)(cv:List SV)(KD:TK):TK
 | .normal,env,H=>TD P n c env H K gf cv KD
 | e,env,H=>K e env H
section rules
variable {n:Nat}{KD:TK}{gf:FuncId}{cv:List SV}
theorem ztZ.step{s0:Nat}{m m':M}(s:Step m m'){e:Exit}{a:Act}{w:World}(h:ztZ s0 m' n K gf cv KD e a w):ztZ s0 m n K gf cv KD e a w:=by
 rcases h with h|⟨m2,env2,te,ks',ks,d,h1,h2,h3⟩
 ·exact .inl (h.step s)
 ·exact .inr ⟨m2,env2,te,ks',ks,d,h1,s.trans h2,h3⟩
theorem TD.seq{x y:Code}(h:TR P n x env H (zhd P n y K gf cv KD)):TD P n (.seq x y) env H K gf cv KD:=by
 intro s0 m a h1 h2 h3 h4;refine zol (za5 (h ⟨none,s0,[]⟩ m a h1 h2 h3 h4) ?_);rintro e a' w ⟨m2,env2,te,rfl,s,hm,he,hd,hx,hk⟩;cases te with
 | normal=>
   cases e <;> simp[zbe]at hx
   exact za5 (hk s0 m2 a' rfl hm he hd) fun _ _ _ hp=>hp.step s
 | exit i=>cases e <;> simp[zbe]at hx;exact .inl ⟨m2,env2,.exit i,rfl,s,hm,he,hd,hx,hk⟩
 | ret=>cases e <;> simp[zbe]at hx;exact .inl ⟨m2,env2,.ret,rfl,s,hm,he,hd,trivial,hk⟩
 | panic v=>
   cases e with
   | panic ch=>exact .inl ⟨m2,env2,.panic v,rfl,s,hm,he,hd,hx,hk⟩
   | _=>simp[zbe]at hx
theorem TD.defer{id t:Nat}{caps:Array Operand}{c2:Code}{ty ty' tz:TypeId}{pos pos':String}{aft aft':Array Edge}{ts:Array TypeId}(ht:Nat.ble (t+1) n=true)(hv:caps.toList.mapM env.val=some cv)
  (h:TR P n c2 ((t,.fn gf cv)::env) H KD):
  TD P n (.seq (.region id [⟨some t,.makeFunc (.func gf) #[] caps,ty,pos,aft,none⟩,⟨none,.defer { callee:=.value (.tmp t),args:=#[],argTypes:=ts },ty',pos',aft',none⟩].toArray false) c2) env H K gf cv KD:=by
 intro s0 m a h1 h2 h3 h4
 have hcl:SRel m (.fn gf cv) (.func (.func gf) #[] (caps.map a.eval)):=by
  have hl:∀(l:List Operand) (vs:List SV),l.mapM env.val=some vs->l.length=vs.length/\∀(i:Nat) c,vs[i]?=some c->∃o,l[i]?=some o/\env.val o=some c:=by
   intro l
   induction l with
   | nil=>intro vs h;simp at h;subst h;simp
   | cons x l ih=>
     intro vs h;simp only[qb8]at h;cases hx:env.val x with
     | none=>rw[hx]at h;cases h
     | some v=>
       rw[hx]at h;cases hq:(l.mapM env.val:Option (List SV)) with
       | none=>rw[hq]at h;cases h
       | some us=>
         rw[hq]at h;cases h
         obtain⟨g1,g2⟩:=ih us hq;refine⟨by simp[g1],fun i c hc=>?_⟩;cases i with
         | zero=>simp at hc;subst hc;exact⟨x,rfl,hx⟩
         | succ i=>simpa using g2 i c (by simpa using hc)
  obtain⟨g1,g2⟩:=hl _ _ hv;refine .fn gf cv _ (by simp;simpa using g1) fun i c y hc hy=>?_
  obtain⟨o,ho,hvo⟩:=g2 i c hc;have ho':caps[i]?=some o:=by simpa using ho
  simp only[qcu,ho',qaT,qaI]at hy;subst hy;exact h3.val hvo
 obtain⟨⟨ks,hd1,_,hd2,hd3⟩,hd4,_⟩:=h4;simp only[qaz]at hd1;have hcl2:=hcl;generalize hq:(caps.map a.eval)=arr at hcl
 have harr:ARel m cv arr:=by
  cases hcl with
  | fn _ _ _ hs hr=>exact⟨hs,fun i s x hsx hx=>hr i s x hsx hx⟩
 let a1:Act:=a.put (some t) (.func (.func gf) #[] arr)
 let d:Deferred:={ target:=.fn (.func gf) arr,args:=#[] }
 let a2:Act:={ tmps:=a1.tmps,defers:=d::a1.defers }
 have hE:ERel m n ((t,.fn gf cv)::env) a2.tmps:=h3.put t (qaj ht) hcl
 have hrun2:(execOp a1.eval ⟨none,.defer { callee:=.value (.tmp t),args:=#[],argTypes:=ts },ty',pos',aft',none⟩).run P m.w= .ok (.defer d) m.w:=by
  have he:a1.eval (.tmp t)= .func (.func gf) #[] arr:=by
   obtain⟨x,x1,x2⟩:=(h3.put t (qaj ht) hcl).2 t _ (Env.zap t _ env);have hlt:t<a.tmps.size:=by rw[h3.1];exact qaj ht
   simp[a1,Act.put,Act.eval,qaQ,hlt]
  simp[execOp,resolve,he,Deferred.ofValue,d]
 refine zol (zcP (wpIn_region_lit ?_));refine wpListIn_plain rfl fun K' hK=>?_
 unfold Oper.wpIn;refine⟨fun _ _=>trivial,?_⟩;rw[za9 (x:=.value (.func (.func gf) #[] arr)) (w':=m.w) (by simp[execOp,Instr.makeFunc,hq]) (by intro d e;cases e)];simp only[Oper.uponIn];refine hK _ _ ?_;refine wpListIn_plain rfl fun K2 hK2=>?_
 unfold Oper.wpIn;refine⟨fun _ _=>trivial,?_⟩;have hsem:(Oper.semAt (Fr none).round a1.eval ⟨none,.defer { callee:=.value (.tmp t),args:=#[],argTypes:=ts },ty',pos',aft',none⟩).run P m.w= .ok (.defer d) m.w:=hrun2;rw[show(a.put (some t) (.func (.func gf) #[] arr))=a1 from rfl,hsem];simp only[Oper.uponIn];refine hK2 _ _ ?_;show wpListIn (Fr none) 0 P _ _ [] a2 m.w;have hsize:∀k∈ks,k<m.w.heap.size:=fun k hk=>(qam.1 (hd3 k hk).2).1
 refine wpListIn_nil (za5 (h ⟨none,m.w.heap.size,d::ks.map mark⟩ m a2 h1 h2 hE ⟨⟨[],by simp[a2,a1,Act.put,hd1],fun _=>rfl,qbI,oC⟩,qag _,fun l hl=>by cases hl⟩) ?_);rintro e a' w ⟨m2,env2,te,rfl,s,hm,he,⟨⟨ks',hd1',_,hd2',hd3'⟩,_,_⟩,hx,hk⟩;refine .inr ⟨m2,env2,te,ks',ks,d,rfl,s,hm,he,hd1',?_,fun k hk=>?_,⟨arr,rfl,harr.1,fun i c y hc hy=>s.srel h2 (harr.2 i c y hc hy)⟩,hx,hk⟩
 ·refine qbs.2 ⟨hd2',hd2,fun x hx y hy e=>?_⟩;subst e
  have:=(hd3' x hx).1
  have:=hsize x hy
  simp only at*;omega
 ·rcases qbe.1 hk with hk|hk
  ·exact⟨qax hd4 (hd3' k hk).1,(hd3' k hk).2⟩
  ·exact⟨(hd3 k hk).1,by rw[s.block k (hsize k hk) (zxR h2 (hd3 k hk).2)];exact(hd3 k hk).2⟩
def KDef(P:Program)(tab:Tab)(rs:List ResultVar)(N:Nat)(R:Res->Heap->Prop)(gf:FuncId)(cv:List SV):TK
 | .normal,env,H=>∃RH,zcT P gf cv H none RH/\∀H3,RH H3->RetK tab rs N R .ret env H3
 | .ret,env,H=>∃RH,zcT P gf cv H none RH/\∀H3,RH H3->RetK tab rs N R .ret env H3
 | .panic v,env,H=>∃RH,zcT P gf cv H (some v) RH/\∀H3,RH H3->RetK tab rs N R .ret env H3
 | .exit _,_,_=>False
theorem Sound.znR{tab:Tab}(hT:zas P tab){f:FuncId}{fn:Func}{args:List SV}(hf:P.funcs[f]?=some fn)(hn:(fn.name == "runtime.NumGoroutine")=false)(hb:fn.body=some c)
  (ha:Nat.ble args.length fn.ntmps=true)(h:TD P fn.ntmps c (zfj 0 args) H (RetK tab fn.results.toList H.length R) gf cv (KDef P tab fn.results.toList H.length R gf cv)):Sound P f args H R:=by
 refine⟨⟨fn,hf,hn,by rw[hb];rfl⟩,fun m vs h1 h2 h3=>?_⟩;have hal:=qaj ha;refine zgZ hf hb (za5 (h m.w.heap.size m _ h1 h2 ⟨by simp[h3.1];omega,fun i v hv=>?_⟩ ⟨⟨[],rfl,fun _=>rfl,qbI,oC⟩,qag _,fun l hl=>by cases hl⟩) ?_)
 ·exact zwm
 ·rintro e a' w' (hp|⟨m',env,te,ks',ks,d,rfl,s,hm',he,hd,hnd,hks,⟨arr,rfl,harr⟩,hx,hK⟩)
  ·exact zmo hT h1 h2 rfl hp
  ·have fin:∀(m3:M) vs v k,Step m m3->HRel m3->ERel m3 fn.ntmps env a'.tmps->zbO tab env m3.H fn.results.toList=some vs->Le (pack vs) v->H.length≤k->k≤m3.H.length->v.under k=true->zaa k (m3.H.take k)=true->R (.ret v) (m3.H.take k)->
     ∀w'',Shut m.w.heap.size m3.w w''->∃v,(results fn a'.tmps).run P w''= .ok v w''/\∃(m2:M) (r:Res),m2.w=w''/\Step m m2/\HRel m2/\zbZ m2 r (.returned v)/\R r m2.H:=by
    intro m3 vs v k s3 hm3 he3 g1 g2 g3 g4 g5 g6 g7 w'' hsh;obtain⟨s2,hm2⟩:=hsh.ok hm3 s3;have he2:ERel ⟨m3.A,m3.β,m3.H,w''⟩ fn.ntmps env a'.tmps:=⟨he3.1,fun i v hv=>let ⟨x,x1,x2⟩:=he3.2 i v hv;⟨x,x1,hsh.srel x2⟩⟩;obtain⟨x,hr,hp⟩:=ziv hT hm2 he2 g1;obtain⟨c1,c2,c3⟩:=zg3 hm2 s2 g4 (by rw[h2.len,h1];exact g3) g6;exact⟨x,hr,_,.ret v,rfl,c1,c2,c3 _ _ g5 (g2 _ _ hp),g7⟩
   have hnd':=qbs.1 hnd
   have go:∀(u:FrameMode) (pv:Option SV) (RH:Heap->Prop),u≠ .run->zj7 m' pv u->zcT P gf cv m'.H pv RH->(∀H3,RH H3->RetK tab fn.results.toList H.length R .ret env H3)->
     LeavesInM (Fr none) 0 P fn a'.tmps (fun e w'=>∃(m':M) (r:Res),m'.w=w'/\Step m m'/\HRel m'/\zbZ m' r e/\R r m'.H) a'.defers u m'.w:=by
    intro u pv RH hu hmode hS hR;rw[hd];refine zdt hu ks' m'.w (.refl _ _) hnd'.1 (fun k hk=>hks k (qbG _ hk)) fun w1 hw1 hkeep=>?_
    obtain⟨s1,hm1⟩:=hw1.ok hm' s;obtain⟨⟨fng,q1,q2,q3⟩,hcalls⟩:=hS;have q2':¬fng.name= "runtime.NumGoroutine":=by simpa using q2
    have q3':¬fng.body=none:=by intro e;simp[e]at q3
    refine⟨hu,.inr ⟨fun h=>by simp[Fence.wide]at h,.func gf,arr,gf,arr,rfl,?_,fun _ _=>trivial,?_⟩⟩
    ·simp[invoke,callFunc,q1,q2',q3']
    ·have harr1:ARel ⟨m'.A,m'.β,m'.H,w1⟩ cv arr:=⟨harr.1,fun i c y hc hy=>hw1.srel (harr.2 i c y hc hy)⟩
     have hmode1:zj7 ⟨m'.A,m'.β,m'.H,w1⟩ pv u:=by
      cases pv with
      | none=>exact hmode
      | some v=>obtain⟨x,x1,x2⟩:=hmode;exact⟨x,x1,hw1.srel x2⟩
     have hc:=hcalls ⟨m'.A,m'.β,m'.H,w1⟩ arr u rfl hm1 harr1 hmode1;refine⟨trivial,fun c0 cs hc0 hroom=>?_⟩;obtain⟨e,u',w2,fr,⟨⟨y,rfl⟩,hset,m3,rfl,s3,hm3,hRH⟩,g1,g2,g3,g4⟩:=hc.2 c0 cs hc0 hroom;refine⟨.returned y,u',m3.w,fr,?_,g1,g2,g3,g4⟩;show LeavesInM (Fr none) 0 P fn a'.tmps _ (ks.map mark) (settle u') m3.w;rw[hset,<-qaz (ks.map mark)]
     have hks3:∀k∈ks,m.w.heap.size≤k/\m3.w.heap[k]?=some (.deferred (some [])):=by
      intro k hk;obtain⟨f1,f2⟩:=hks k (qb3 _ hk);have hnk:k ∉ ks':=fun h=>hnd'.2.2 k h k hk rfl
      have f3:w1.heap[k]?=some (.deferred (some [])):=(hkeep k hnk).trans f2;exact⟨f1,by rw[s3.block k (qam.1 f3).1 (zxR hm1 f3)];exact f3⟩
     refine zdt oC ks m3.w (.refl _ _) hnd'.2.1 hks3 fun w4 hw4 _=>?_
     obtain⟨vs,v,k,p1,p2,p3,p4,p5,p6,p7⟩:=hR _ hRH;have he1:ERel ⟨m'.A,m'.β,m'.H,w1⟩ fn.ntmps env a'.tmps:=⟨he.1,fun i v hv=>let ⟨x,x1,x2⟩:=he.2 i v hv;⟨x,x1,hw1.srel x2⟩⟩;exact fin m3 vs v k (s1.trans s3) hm3 (he1.step hm1 s3) p1 p2 p3 p4 p5 p6 p7 w4 hw4
   cases te with
   | normal=>
     cases e <;> simp[zbe]at hx
     obtain⟨RH,k1,k2⟩:=hK;exact go .returning none RH oC rfl k1 k2
   | ret=>
     cases e <;> simp[zbe]at hx
     obtain⟨RH,k1,k2⟩:=hK;exact go .returning none RH oC rfl k1 k2
   | panic v=>
     cases e with
     | panic ch=>
       obtain⟨x,rfl,hux⟩:=hx;obtain⟨RH,k1,k2⟩:=hK;exact go (.panicking _) (some v) RH oC ⟨x,rfl,hux⟩ k1 k2
     | _=>simp[zbe]at hx
   | exit i=>exact hK.elim
end rules
def zlf(es:List (Value×T))(kx:Value):Option T->Prop
 | some t=>∃j:Nat,es[j]?=some (kx,t)/\∀(j':Nat) t',es[j']?=some (kx,t')->j'=j
 | none=>∀(j:Nat) e,es[j]?=some e->e.1≠kx
def zq8(es:List (Value×T))(kx:Value)(t:T)(es':List (Value×T)):Prop:=
 (∃(j:Nat) (t0:T),es[j]?=some (kx,t0)/\(∀(j':Nat) t',es[j']?=some (kx,t')->j'=j)/\es'=es.set j (kx,t))\/((∀(j:Nat) e,es[j]?=some e->e.1≠kx)/\es'=es++[(kx,t)])
def zhI(P:Program)(kt:TypeId)(es:List (Value×T)):Prop:=∀(j:Nat) e,es[j]?=some e->∃l,keyOf P kt e.1=some l
theorem Fit.map{P:Program}{t:TypeId}{i:TyI}(h:Fit P t i){k e:TypeId}(hk:i.k= .map k e):P.underlying t=some (.map k e):=by
 obtain⟨d,ti,z,h1,h2,h3,_⟩:=h.ex;rw[hk]at h3;cases d <;> simp[TK'.fits]at h3
 obtain⟨rfl,rfl⟩:=h3;exact h1
theorem zsw(hm:HRel m){id:Nat}{kt vt:TypeId}(hH:m.H[id]?=some (.map kt vt es)){p:Place}(hp:m.β[id]?=some p):
  ∃(a:Array MapEntry) (clock:Nat),m.w.heap[p.b]?=some (.map a clock)/\a.size=es.length/\∀(i:Nat) k t (e:MapEntry),es[i]?=some (k,t)->a[i]?=some e->e.key=k/\TRel m.A m.w t e.val/\e.born<clock:=by
 obtain⟨_,_,a,clock,h⟩:=hm.blk id p _ hp hH;exact⟨a,clock,h⟩
section find
variable {kt:TypeId}
theorem zhu(K:Maps.Keyed P kt){A:Foot}{w0:World}(hks:zhI P kt es){a:Array MapEntry}{clock:Nat}(hs:a.size=es.length)
  (he:∀(i:Nat) k t (e:MapEntry),es[i]?=some (k,t)->a[i]?=some e->e.key=k/\TRel A w0 t e.val/\e.born<clock)(hkx:∃l,keyOf P kt kx=some l)(w:World):
  ((Instr.findKey kt kx a.toList).run P w= .ok none w/\∀(j:Nat) e,es[j]?=some e->e.1≠kx)\/
  ∃(j:Nat) (t:T) (e:MapEntry),(Instr.findKey kt kx a.toList).run P w= .ok (some (j,e.val)) w/\es[j]?=some (kx,t)/\a[j]?=some e/\TRel A w0 t e.val:=by
 obtain⟨l,hl⟩:=hkx
 have hall:∀e∈a.toList,∃l,keyOf P kt e.key=some l:=by
  intro e hem;obtain⟨i,hi⟩:=qbg hem;have hi':a[i]?=some e:=by simpa using hi
  have hlt:=(qam.1 hi').1;have hes:es[i]?=some es[i]:=qad oA;obtain⟨l',hl'⟩:=hks i _ hes
  have:=(he i es[i].1 es[i].2 e hes hi').1
  exact⟨l',by rw[this];exact hl'⟩
 rcases K.find w hl a.toList hall with ⟨h1,h2⟩|⟨j,e,h1,h2,h3⟩
 ·refine .inl ⟨h1,fun j e hj hk=>?_⟩;have hlt:=(qaa.1 hj).1;have ha:a[j]?=some (a[j]' oA):=qaq oA
  have:=(he j e.1 e.2 _ hj ha).1
  exact h2 _ (qau (i:=j) (by rw[Array.getElem?_toList];exact ha)) (this.trans hk)
 ·have h2':a[j]?=some e:=by simpa using h2
  have hlt:=(qam.1 h2').1;have hes:es[j]?=some es[j]:=qad oA;obtain⟨g1,g2,_⟩:=he j es[j].1 es[j].2 e hes h2';refine .inr ⟨j,es[j].2,e,h1,?_,h2',g2⟩;rw[hes];congr 1
  rw[<-h3,g1]
end find
section rules
variable {n:Nat}{tab:Tab}
variable {pos:String}
theorem TO.makeMap(kt vt:TypeId){t:TypeId}(hd:Nat.ble (d+1) n=true):RW false P n all rest env H K d (.makeMap t none) (.mp H.length) (H++[.map kt vt []]):=fun k=>
 TO.eff hd (fun m ac h1 h2 h3=>by
  obtain⟨s,hm'⟩:=grow h2 (A':=m.A) (βn:=[⟨m.w.heap.size,0,1⟩]) (Hn:=[.map kt vt []]) (w':=m.w.alloc (.map #[] 0)) rfl rfl rfl oC (fun b hb=>RowKit.Below.heap_alloc _ _ _ hb) (fun _ _ h=>h) (fun _ _ h=>.inl h) rfl
   (fun i p k g1 g2 _=>by
     cases i with
     | zero=>simp at g1;subst g1;left;simp
     | succ i=>simp at g1) (fun i j p q hij g1 g2=>by cases i <;> cases j <;> simp at g1 g2 hij) (fun b o g1 g2=>oI g1 g2) (fun s i p k g1 g2=>by
     cases i with
     | zero=>
       simp at g1 g2;subst g1;subst g2
       exact⟨rfl,rfl,#[],0,World.alloc_heap_new _ _,rfl,oC⟩
     | succ i=>simp at g1)
  refine⟨.map (some m.w.heap.size),⟨m.A,m.β++[⟨m.w.heap.size,0,1⟩],m.H++[.map kt vt []],m.w.alloc (.map #[] 0)⟩,?_,s,hm',by rw[h1],?_⟩
  ·simp[execOp,Instr.makeMap,run_newObj_alloc]
  ·rw[<-h1];exact .mp m.H.length ⟨m.w.heap.size,0,1⟩ (by show(m.β++_)[m.H.length]?=_;rw[<-h2.len,qas (qag _)];simp) (by intro n';simp[tlOf])) k
def zzw(ok:Bool)(z:T):Option T->SV
 | some t=>bif ok then .tup [.t t,.b true] else .t t
 | none=>bif ok then .tup [.t z,.b false] else .t z
theorem zkG{t:T}{x:Value}(h:TRel m.A m.w t x)(b:Bool):SRel m (.tup [.t t,.b b]) (.tuple #[x,.bool b]):=
 .tup _ _ rfl fun i c y hc hy=>by
  match i with
  | 0=>simp at hc hy;subst hc;subst hy;exact .t _ _ h
  | 1=>simp at hc hy;subst hc;subst hy;exact .t _ _ (.v _)
  | i+2=>simp at hc
theorem TO.lookup(hT:zas P tab){t kt vt:TypeId}{i iv:TyI}{x y:Operand}{id:Nat}{es:List (Value×T)}{kv:SV}{kx:Value}{ok:Bool}{z:T}{r:Option T}(hd:Nat.ble (d+1) n=true)(ht:tab.get t=some i)(hk:i.k= .map kt vt)
  (hvt:tab.get vt=some iv)(hz:iv.zero=[z])(hag:iv.k.agg=false)(KK:Maps.Keyed P kt)(hx:env.val x=some (.mp id))(hH:H[id]?=some (.map kt vt es))(hks:zhI P kt es)(hy:env.val y=some kv)(hkv:∀m v,SRel m kv v->v=kx)(hkx:∃l,keyOf P kt kx=some l)
  (hr:zlf es kx r)(k:TO q P n all rest ((d,zzw ok z r)::env) H K):TO q P n all (⟨some d,.lookup t x y ok,ty,pos,aft,none⟩::rest) env H K:=
 TO.op hd (fun m ac h1 h2 h3=>by
  have hy':=hkv _ _ (h3.val hy);have h:=h3.val hx;obtain⟨zz,hz1,hz2,_,hz4⟩:=(hT vt iv hvt).zero;obtain⟨g1,g0,g2⟩:=zbY (A:=m.A) (w:=m.w) _ _ hz2
  have hzz:zz.cells= #[zz]:=by
   exact zwfk
  have hzr:TRel m.A m.w z zz:=g2 0 z zz (by rw[hz];rfl) (by rw[hzz];rfl);generalize hq:ac.eval x=v at h;cases h with
  | mp _ p hp hn=>
    have hH1:m.H[id]?=some (.map kt vt es):=by rw[h1];exact hH
    obtain⟨a,clock,b1,b2,b3⟩:=zsw h2 hH1 hp;have hlt:=(qam.1 b1).1;obtain⟨l,hl⟩:=hkx
    have run:∀w' (rr:Option (Nat×Value)),Keeps m.w w'->(Instr.findKey kt kx a.toList).run P w'= .ok rr w'->
      (Instr.lookup t (.map (some p.b)) kx ok).run P w'= .ok (match rr with|some (_,v)=>(if ok then .tuple #[v,.bool true] else v)|none=>(if ok then .tuple #[zz,.bool false] else zz)) w':=by
     intro w' rr kw hf;have hb:w'.heap[p.b]?=some (.map a clock):=by rw[kw.block _ hlt];exact b1
     have hg:(getObj p.b).run P w'= .ok (.map a clock) w':=by simp[getObj,Sem.run,hb]
     unfold Instr.lookup;simp only[Sem.run_bind,underlying,run_program,Result.andThen_ok,(hT t i ht).map hk,Sem.run_pure,hg,KK.check w' _ hl,hf];cases rr with
     | some jv=>cases ok <;> simp
     | none=>cases ok <;> simp[hz1]
    rcases zhu (w0:=m.w) KK hks b2 b3 ⟨l,hl⟩ m.w with ⟨f1,f2⟩|⟨j,tt,e,f1,f2,f3,f4⟩
    ·have hrn:r=none:=by
      cases r with
      | none=>rfl
      | some t0=>obtain⟨j,hj,_⟩:=hr;exact oI rfl (f2 j _ hj)
     subst hrn;refine⟨if ok then .tuple #[zz,.bool false] else zz,fun w' kw=>?_,?_⟩
     ·have f1':(Instr.findKey kt kx a.toList).run P w'= .ok none w':=by
       rcases zhu (w0:=m.w) KK hks b2 b3 ⟨l,hl⟩ w' with ⟨g,_⟩|⟨j,tt,e,_,g,_⟩
       ·exact g
       ·exact oI rfl (f2 j _ g)
      simp[execOp,hq,hy',run w' none kw f1']
     ·cases ok
      ·exact .t _ _ hzr
      ·exact zkG hzr false
    ·cases r with
     | none=>exact oI rfl (hr j _ f2)
     | some t0=>
       obtain⟨jr,hjr,huniq⟩:=hr;refine⟨if ok then .tuple #[e.val,.bool true] else e.val,fun w' kw=>?_,?_⟩
       ·rcases zhu (w0:=m.w) KK hks b2 b3 ⟨l,hl⟩ w' with ⟨_,g⟩|⟨j',tt',e',g',g2',g3',_⟩
        ·exact oI rfl (g j _ f2)
        ·have e1:=huniq j tt f2;have e2:=huniq j' tt' g2';subst e1;subst e2
         have:e'=e:=by rw[f3]at g3';cases g3';rfl
         subst this;simp[execOp,hq,hy',run w' _ kw g']
       ·have:tt=t0:=by
         have e1:=huniq j tt f2;subst e1;rw[hjr]at f2;cases f2;rfl
        subst this;cases ok
        ·exact .t _ _ f4
        ·exact zkG f4 true) k
theorem TO.lookup_nil(hT:zas P tab){t kt vt:TypeId}{i iv:TyI}{kv:SV}{ok:Bool}{z:T}(hd:Nat.ble (d+1) n=true)(ht:tab.get t=some i)(hk:i.k= .map kt vt)
  (hvt:tab.get vt=some iv)(hz:iv.zero=[z])(hag:iv.k.agg=false)(KK:Maps.Keyed P kt)(hx:env.val x=some (.t (.v (.map none))))(hy:env.val y=some kv)(hkv:∀m v,SRel m kv v->v=kx)(hkx:∃l,keyOf P kt kx=some l)
  (k:TO q P n all rest ((d,zzw ok z none)::env) H K):TO q P n all (⟨some d,.lookup t x y ok,ty,pos,aft,none⟩::rest) env H K:=
 TO.op hd (fun m ac h1 h2 h3=>by
  have hy':=hkv _ _ (h3.val hy);have hq:=(h3.val hx).v_eq;obtain⟨zz,hz1,hz2,_,hz4⟩:=(hT vt iv hvt).zero;obtain⟨g1,g0,g2⟩:=zbY (A:=m.A) (w:=m.w) _ _ hz2
  have hzz:zz.cells= #[zz]:=by
   exact zwfk
  have hzr:TRel m.A m.w z zz:=g2 0 z zz (by rw[hz];rfl) (by rw[hzz];rfl);obtain⟨l,hl⟩:=hkx;refine⟨if ok then .tuple #[zz,.bool false] else zz,fun w' kw=>?_,?_⟩
  ·have hf:(Instr.findKey kt kx []).run P w'= .ok none w':=by
    rcases KK.find w' hl [] (by simp)with ⟨h1,_⟩|⟨j,e,_,h2,_⟩
    ·exact h1
    ·simp at h2
   have:(Instr.lookup t (.map none) kx ok).run P w'= .ok (if ok then .tuple #[zz,.bool false] else zz) w':=by
    unfold Instr.lookup;simp only[Sem.run_bind,underlying,run_program,Result.andThen_ok,(hT t i ht).map hk,Sem.run_pure,KK.check w' _ hl,hf];cases ok <;> simp[hz1]
   simp[execOp,hq,hy',this]
  ·cases ok
   ·exact .t _ _ hzr
   ·exact zkG hzr false) k
theorem TO.mapUpdate(hT:zas P tab){t kt vt:TypeId}{i:TyI}{x y v:Operand}{id:Nat}{es es':List (Value×T)}{kv vv:SV}{tv:T}{kx:Value}{H':Heap}(ht:tab.get t=some i)(hk:i.k= .map kt vt)
  (KK:Maps.Keyed P kt)(hx:env.val x=some (.mp id))(hH:H[id]?=some (.map kt vt es))(hks:zhI P kt es)(hy:env.val y=some kv)(hkv:∀m v,SRel m kv v->v=kx)(hkx:∃l,keyOf P kt kx=some l)
  (hv:env.val v=some vv)(htv:vv.toT=some tv)(hp:zq8 es kx tv es')(hH':H.set id (.map kt vt es')=H')
  (k:TO false P n all rest env H' K):TO false P n all (⟨none,.mapUpdate t x y v,ty,pos,aft,none⟩::rest) env H K:=
 TO.eff0 (fun m ac h1 h2 h3=>by
  have hy':=hkv _ _ (h3.val hy);have hvv:=(h3.val hv).toT htv;have h:=h3.val hx;obtain⟨l,hl⟩:=hkx;generalize hq:ac.eval x=z at h;cases h with
  | mp _ p hpp hn=>
    have hH1:m.H[id]?=some (.map kt vt es):=by rw[h1];exact hH
    obtain⟨a,clock,b1,b2,b3⟩:=zsw h2 hH1 hpp;have hg:(getObj p.b).run P m.w= .ok (.map a clock) m.w:=by simp[getObj,Sem.run,b1]
    have hset:∀o',(setObj p.b o').run P m.w= .ok () (m.w.putObj p.b o'):=fun o'=>by simp[setObj,Sem.run,b1,World.putObj]
    have hbk:=h2.blk id p _ hpp hH1
    have cells:∀(a':Array MapEntry) (c':Nat),a'.size=es'.length->(∀(s:Step m ⟨m.A,m.β,m.H.set id (.map kt vt es'),m.w.putObj p.b (.map a' c')⟩) (i:Nat) k t (e:MapEntry),es'[i]?=some (k,t)->a'[i]?=some e->e.key=k/\TRel m.A m.w t e.val/\e.born<c')->
      Step m ⟨m.A,m.β,m.H.set id (.map kt vt es'),m.w.putObj p.b (.map a' c')⟩/\HRel ⟨m.A,m.β,m.H.set id (.map kt vt es'),m.w.putObj p.b (.map a' c')⟩:=by
     intro a' c' hs he;refine ztN h2 hpp hH1 rfl rfl b1 rfl rfl (fun L e=>by cases e) fun s=>⟨hbk.1,hbk.2.1,a',c',World.putObj_heap_same (qam.1 b1).1,hs,fun i k t e g1 g2=>?_⟩
     obtain⟨q1,q2,q3⟩:=he s i k t e g1 g2;exact⟨q1,s.trel h2 q2,q3⟩
    rcases zhu (w0:=m.w) KK hks b2 b3 ⟨l,hl⟩ m.w with ⟨f1,f2⟩|⟨j,tt,e,f1,f2,f3,f4⟩
    ·rcases hp with ⟨j,t0,hj,_⟩|⟨_,rfl⟩
     ·exact oI rfl (f2 j _ hj)
     obtain⟨s,hm'⟩:=cells (a.push { key:=kx,val:=ac.eval v,born:=clock }) (clock+1) (by simp[b2]) (fun s i k t e g1 g2=>by
      by_cases hi:i<es.length
      ·rw[qat hi]at g1;rw[Array.getElem?_push_lt oA,<-qaq]at g2;obtain⟨q1,q2,q3⟩:=b3 i k t e g1 g2;exact⟨q1,q2,oA⟩
      ·rw[qas oA]at g1
       have:i=es.length:=by
        have:=(qaa.1 g1).1
        simp at this;omega
       subst this;simp at g1;rw[<-b2,Array.getElem?_push_size]at g2;cases g2;obtain⟨rfl,rfl⟩:=g1;exact⟨rfl,hvv,oC⟩)
     refine⟨_,?_,s,hm',by rw[h1];exact hH'⟩
     have:(Instr.mapUpdate t (.map (some p.b)) kx (ac.eval v)).run P m.w= .ok () (m.w.putObj p.b (.map (a.push { key:=kx,val:=ac.eval v,born:=clock }) (clock+1))):=by
      unfold Instr.mapUpdate;simp only[Sem.run_bind,underlying,run_program,Result.andThen_ok,(hT t i ht).map hk,Sem.run_pure,hg,KK.check m.w _ hl,f1,hset]
     simp[execOp,hq,hy',this]
    ·rcases hp with ⟨j2,t0,hj,huniq,rfl⟩|⟨hno,_⟩
     ·have e1:=huniq j tt f2;subst e1;have hjl:=(qaa.1 hj).1;have hkey:e.key=kx:=(b3 j _ _ e hj f3).1
      obtain⟨s,hm'⟩:=cells (a.modify j fun e=>{ e with key:=kx,val:=ac.eval v }) clock (by simp[b2]) (fun s i k t e' g1 g2=>by
       by_cases hi:i=j
       ·subst hi;rw[qaC hjl]at g1;cases g1;rw[qbC,oG rfl,f3]at g2;cases g2;exact⟨rfl,hvv,(b3 i _ _ e hj f3).2.2⟩
       ·rw[qaW oA]at g1;rw[qbC,oH oA]at g2;exact b3 i k t e' g1 g2)
      refine⟨_,?_,s,hm',by rw[h1];exact hH'⟩;have hkk:((a[j]?).map (·.key)).getD kx=kx:=by rw[f3];simp[hkey]
      have:(Instr.mapUpdate t (.map (some p.b)) kx (ac.eval v)).run P m.w= .ok () (m.w.putObj p.b (.map (a.modify j fun e=>{ e with key:=kx,val:=ac.eval v }) clock)):=by
       unfold Instr.mapUpdate;simp only[Sem.run_bind,underlying,run_program,Result.andThen_ok,(hT t i ht).map hk,Sem.run_pure,hg,KK.check m.w _ hl,f1,hkk,KK.stays m.w hl,hset]
      simp[execOp,hq,hy',this]
     ·exact oI rfl (hno j _ f2)) k
end rules
theorem zqt(hm:HRel m)(arr:Array Value)(e:TypeId)(ts:List T)(hl:ts.length=arr.size)(h1:∀(i:Nat) y,arr[i]?=some y->y.oneCell'=true)(h:∀(i:Nat) t y,ts[i]?=some t->arr[i]?=some y->TRel m.A m.w t y):
  ∃m':M,m'.w=m.w.alloc (.cells arr e)/\Step m m'/\HRel m'/\m'.H=m.H/\SRel m' (.cp ts 0) (.pointer (some ⟨m.w.heap.size,0,none⟩)):=by
 have hcell:∀o,(m.w.alloc (.cells arr e)).cell? ⟨m.w.heap.size,o,none⟩=arr[o]? :=fun o=>World.cell?_alloc_new ..
 obtain⟨s,hm'⟩:=grow hm (A':=fun b o=>m.A b o\/(b=m.w.heap.size/\o<arr.size)) (βn:=[]) (Hn:=[]) (w':=m.w.alloc (.cells arr e)) rfl rfl rfl oC (fun b hb=>RowKit.Below.heap_alloc _ _ _ hb) (fun _ _ h=>.inl h) (fun b o h=>by
  rcases h with h|h
  ·exact .inl h
  ·exact .inr ⟨oA,oF⟩) rfl oC oC oC oC
 refine⟨⟨fun b o=>m.A b o\/(b=m.w.heap.size/\o<arr.size),m.β,m.H,m.w.alloc (.cells arr e)⟩,rfl,by simpa using s,by simpa using hm',rfl,?_⟩;have s':Step m ⟨fun b o=>m.A b o\/(b=m.w.heap.size/\o<arr.size),m.β,m.H,m.w.alloc (.cells arr e)⟩:=by simpa using s
 refine .cp ts 0 m.w.heap.size 0 (fun j=>(arr[j]?).getD undef) (fun j hj=>?_) (fun j hj=>.inr ⟨rfl,oA⟩) (fun j hj=>?_) (fun j c hc=>?_)
 ·rw[qaq oA];exact h1 j _ (qaq oA)
 ·show(m.w.alloc (.cells arr e)).cell? _=_;rw[qaV,hcell,qaq oA];rfl
 ·have hj:=(qaa.1 hc).1;rw[qaq oA];exact s'.trel hm (h j c _ hc (qaq oA))
theorem znz(hm:HRel m){w':World}(kw:Keeps m.w w'){b:Nat}(hb:m.w.heap.size≤b/\b<w'.heap.size)(ts:List T)(f:Nat->Value)(hcell:∀j,j<ts.length->w'.cell? ⟨b,j,none⟩=some (f j))(h1:∀j,j<ts.length->(f j).oneCell'=true)
  (h:∀(i:Nat) t,ts[i]?=some t->TRel m.A m.w t (f i)):∃m':M,m'.w=w'/\Step m m'/\HRel m'/\m'.H=m.H/\SRel m' (.cp ts 0) (.pointer (some ⟨b,0,none⟩)):=by
 obtain⟨s,hm'⟩:=grow hm (A':=fun b' o=>m.A b' o\/(b'=b/\o<ts.length)) (βn:=[]) (Hn:=[]) (w':=w') kw.os kw.tape kw.output kw.size kw.block (fun _ _ h=>.inl h) (fun b' o h=>by
  rcases h with h|h
  ·exact .inl h
  ·exact .inr oA) rfl oC oC oC oC
 have s':Step m ⟨fun b' o=>m.A b' o\/(b'=b/\o<ts.length),m.β,m.H,w'⟩:=by simpa using s
 refine⟨⟨fun b' o=>m.A b' o\/(b'=b/\o<ts.length),m.β,m.H,w'⟩,rfl,s',by simpa using hm',rfl,?_⟩;exact .cp ts 0 b 0 f h1 (fun j hj=>.inr ⟨rfl,oA⟩) (fun j hj=>by rw[qaV];exact hcell j hj) (fun j c hc=>s'.trel hm (h j c hc))
section rules
variable {n:Nat}{tab:Tab}
variable {pos:String}
theorem TO.boxC{t:TypeId}{v:SV}(hd:Nat.ble (d+1) n=true)(hx:env.val x=some v)(hv:v.solid=true)(hc:allT v.cells=some ts):RV false P n all rest env H K d (.box t x) (.cp ts 0):=
 TO.eff hd (fun m ac h1 h2 h3=>by
  obtain⟨g1,g0,g2⟩:=(h3.val hx).cells hv;obtain⟨l1,l2⟩:=zfI (m:=m) hc
  obtain⟨m',e1,e2,e3,e4,e5⟩:=zqt h2 (ac.eval x).cells t ts oA g0 (fun i u y hu hy=>by
   obtain⟨c,hc,hr⟩:=l2 i u hu;exact hr y (g2 i c y hc hy))
  refine⟨.pointer (some ⟨m.w.heap.size,0,none⟩),m',?_,e2,e3,by rw[e4,h1],e5⟩;rw[e1];simp[execOp,Instr.box,newVar,newRow])
theorem zhM{tab:Tab}(hT:zas P tab){t:TypeId}{i:TyI}{v:SV}{yv:Value}(ht:tab.get t=some i)(h2:HRel m)(hy:SRel m v yv)(hv:v.solid=true)(hc:allT v.cells=some ts)(hsz:i.size=ts.length)(hpos:0<ts.length):
  ∃w1 m',(∀(a:Act) dd ty pos aft,(execOp a.eval ⟨dd,.alloc t,ty,pos,aft,none⟩).run P m.w= .ok (.value (.pointer (some ⟨m.w.heap.size,0,none⟩))) w1)/\
   (∀(a:Act) x y ty pos aft,a.eval x= .pointer (some ⟨m.w.heap.size,0,none⟩)->a.eval y=yv->(execOp a.eval ⟨none,.store t x y,ty,pos,aft,none⟩).run P w1= .ok .skip m'.w)/\
   Step m m'/\HRel m'/\m'.H=m.H/\SRel m' (.cp ts 0) (.pointer (some ⟨m.w.heap.size,0,none⟩)):=by
 obtain⟨z,hz1,hz2,_,_⟩:=(hT t i ht).zero;obtain⟨zl,z0,_⟩:=zbY (A:=m.A) (w:=m.w) _ _ hz2;have hzl:z.cells.size=i.size:=by have:=(hT t i ht).len;simp at zl;omega
 obtain⟨g1,g0,g2⟩:=hy.cells hv;obtain⟨l1,l2⟩:=zfI (m:=m) hc
 let w1:=m.w.alloc (.cells z.cells t)
 have hc1:∀o,w1.cell? ⟨m.w.heap.size,o,none⟩=z.cells[o]? :=fun o=>World.cell?_alloc_new ..
 have hlen:yv.cells.toList.length=z.cells.size:=oF
 have hsome:∀q,q<yv.cells.toList.length->(w1.cell? ⟨m.w.heap.size,0+q,none⟩).isSome=true:=fun q hq=>by rw[qaV,hc1,qaq oA];rfl
 let w2:=w1.setCells m.w.heap.size 0 yv.cells.toList
 obtain⟨e1,e2,e3,e4,e5,e6⟩:=zbW m.w.heap.size yv.cells.toList 0 w1;have kw:Keeps m.w w2:=⟨e1,e2,e3,by show _≤w2.heap.size;rw[e4];simp[w1],fun b hb=>by rw[e5 b oA];exact RowKit.Below.heap_alloc _ _ _ hb⟩
 obtain⟨m',f1,f2,f3,f4,f5⟩:=znz h2 kw (b:=m.w.heap.size) ⟨qag _,by rw[e4];simp[w1]⟩ ts (fun j=>(yv.cells[j]?).getD undef) (fun j hj=>by
  have hj':j<yv.cells.toList.length:=oF
  have:=World.cell?_setCells_in m.w.heap.size yv.cells.toList 0 w1 hsome j hj'
  rw[qaV]at this;rw[show w2.cell? _=_ from this,qaq (by simpa using hj')];simp) (fun j hj=>by
  rw[qaq oA];exact g0 j _ (qaq oA)) (fun j u hu=>by
  have hj:=(qaa.1 hu).1;obtain⟨c,hcc,hr⟩:=l2 j u hu;rw[qaq oA];exact hr _ (g2 j c _ hcc (qaq oA)))
 refine⟨w1,m',fun a dd ty pos aft=>by simp[execOp,Instr.alloc,hz1,newVar,newRow,w1],fun a x y ty pos aft hx hyv=>?_,f2,f3,f4,f5⟩
 have hst:=run_storeCells_cells (P:=P) m.w.heap.size 0 yv.cells.toList 0 w1 (fun q hq=>hsome q hq) (fun q hq=>World.frozen?_alloc_new ..) (fun u hu=>by
  obtain⟨q,hq⟩:=qbg hu;exact g0 q u (by simpa using hq))
 have hne:yv.cells.size=i.size:=oA
 rw[f1];simp[execOp,hx,hyv,Instr.storeAt,Instr.sureAddr,storeVar,(hT t i ht).sizeOf,hne,hst,w2]
theorem eval_put(a:Act)(v:Value)(h:d<a.tmps.size):(a.put (some d) v).eval (.tmp d)=v:=by simp[Act.put,Act.eval,qaQ,h]
theorem TO.zyI(hT:zas P tab){t:TypeId}{i:TyI}{v:SV}{ty':TypeId}{pos':String}{aft':Array Edge}(hd:Nat.ble (d+1) n=true)(ht:tab.get t=some i)(hy:Env.val ((d,.any)::env) y=some v)(hv:v.solid=true)(hc:allT v.cells=some ts)
  (hsz:i.size=ts.length)(hpos:0<ts.length)
  (k:TO false P n all rest ((d,.cp ts 0)::env) H K):TO false P n all (⟨some d,.alloc t,ty,pos,aft,none⟩::⟨none,.store t (.tmp d) y,ty',pos',aft',none⟩::rest) env H K:=by
 intro φ m a h1 h2 h3 h4;have hE1:ERel m n ((d,.any)::env) (a.put (some d) (.pointer (some ⟨m.w.heap.size,0,none⟩))).tmps:=h3.put d (qaj hd) (.any _);obtain⟨w1,m',r1,r2,f2,f3,f4,f5⟩:=zhM hT ht h2 (hE1.val hy) hv hc hsz hpos;refine wpListIn_plain rfl fun K' hK=>?_
 unfold Oper.wpIn;refine⟨fun _ _=>trivial,?_⟩;rw[za9 (r1 ..) (by intro d e;cases e)];simp only[Oper.uponIn];refine hK _ _ ?_;refine wpListIn_plain rfl fun K2 hK2=>?_
 unfold Oper.wpIn;refine⟨fun _ _=>trivial,?_⟩;rw[za9 (r2 _ _ _ _ _ _ (eval_put a _ (by rw[h3.1];exact qaj hd)) rfl) (by intro d e;cases e)];simp only[Oper.uponIn];exact hK2 _ _ (TO.zfF f2 (k φ m' _ (by rw[f4,h1]) f3 ((h3.step h2 f2).put d (qaj hd) f5) (by simpa [Act.put]using h4.step h2 f2)))
theorem RetK.at(k:Nat){N:Nat}{v:SV}(hr:zbO tab env H rs=some vs)(hl:Le (pack vs) v)(hN:N≤k)(hk:H.length=k)(hu:v.under k=true)
  (hb:zaa k H=true)(hR:R (.ret v) H):RetK tab rs N R .ret env H:=by
 have ht:H.take k=H:=qaJ oA;exact⟨vs,v,k,hr,hl,hN,oA,hu,by rw[ht];exact hb,by rw[ht];exact hR⟩
theorem RetK.atN(k:Nat){N:Nat}{v:SV}(hr:zbO tab env H rs=some vs)(hl:Le (pack vs) v)(hN:N≤k)(hk:H.length=k)(hu:v.under k=true)
  (hb:zaa k H=true)(hR:R (.ret v) H):RetK tab rs N R .normal env H:=RetK.at k hr hl hN hk hu hb hR
theorem RetK.atP(k:Nat){N:Nat}{v:SV}(hN:N≤k)(hk:H.length=k)(hu:v.under k=true)
  (hb:zaa k H=true)(hR:R (.panic v) H):RetK tab rs N R (.panic v) env H:=by
 have ht:H.take k=H:=qaJ oA;exact⟨v,k,Le.refl _,hN,oA,hu,by rw[ht];exact hb,by rw[ht];exact hR⟩
end rules
def zoe{α:Type}:Nat->List α->Option (List α)
 | 0,_=>some []
 | _+1,[]=>none
 | k+1,x::l=>(zoe k l).bind fun r=>some (x::r)
theorem zk1{α:Type}:∀ {k:Nat} {l r:List α},zoe k l=some r->k≤l.length/\r=l.take k
 | 0,_,r,h=>by simp[zoe]at h;simp[h]
 | _+1,[],r,h=>by simp[zoe]at h
 | k+1,x::l,r,h=>by
   simp only[zoe,qao,qaI]at h;obtain⟨r',h1,rfl⟩:=h;obtain⟨h2,rfl⟩:=zk1 h1;simp;exact h2
def za7{α:Type}:List α->Option (List α)
 | []=>some []
 | x::l=>(za7 l).bind fun r=>some (x::r)
theorem zby{α:Type}:∀ {l r:List α},za7 l=some r->r=l
 | [],r,h=>by simp[za7]at h;simp[h]
 | x::l,r,h=>by
   simp only[za7,qao,qaI]at h;obtain⟨r',h1,rfl⟩:=h;rw[zby h1]
def setS{α:Type}:List α->Nat->α->Option (List α)
 | [],_,_=>none
 | _::l,0,a=>some (a::l)
 | x::l,k+1,a=>(setS l k a).bind fun r=>some (x::r)
theorem zgI{α:Type}:∀ {l:List α} {k:Nat} {a:α} {r:List α},setS l k a=some r->r=l.set k a
 | [],_,_,r,h=>by simp[setS]at h
 | _::l,0,a,r,h=>by simp[setS]at h;simp[h]
 | x::l,k+1,a,r,h=>by
   simp only[setS,qao,qaI]at h;obtain⟨r',h1,rfl⟩:=h;simp[zgI h1]
def zxL(tab:Tab)(env:Env)(H:Heap)(t:TypeId)(x:Operand):Option SV:=
 (env.val x).bind fun v=>(tab.get t).bind fun i=>match v with
   | .cp cs off=>bif i.k.agg then(bif Nat.ble (off+i.size) cs.length then(zoe i.size (cs.drop off)).bind fun l=>some (.t (.ag l)) else none) else(cs[off]?).bind fun c=>some (.t c)
   | .ref id off=>(H[id]?).bind fun b=>match b with
     | .cells cs=>bif i.k.agg then(bif Nat.ble (off+i.size) cs.length then(zoe i.size (cs.drop off)).bind fun l=>some (.ag l) else none) else cs[off]?
     | _=>none
   | _=>none
def zgx(tab:Tab)(env:Env)(t:TypeId)(x:Operand)(fi:Nat):Option SV:=
 (env.val x).bind fun v=>(tab.get t).bind fun i=>match i.k with
   | .struct fs=>(fs[fi]?).bind fun p=>(tab.get p.2).bind fun it=>bif Nat.beq it.size 0 then none else match v with
     | .cp cs off=>some (.cp cs (off+p.1))
     | .ref id off=>some (.ref id (off+p.1))
     | .tref _ _ id off=>some (.ref id (off+p.1))
     | _=>none
   | _=>none
def zrY(tab:Tab)(env:Env)(t:TypeId)(x:Operand)(fi:Nat):Option SV:=
 (env.val x).bind fun v=>(tab.get t).bind fun i=>match i.k with
   | .struct fs=>(fs[fi]?).bind fun p=>(tab.get p.2).bind fun it=>bif it.k.agg then none else(v.parts).bind fun cs=>cs[p.1]?
   | _=>none
def lenV(tab:Tab)(env:Env)(t:TypeId)(x:Operand):Option SV:=
 (env.val x).bind fun v=>(tab.get t).bind fun i=>match i.k with
   | .str=>match v with
     | .t (.v (.string ⟨⟨l⟩⟩))=>some (.t (.v (.int .i64 l.length)))
     | _=>none
   | .slice e=>(tab.get e).bind fun ie=>match v with
     | .ms _ _ _ len=>some (.t (.v (.int .i64 len)))
     | v=>(v.elems ie.size).bind fun es=>some (.t (.v (.int .i64 es.length)))
   | _=>none
def zrt(tab:Tab)(env:Env)(t:TypeId)(parts:Array (Nat×Operand)):Option SV:=
 (tab.get t).bind fun i=>match i.k with
   | .struct fs=>(sizes tab fs).bind fun fz=>(env.parts parts.toList).bind fun ps=>(zg5 fz (i.zero.map .t) ps).bind fun cs=>match allT cs with
     | some ts=>(za7 ts).bind fun ts'=>some (.t (.ag ts'))
     | none=>(za7 cs).bind fun cs'=>some (.ag cs')
   | _=>none
def zxv(tab:Tab)(env:Env)(H:Heap):Op->Option SV
 | .move x=>env.val x
 | .assign x=>env.val x
 | .pick c x y=>(env.val c).bind fun v=>match v with
   | .t (.v (.bool true))=>env.val x
   | .t (.v (.bool false))=>env.val y
   | _=>none
 | .unOp .not _ x=>(env.val x).bind fun v=>match v with
   | .t (.v (.bool b))=>some (.t (.v (.bool (!b))))
   | _=>none
 | .load t x=>zxL tab env H t x
 | .fieldAddr t x fi=>zgx tab env t x fi
 | .field t x fi=>zrY tab env t x fi
 | .nilCheck x=>(env.val x).bind fun v=>match v with
   | .fn f cs=>some (.fn f cs)
   | v=>bif v.znF then some v else none
 | .extract x i=>(env.val x).bind fun v=>match v with
   | .tup vs=>vs[i]?
   | _=>none
 | .makeFunc (.func f) ⟨[]⟩ caps=>(env.vals caps.toList).bind fun vs=>some (.fn f vs)
 | .build t parts=>zrt tab env t parts
 | .call ⟨.builtin .len,⟨[x]⟩,⟨[t]⟩⟩=>lenV tab env t x
 | _=>none
def boxH(c:Bool)(env:Env)(H:Heap)(x:Operand):Option (SV×Heap):=
 (env.val x).bind fun v=>bif v.solid then
   (bif c then(allT v.cells).bind fun ts=>(za7 ts).bind fun ts'=>some (.cp ts' 0,H) else(za7 v.cells).bind fun cs=>some (.ref H.length 0,H++[.cells cs])) else none
def zvt(tab:Tab)(H:Heap)(t:TypeId):Option (SV×Heap):=
 (tab.get t).bind fun i=>(za7 (i.zero.map SV.t)).bind fun cs=>some (.ref H.length 0,H++[.cells cs])
def mapH(tab:Tab)(H:Heap)(t:TypeId):Option (SV×Heap):=
 (tab.get t).bind fun i=>match i.k with
   | .map k e=>some (.mp H.length,H++[.map k e []])
   | _=>none
def zwI(tab:Tab)(env:Env)(H:Heap)(t:TypeId)(len:Nat)(parts:Array (Nat×Operand)):Option (SV×Heap):=
 (tab.get t).bind fun i=>match i.k with
   | .slice e=>(tab.get e).bind fun ie=>(env.parts parts.toList).bind fun ps=>(zeH ie.size 0 ps).bind fun es=>
     bif Nat.beq len es.length && ((es.all fun t=>Nat.beq t.cells.length ie.size) && Nat.ble (len*ie.size) 16777216) then some (.t (.sl ie.size es),H) else none
   | _=>none
def zxu(tab:Tab)(c:Bool)(env:Env)(H:Heap):Op->Option (SV×Heap)
 | .box _ x=>boxH c env H x
 | .alloc t=>bif c then none else zvt tab H t
 | .makeMap t none=>mapH tab H t
 | .buildSlice t len parts=>zwI tab env H t len parts
 | _=>none
def ztp(tab:Tab)(env:Env)(H:Heap)(t:TypeId)(x y:Operand):Option Heap:=
 (env.val x).bind fun vx=>match vx with
   | .ref id off=>(env.val y).bind fun v=>(tab.get t).bind fun i=>bif v.solid && Nat.beq i.size v.cells.length then
     (H[id]?).bind fun b=>match b with
       | .cells cs=>bif Nat.ble 1 v.cells.length && Nat.ble (off+v.cells.length) cs.length then(za7 (splice cs off v.cells)).bind fun cs'=>setS H id (.cells cs') else none
       | _=>none
     else none
   | _=>none
def zy9(tab:Tab)(env:Env)(H:Heap):Op->Option Heap
 | .store t x y=>ztp tab env H t x y
 | _=>none
def zxs(tab:Tab)(n:Nat)(c q:Bool)(env:Env)(H:Heap):Option Tmp->Op->Option (Env×Heap)
 | some d,op=>bif Nat.ble (d+1) n then(match zxv tab env H op with
    | some v=>some ((d,v)::env,H)
    | none=>bif q then none else(zxu tab c env H op).bind fun p=>match p with|(v,H')=>some ((d,v)::env,H')) else none
 | none,op=>bif q then none else(zy9 tab env H op).bind fun H'=>some (env,H')
def zxt(tab:Tab)(n:Nat)(c q:Bool)(all:Array Oper)(env:Env)(H:Heap)(o:Oper):Option (Env×Heap):=
 (zmX all env o.guard).bind fun b=>bif b then zxs tab n c q env H o.dst o.op else match o.dst with
   | some d=>bif Nat.ble (d+1) n then some ((d,.t (.v undef))::env,H) else none
   | none=>some (env,H)
theorem zcW{α:Type}{b:Bool}{x:Option α}{y:α}(h:(bif b then x else none)=some y):b=true/\x=some y:=by
 cases b
 ·cases h
 ·exact⟨rfl,h⟩
theorem zmT{env:Env}:∀ {l:List Operand} {vs:List SV},env.vals l=some vs->l.mapM env.val=some vs
 | [],vs,h=>by simp[Env.vals]at h;subst h;rfl
 | x::r,vs,h=>by
   simp only[Env.vals]at h;split at h
   ·rename_i v l h1 h2;cases h;simp[qb8,h1,zmT h2]
   ·cases h
section rules
variable {n:Nat}{tab:Tab}
variable {pos:String}
theorem zuF(hT:zas P tab){t:TypeId}{v:SV}(hd:Nat.ble (d+1) n=true)(h:zxL tab env H t x=some v):RV q P n all rest env H K d (.load t x) v:=by
 intro _ _ _ k;simp only[zxL,qao]at h;obtain⟨vx,hx,i,hi,h⟩:=h;split at h
 ·rename_i cs off;cases ha:i.k.agg with
  | true=>
    rw[ha]at h;obtain⟨h0,h⟩:=zcW h;simp only[qao,qaI]at h;obtain⟨l,hl,rfl⟩:=h;obtain⟨h1,rfl⟩:=zk1 hl;exact TO.zpa hT hd hi ha hx (qaj h0) k
  | false=>
    rw[ha]at h;simp only[cond_false,qao,qaI]at h;obtain⟨c,hc,rfl⟩:=h;exact TO.load hT hd hi ha hx hc k
 ·rename_i id off;simp only[qao]at h;obtain⟨b,hb,h⟩:=h;split at h
  ·rename_i cs;cases ha:i.k.agg with
   | true=>
     rw[ha]at h;obtain⟨h0,h⟩:=zcW h;simp only[qao,qaI]at h;obtain⟨l,hl,rfl⟩:=h;obtain⟨h1,rfl⟩:=zk1 hl;exact TO.zeR hT hd hi ha hx hb (qaj h0) k
   | false=>
     rw[ha]at h;simp only[cond_false]at h;exact TO.zf4 hT hd hi ha hx hb h k
  ·cases h
 ·cases h
theorem zko(hT:zas P tab){t:TypeId}{v:SV}(hd:Nat.ble (d+1) n=true)(h:zgx tab env t x fi=some v):RV q P n all rest env H K d (.fieldAddr t x fi) v:=by
 intro _ _ _ k;simp only[zgx,qao]at h;obtain⟨vx,hx,i,hi,h⟩:=h;split at h
 ·rename_i fs hk;simp only[qao]at h;obtain⟨⟨o,ft⟩,hf,it,hft,h⟩:=h;cases hz:Nat.beq it.size 0 with
  | true=>rw[hz]at h;cases h
  | false=>
    rw[hz]at h;have hz':it.size≠0:=fun e=>by rw[e]at hz;cases hz
    simp only[cond_false]at h;split at h <;> cases h
    ·exact TO.fieldAddr hT hd hi hk hf hft hz' hx k
    ·exact TO.zfV hT hd hi hk hf hft hz' hx k
    ·exact TO.zfl hT hd hi hk hf hft hz' hx k
 ·cases h
theorem zrZ(hT:zas P tab){t:TypeId}{v:SV}(hd:Nat.ble (d+1) n=true)(h:zrY tab env t x fi=some v):RV q P n all rest env H K d (.field t x fi) v:=by
 intro _ _ _ k;simp only[zrY,qao]at h;obtain⟨vx,hx,i,hi,h⟩:=h;split at h
 ·rename_i fs hk;simp only[qao]at h;obtain⟨⟨o,ft⟩,hf,it,hft,h⟩:=h;cases ha:it.k.agg with
  | true=>rw[ha]at h;cases h
  | false=>
    rw[ha]at h;simp only[cond_false,qao]at h;obtain⟨cs,hc,h⟩:=h;exact TO.field hT hd hi hk hf hft ha hx hc h k
 ·cases h
theorem zxG(hT:zas P tab){t:TypeId}{v:SV}(hd:Nat.ble (d+1) n=true)(h:lenV tab env t x=some v):RV q P n all rest env H K d (.call { callee:=.builtin .len,args:=#[x],argTypes:=#[t] }) v:=by
 intro _ _ _ k;simp only[lenV,qao]at h;obtain⟨vx,hx,i,hi,h⟩:=h;split at h
 ·rename_i hk;split at h
  ·cases h;exact TO.zsr hT hd hi hk hx k
  ·cases h
 ·rename_i e hk;simp only[qao]at h;obtain⟨ie,he,h⟩:=h;split at h
  ·cases h;exact TO.zvZ hT hd hi hk hx k
  ·simp only[qao,qaI]at h;obtain⟨es,hes,rfl⟩:=h;exact TO.zv0 hT hd hi hk he rfl hx hes k
 ·cases h
theorem zru(hT:zas P tab){t:TypeId}{parts:Array (Nat×Operand)}{v:SV}(hd:Nat.ble (d+1) n=true)(h:zrt tab env t parts=some v):RV q P n all rest env H K d (.build t parts) v:=by
 intro _ _ _ k;simp only[zrt,qao]at h;obtain⟨i,hi,h⟩:=h;split at h
 ·rename_i fs hk;simp only[qao]at h;obtain⟨fz,hz,ps,hp,cs,hc,h⟩:=h;split at h
  ·rename_i ts hts;simp only[qao,qaI]at h;obtain⟨ts',hf,rfl⟩:=h;rw[zby hf]at k;exact TO.zvv hT hd hi hk hz hp hc hts k
  ·simp only[qao,qaI]at h;obtain⟨cs',hf,rfl⟩:=h;rw[zby hf]at k;exact TO.build hT hd hi hk hz hp hc k
 ·cases h
theorem zur(hT:zas P tab){op:Op}{v:SV}(hd:Nat.ble (d+1) n=true)(h:zxv tab env H op=some v):RV q P n all rest env H K d op v:=by
 intro _ _ _ k;unfold zxv at h;split at h
 ·exact TO.move hd h k
 ·exact TO.assign hd h k
 ·simp only[qao]at h;obtain⟨vc,hc,h⟩:=h;split at h
  ·exact TO.pick hd hc h k
  ·exact TO.pick hd hc h k
  ·cases h
 ·simp only[qao]at h;obtain⟨vx,hx,h⟩:=h;split at h
  ·cases h;exact TO.not hd hx k
  ·cases h
 ·exact zuF hT hd h k
 ·exact zko hT hd h k
 ·exact zrZ hT hd h k
 ·simp only[qao]at h;obtain⟨vx,hx,h⟩:=h;split at h
  ·cases h;exact TO.zio hd hx k
  ·obtain⟨h1,h2⟩:=zcW h;cases h2;exact TO.nilCheck hd hx h1 k
 ·simp only[qao]at h;obtain⟨vx,hx,h⟩:=h;split at h
  ·exact TO.extract hd hx h k
  ·cases h
 ·simp only[qao,qaI]at h;obtain⟨vs,hv,rfl⟩:=h;exact TO.makeFunc hd (zmT hv) k
 ·exact zru hT hd h k
 ·exact zxG hT hd h k
 ·cases h
theorem zuq(hT:zas P tab){c:Bool}{op:Op}{p:SV×Heap}(hd:Nat.ble (d+1) n=true)(h:zxu tab c env H op=some p):RW false P n all rest env H K d op (p.1) (p.2):=by
 intro _ _ _ k;unfold zxu at h;split at h
 ·simp only[boxH,qao]at h;obtain⟨v,hx,h⟩:=h;obtain⟨hs,h⟩:=zcW h;cases c with
  | true=>
    simp only[cond_true,qao,qaI]at h;obtain⟨ts,ht,ts',hf,rfl⟩:=h;rw[zby hf]at k;exact TO.boxC hd hx hs ht k
  | false=>
    simp only[cond_false,qao,qaI]at h;obtain⟨cs,hc,rfl⟩:=h;exact TO.box hd hx hs (zby hc).symm k
 ·cases c with
  | true=>cases h
  | false=>
    simp only[cond_false,zvt,qao,qaI]at h;obtain⟨i,hi,cs,hc,rfl⟩:=h;exact TO.alloc hT hd hi (zby hc).symm k
 ·simp only[mapH,qao]at h;obtain⟨i,hi,h⟩:=h;split at h
  ·cases h;exact TO.makeMap _ _ hd k
  ·cases h
 ·simp only[zwI,qao]at h;obtain⟨i,hi,h⟩:=h;split at h
  ·rename_i e hk;simp only[qao]at h;obtain⟨ie,he,ps,hp,es,hes,h⟩:=h;obtain⟨hb,h⟩:=zcW h;simp only[qar]at hb;cases h;exact TO.zhY hT hd hi hk he rfl hp hes hb.1 hb.2.1 hb.2.2 k
  ·cases h
 ·cases h
theorem ztq(hT:zas P tab){t:TypeId}(h:ztp tab env H t x y=some H')(k:TO false P n all rest env H' K):
  TO false P n all (⟨none,.store t x y,ty,pos,aft,none⟩::rest) env H K:=by
 simp only[ztp,qao]at h;obtain⟨vx,hx,h⟩:=h;split at h
 ·rename_i id off;simp only[qao]at h;obtain⟨v,hy,i,hi,h⟩:=h;obtain⟨hb,h⟩:=zcW h;simp only[qar]at hb;simp only[qao]at h;obtain⟨b,hH,h⟩:=h;split at h
  ·rename_i cs;obtain⟨hc,h⟩:=zcW h;simp only[qar]at hc;simp only[qao]at h;obtain⟨cs',hf,hs⟩:=h;have hs':=zgI hs;rw[zby hf]at hs';exact TO.store hT hi hx hy hb.1 rfl (qaY hb.2) (qaj hc.1) hH (qaj hc.2) hs'.symm k
  ·cases h
 ·cases h
theorem zup(hT:zas P tab){c:Bool}{o:Oper}(h:zxt tab n c q all env H o=some (env',H'))(k:TO q P n all rest env' H' K):
  TO q P n all (o::rest) env H K:=by
 obtain⟨dst,op,ty,pos,aft,g⟩:=o;simp only[zxt,qao]at h;obtain⟨b,hb,h⟩:=h;cases b with
 | true=>
   simp only[cond_true]at h
   have key:TO q P n all (⟨dst,op,ty,pos,aft,none⟩::rest) env H K:=by
    cases dst with
    | some d=>
      simp only[zxs]at h;obtain⟨hd,h⟩:=zcW h;split at h
      ·rename_i v hv;cases h;exact zur hT hd hv k
      ·cases q with
       | true=>cases h
       | false=>
         simp only[cond_false,qao,qaI,qbt]at h;obtain⟨p,hp,rfl,rfl⟩:=h;exact zuq hT hd hp k
    | none=>
      simp only[zxs]at h;cases q with
      | true=>cases h
      | false=>
        simp only[cond_false,qao,qaI,qbt]at h;obtain⟨H2,hp,rfl,rfl⟩:=h;unfold zy9 at hp;split at hp
        ·exact ztq hT hp k
        ·cases hp
   cases g with
   | none=>exact key
   | some g=>exact TO.want hb key
 | false=>
   simp only[cond_false]at h;cases g with
   | none=>simp[zmX]at hb
   | some g=>
     cases dst with
     | some d=>
       obtain⟨hd,h⟩:=zcW h;cases h;exact TO.pass hd hb k
     | none=>cases h;exact TO.zzM hb k
end rules
def TLes:List T->List T->Prop
 | [],[]=>True
 | a::aas,b::bs=>TLe a b/\TLes aas bs
 | _,_=>False
theorem TLes.get:∀ {aas bs:List T},TLes aas bs->aas.length=bs.length/\∀(i:Nat) a b,aas[i]?=some a->bs[i]?=some b->TLe a b
 | [],[],_=>oC
 | [],_::_,h=>by cases h
 | _::_,[],h=>by cases h
 | a::aas,b::bs,h=>by
   obtain⟨g1,g2⟩:=TLes.get h.2;exact zwbh
theorem TLe.of_eq{a b:T}(h:a=b):TLe a b:=h ▸ .refl a
theorem TLe.ags{aas bs:List T}(h:TLes aas bs):TLe (.ag aas) (.ag bs):=.ag _ _ h.get.1 h.get.2
theorem zj4(r:Nat->Nat)(h:unders 0 vs=true):rens r vs=vs:=zbs (N:=0) (fun j hj=>oA) vs h
section cmps
variable {n:Nat}
variable {pos:String}{t t':TypeId}{x y:Operand}{ik:IntKind}{a b:Int}
theorem TO.ceq(hd:Nat.ble (d+1) n=true)(hx:env.val x=some (.t (.v (.int ik a))))(hy:env.val y=some (.t (.v (.int ik b))))(ht:a=b->TO q P n all rest ((d,.t (.v (.bool true)))::env) H K)
  (hf:¬(a=b)->TO q P n all rest ((d,.t (.v (.bool false)))::env) H K):TO q P n all (⟨some d,.binOp .eql t x y t',ty,pos,aft,none⟩::rest) env H K:=
 TO.cmp (c:=(a == b)) hd hx hy (by cases ik <;> simp[zbE]) (fun h=>ht (by simpa using h)) (fun h=>hf (by simpa using h))
theorem TO.cne(hd:Nat.ble (d+1) n=true)(hx:env.val x=some (.t (.v (.int ik a))))(hy:env.val y=some (.t (.v (.int ik b))))(ht:a≠b->TO q P n all rest ((d,.t (.v (.bool true)))::env) H K)
  (hf:¬(a≠b)->TO q P n all rest ((d,.t (.v (.bool false)))::env) H K):TO q P n all (⟨some d,.binOp .neq t x y t',ty,pos,aft,none⟩::rest) env H K:=
 TO.cmp (c:=(a != b)) hd hx hy (by cases ik <;> simp[zbE]) (fun h=>ht (by simpa using h)) (fun h=>hf (by simpa using h))
theorem TO.clt(hd:Nat.ble (d+1) n=true)(hx:env.val x=some (.t (.v (.int ik a))))(hy:env.val y=some (.t (.v (.int ik b))))(ht:a<b->TO q P n all rest ((d,.t (.v (.bool true)))::env) H K)
  (hf:¬(a<b)->TO q P n all rest ((d,.t (.v (.bool false)))::env) H K):TO q P n all (⟨some d,.binOp .lss t x y t',ty,pos,aft,none⟩::rest) env H K:=
 TO.cmp (c:=(decide (a<b))) hd hx hy (by cases ik <;> simp[zbE]) (fun h=>ht (by simpa using h)) (fun h=>hf (by simpa using h))
theorem TO.cle(hd:Nat.ble (d+1) n=true)(hx:env.val x=some (.t (.v (.int ik a))))(hy:env.val y=some (.t (.v (.int ik b))))(ht:a≤b->TO q P n all rest ((d,.t (.v (.bool true)))::env) H K)
  (hf:¬(a≤b)->TO q P n all rest ((d,.t (.v (.bool false)))::env) H K):TO q P n all (⟨some d,.binOp .leq t x y t',ty,pos,aft,none⟩::rest) env H K:=
 TO.cmp (c:=(decide (a≤b))) hd hx hy (by cases ik <;> simp[zbE]) (fun h=>ht (by simpa using h)) (fun h=>hf (by simpa using h))
theorem TO.cgt(hd:Nat.ble (d+1) n=true)(hx:env.val x=some (.t (.v (.int ik a))))(hy:env.val y=some (.t (.v (.int ik b))))(ht:b<a->TO q P n all rest ((d,.t (.v (.bool true)))::env) H K)
  (hf:¬(b<a)->TO q P n all rest ((d,.t (.v (.bool false)))::env) H K):TO q P n all (⟨some d,.binOp .gtr t x y t',ty,pos,aft,none⟩::rest) env H K:=
 TO.cmp (c:=(decide (b<a))) hd hx hy (by cases ik <;> simp[zbE]) (fun h=>ht (by simpa using h)) (fun h=>hf (by simpa using h))
theorem TO.cge(hd:Nat.ble (d+1) n=true)(hx:env.val x=some (.t (.v (.int ik a))))(hy:env.val y=some (.t (.v (.int ik b))))(ht:b≤a->TO q P n all rest ((d,.t (.v (.bool true)))::env) H K)
  (hf:¬(b≤a)->TO q P n all rest ((d,.t (.v (.bool false)))::env) H K):TO q P n all (⟨some d,.binOp .geq t x y t',ty,pos,aft,none⟩::rest) env H K:=
 TO.cmp (c:=(decide (b≤a))) hd hx hy (by cases ik <;> simp[zbE]) (fun h=>ht (by simpa using h)) (fun h=>hf (by simpa using h))
theorem TO.seq'{l r:Str}(hd:Nat.ble (d+1) n=true)(hx:env.val x=some (.t (.v (str l))))(hy:env.val y=some (.t (.v (str r))))(ht:l=r->TO q P n all rest ((d,.t (.v (.bool true)))::env) H K)
  (hf:¬(l=r)->TO q P n all rest ((d,.t (.v (.bool false)))::env) H K):TO q P n all (⟨some d,.binOp .eql t x y t',ty,pos,aft,none⟩::rest) env H K:=
 TO.eqs hd hx hy (fun h=>ht (by simpa using h)) (fun h=>hf (by simpa using h))
theorem TO.sne'{l r:Str}(hd:Nat.ble (d+1) n=true)(hx:env.val x=some (.t (.v (str l))))(hy:env.val y=some (.t (.v (str r))))(ht:l≠r->TO q P n all rest ((d,.t (.v (.bool true)))::env) H K)
  (hf:l=r->TO q P n all rest ((d,.t (.v (.bool false)))::env) H K):TO q P n all (⟨some d,.binOp .neq t x y t',ty,pos,aft,none⟩::rest) env H K:=
 TO.nes hd hx hy (fun h=>hf (by simpa using h)) (fun h=>ht (by simpa using h))
theorem TR.zAA{c:Operand}{a b:Code}{v:Bool}(hc:env.val c=some (.t (.v (.bool v))))(ht:v=true->TR P n a env H K)(hf:v=false->TR P n b env H K):TR P n (.cond c a b) env H K:=
 TR.cond hc ht hf
theorem TO.zgs{cargs:List SV}{v:SV}{f:Operand}{fid:FuncId}{caps:List SV}{args:Array Operand}{ts:Array TypeId}(hs:Pure P fid cargs v)(hd:Nat.ble (d+1) n=true)
  (hf:env.val f=some (.fn fid caps))(ha:env.vals args.toList=some vs)(hl:Les (vs++caps) cargs)(hu:unders 0 cargs=true)(hv:v.under 0=true)
  (k:TO false P n all rest ((d,v)::env) H K):
  TO false P n all (⟨some d,.call { callee:=.value f,args:=args,argTypes:=ts },ty,pos,aft,none⟩::rest) env H K:=
 TO.zAx hs hd hf ha (by rw[zj4 _ hu];exact hl) hu (zbM (N:=0) (fun j hj=>oA) v hv) k
end cmps
inductive Fr1 where
 | thn (y:Code)
 | blk (i:Nat)
variable {fr fr':List Fr1}
def Kf(P:Program)(n:Nat):List Fr1->TK->TK
 | [],K=>K
 | .thn y::s,K=>Then P n y (Kf P n s K)
 | .blk i::s,K=>zaj i (Kf P n s K)
inductive St where
 | code (c:Code)
 | ops (q:Bool) (all:Array Oper) (l:List Oper)
 | ex (e:zev)
variable {st:St}
structure Cfg where
 st:St
 env:Env
 H:Heap
 fr:List Fr1
def GG(P:Program)(n:Nat)(K:TK):Cfg->Prop
 | ⟨.code c,env,H,fr⟩=>TR P n c env H (Kf P n fr K)
 | ⟨.ops q all l,env,H,fr⟩=>TO q P n all l env H (Kf P n fr K)
 | ⟨.ex e,env,H,fr⟩=>Kf P n fr K e env H
def zu9(tab:Tab)(n:Nat)(c:Bool):Cfg->Option Cfg
 | ⟨.code (.seq x y),env,H,fr⟩=>some ⟨.code x,env,H,.thn y::fr⟩
 | ⟨.code (.block i b),env,H,fr⟩=>some ⟨.code b,env,H,.blk i::fr⟩
 | ⟨.code .skip,env,H,fr⟩=>some ⟨.ex .normal,env,H,fr⟩
 | ⟨.code (.exit i),env,H,fr⟩=>some ⟨.ex (.exit i),env,H,fr⟩
 | ⟨.code .ret,env,H,fr⟩=>some ⟨.ex .ret,env,H,fr⟩
 | ⟨.code (.cond x a b),env,H,fr⟩=>match env.val x with
   | some (.t (.v (.bool true)))=>some ⟨.code a,env,H,fr⟩
   | some (.t (.v (.bool false)))=>some ⟨.code b,env,H,fr⟩
   | _=>none
 | ⟨.code (.region _ ops false),env,H,fr⟩=>some ⟨.ops false ops ops.toList,env,H,fr⟩
 | ⟨.ops _ _ [],env,H,fr⟩=>some ⟨.ex .normal,env,H,fr⟩
 | ⟨.ops q all (o::r),env,H,fr⟩=>match zxt tab n c q all env H o with
   | some (env',H')=>some ⟨.ops q all r,env',H',fr⟩
   | none=>none
 | ⟨.ex .normal,env,H,.thn y::fr⟩=>some ⟨.code y,env,H,fr⟩
 | ⟨.ex (.exit i),env,H,.thn _::fr⟩=>some ⟨.ex (.exit i),env,H,fr⟩
 | ⟨.ex .ret,env,H,.thn _::fr⟩=>some ⟨.ex .ret,env,H,fr⟩
 | ⟨.ex (.panic v),env,H,.thn _::fr⟩=>some ⟨.ex (.panic v),env,H,fr⟩
 | ⟨.ex .normal,env,H,.blk _::fr⟩=>some ⟨.ex .normal,env,H,fr⟩
 | ⟨.ex (.exit j),env,H,.blk i::fr⟩=>bif Nat.beq j i then some ⟨.ex .normal,env,H,fr⟩ else some ⟨.ex (.exit j),env,H,fr⟩
 | ⟨.ex .ret,env,H,.blk _::fr⟩=>some ⟨.ex .ret,env,H,fr⟩
 | ⟨.ex (.panic v),env,H,.blk _::fr⟩=>some ⟨.ex (.panic v),env,H,fr⟩
 | _=>none
section rules
variable {n:Nat}{tab:Tab}
theorem zpL(hT:zas P tab){c:Bool}{x y:Cfg}(h:zu9 tab n c x=some y)(k:GG P n K y):GG P n K x:=by
 unfold zu9 at h;split at h
 ·cases h;exact TR.seq k
 ·cases h;exact TR.block k
 ·cases h;exact TR.skip k
 ·cases h;exact TR.exit k
 ·cases h;exact TR.ret k
 ·split at h
  ·rename_i hx;cases h;exact TR.zy0 hx k
  ·rename_i hx;cases h;exact TR.zyZ hx k
  ·cases h
 ·rename_i id ops env H fr;cases h;obtain⟨l⟩:=ops;exact TR.region (l:=l) k
 ·cases h;exact TO.nil k
 ·split at h
  ·rename_i env' H' he;cases h;exact zup hT he k
  ·cases h
 ·cases h;exact k
 ·cases h;exact k
 ·cases h;exact k
 ·cases h;exact k
 ·cases h;exact k
 ·rename_i j env H i fr;cases hb:Nat.beq j i with
  | true=>rw[hb]at h;cases h;exact zaj.same (K:=Kf P n fr K) hb k
  | false=>rw[hb]at h;cases h;exact zaj.other (K:=Kf P n fr K) hb k
 ·cases h;exact k
 ·cases h;exact k
 ·cases h
def runC(tab:Tab)(n:Nat)(c:Bool):Nat->Cfg->Cfg
 | 0,x=>x
 | k+1,x=>match zu9 tab n c x with
   | some y=>runC tab n c k y
   | none=>x
def run1(tab:Tab)(n:Nat)(c:Bool)(k:Nat)(x:Cfg):Option Cfg:=
 match zu9 tab n c x with
 | some y=>some (runC tab n c k y)
 | none=>none
theorem zs3(hT:zas P tab){c:Bool}:∀(k:Nat) (x:Cfg),GG P n K (runC tab n c k x)->GG P n K x
 | 0,x,h=>h
 | k+1,x,h=>by
   simp only[runC]at h;split at h
   ·rename_i y hy;exact zpL hT hy (zs3 hT k y h)
   ·exact h
theorem ziw(hT:zas P tab){c:Bool}{x y:Cfg}(h:run1 tab n c k x=some y)(hk:GG P n K y):GG P n K x:=by
 unfold run1 at h;split at h
 ·rename_i z hz;cases h;exact zpL hT hz (zs3 hT k z hk)
 ·cases h
theorem TR.go0(hT:zas P tab)(k:Nat)(b:Bool)(h:run1 tab n b k ⟨.code c,env,H,[]⟩=some ⟨st,env',H',fr⟩)(hk:GG P n K ⟨st,env',H',fr⟩):TR P n c env H K:=
 ziw hT h hk
theorem TR.go(hT:zas P tab)(k:Nat)(b:Bool)(h:run1 tab n b k ⟨.code c,env,H,fr⟩=some ⟨st,env',H',fr'⟩)(hk:GG P n K ⟨st,env',H',fr'⟩):TR P n c env H (Kf P n fr K):=
 ziw hT h hk
theorem TO.go(hT:zas P tab)(k:Nat)(b:Bool)(h:run1 tab n b k ⟨.ops q all l,env,H,fr⟩=some ⟨st,env',H',fr'⟩)(hk:GG P n K ⟨st,env',H',fr'⟩):TO q P n all l env H (Kf P n fr K):=
 ziw hT h hk
theorem TO.go0(hT:zas P tab)(k:Nat)(b:Bool)(h:run1 tab n b k ⟨.ops q all l,env,H,[]⟩=some ⟨st,env',H',fr'⟩)(hk:GG P n K ⟨st,env',H',fr'⟩):TO q P n all l env H K:=
 ziw hT h hk
theorem zev.go(hT:zas P tab)(k:Nat)(b:Bool)(h:run1 tab n b k ⟨.ex e,env,H,fr⟩=some ⟨st,env',H',fr'⟩)(hk:GG P n K ⟨st,env',H',fr'⟩):Kf P n fr K e env H:=
 ziw hT h hk
theorem TR.zaz(len:Nat)(I:Nat->Prop)(E:Nat->Env)(G:Nat->Heap)(hI:I 0)
  (s1:∀k,k<len->I k->TR P n c (E k) (G k) (zac (fun k=>k≤len/\I k) (fun k=>len-k) E G k K))
  (s2:I len->TR P n c (E len) (G len) (zac (fun k=>k≤len/\I k) (fun k=>len-k) E G len K))
  (h0:env.sub (E 0):=by repeat' (first|exact trivial|refine qav rfl ?_|fail))(hH:H=G 0:=by rfl):TR P n (.loop c) env H K:=by
 refine TR.zbk (fun k=>k≤len/\I k) (fun k=>len-k) E G 0 ⟨qaM _,hI⟩ h0 hH ?_;rintro k ⟨hk,hi⟩;by_cases h:k<len
 ·exact s1 k h hi
 ·have:k=len:=oA
  subst this;exact s2 hi
theorem zac.zaH{len:Nat}{I:Nat->Prop}{E:Nat->Env}{G:Nat->Heap}(hk:k<len)(hI:I (k+1))
  (h0:env.sub (E (k+1)):=by repeat' (first|exact trivial|refine qav rfl ?_|fail))(hH:H=G (k+1):=by rfl):
  zac (fun k=>k≤len/\I k) (fun k=>len-k) E G k K .normal env H:=
 zac.next (k+1) ⟨hk,hI⟩ oA h0 hH
theorem zev.fin(h:K e env H):Kf P n [] K e env H:=h
theorem GG.tr(h:TR P n c env H (Kf P n fr K)):GG P n K ⟨.code c,env,H,fr⟩:=h
theorem GG.tr0(h:TR P n c env H K):GG P n K ⟨.code c,env,H,[]⟩:=h
theorem GG.to(h:TO q P n all l env H (Kf P n fr K)):GG P n K ⟨.ops q all l,env,H,fr⟩:=h
theorem GG.ex{e:zev}{env:Env}{H:Heap}{fr:List Fr1}(h:Kf P n fr K e env H):GG P n K ⟨.ex e,env,H,fr⟩:=h
theorem GG.stop(h:K e env H):GG P n K ⟨.ex e,env,H,[]⟩:=h
end rules
def zaR(ops:Array Oper)(i:Nat):List Nat:=((ops[i]?).map fun o=>(o.after.toList.filter (Region.binds .any)).map (·.on)).getD []
def zto(ops:Array Oper)(l:List Nat):List Nat:=(List.range ops.size).filter fun i=>l.contains i || l.any fun j=>(zaR ops j).contains i
def cov(ops:Array Oper):Nat->List Nat->List Nat
 | 0,l=>l
 | f+1,l=>cov ops f (zto ops l)
def zrQ(ops:Array Oper):Bool:=(List.range ops.size).all fun i=>(zaR ops i).all fun j=>Nat.blt j i
def zkt(f:Nat)(ops:Array Oper)(k:Nat):Bool:=(List.range ops.size).all fun j=>Nat.blt j k || (List.range j).all fun i=>(cov ops f (zaR ops j)).contains i
def DC(ops:Array Oper)(L:Array Bool):Prop:=∀i,L[i]?=some true->∀j∈zaR ops i,L[j]?=some true
theorem gT{i:Nat}:L.getD i false=true ↔ L[i]?=some true:=by
 rw[qbp];cases L[i]? <;> simp
theorem gF{i:Nat}:L.getD i true=false ↔ L[i]?=some false:=by
 rw[qbp];cases L[i]? <;> simp
theorem zdT{ops:Array Oper}{L:Array Bool}(h:DC ops L):∀(f:Nat) (l:List Nat),(∀i∈l,L[i]?=some true)->∀i∈cov ops f l,L[i]?=some true
 | 0,l,hl=>hl
 | f+1,l,hl=>zdT h f _ fun i hi=>by
   simp only[zto,qcg,qbL,qcH,qbZ]at hi;rcases hi.2 with h1|⟨j,h1,h2⟩
   ·exact hl i h1
   ·exact h j (hl j h1) i h2
theorem zb7{ops:Array Oper}{i:Nat}(hs:L.size=ops.size):i∈Region.ready .any ops L ↔ L[i]?=some false/\∀j∈zaR ops i,L[j]?=some true:=by
 rw[mem_ready,gF];constructor
 ·rintro⟨h1,o,ho,h2⟩;refine⟨h1,fun j hj=>?_⟩;simp only[zaR,ho,qaT,qbm,qaL,qcg]at hj;obtain⟨e,⟨he,hb⟩,rfl⟩:=hj;exact gT.1 (h2 e (by simpa using he) hb)
 ·rintro⟨h1,h2⟩;have hi:=(qam.1 h1).1;have ho:ops[i]?=some (ops[i]' oA):=qaq oA;refine⟨h1,_,ho,fun e he hb=>gT.2 (h2 _ ?_)⟩;simp only[zaR,ho,qaT,qbm,qaL,qcg];exact⟨e,⟨by simpa using he,hb⟩,rfl⟩
theorem least{p:Nat->Prop}[DecidablePred p]:∀n,¬p n->∃m,m≤n/\¬p m/\∀j,j<m->p j:=by
 intro n
 induction n using Nat.strongRecOn with
 | ind n ih=>
   intro h;by_cases hx:∃j,j<n/\¬p j
   ·obtain⟨j,hj,hp⟩:=hx;obtain⟨m,h1,h2,h3⟩:=ih j hj hp;exact⟨m,oA,h2,h3⟩
   ·exact⟨n,qag _,h,fun j hj=>qaA fun hp=>hx ⟨j,hj,hp⟩⟩
theorem zed{ops:Array Oper}(hs:L.size=ops.size)(hd:zrQ ops=true){n:Nat}(hn:L[n]?=some false):∃m,m≤n/\m∈Region.ready .any ops L/\∀j,j<m->L[j]?=some true:=by
 obtain⟨m,h1,h2,h3⟩:=least (p:=fun j=>L[j]?=some true) n (by rw[hn];simp);have hnl:=(qam.1 hn).1
 have hm:L[m]?=some false:=by
  have:L[m]?=some (L[m]' oA):=qaq oA
  rw[this]at h2⊢;cases h:L[m]' oA
  ·rfl
  ·rw[h]at h2;exact oI rfl h2
 refine⟨m,h1,(zb7 hs).2 ⟨hm,fun j hj=>h3 j ?_⟩,h3⟩
 have:=qaB.1 hd m oF
 have:=qaB.1 this j hj
 simpa using this
theorem forced{f:Nat}{ops:Array Oper}{j:Nat}(hs:L.size=ops.size)(hf:zkt f ops k=true)(hdc:DC ops L)(hj:j∈Region.ready .any ops L)(hk:k≤j):∀i,i<j->L[i]?=some true:=by
 intro i hi;obtain⟨h1,h2⟩:=(zb7 hs).1 hj;have hlt:=(qam.1 h1).1
 have:=qaB.1 hf j oF
 simp only[qbL]at this;rcases this with h|h
 ·simp at h;omega
 ·have:=qaB.1 h i (by simpa using hi)
  exact zdT hdc f _ h2 i (by simpa using this)
theorem zvJ{ops:Array Oper}{i:Nat}(hs:L.size=ops.size)(hdc:DC ops L)(hi:i∈Region.ready .any ops L):DC ops (L.setIfInBounds i true):=by
 have key:∀(j:Nat),L[j]?=some true->(L.setIfInBounds i true)[j]?=some true:=by
  intro j hj;rw[qaQ]
  have:=(qam.1 hj).1
  split
  ·rw[oG oA]
  ·exact hj
 intro x hx j hj;rw[qaQ]at hx;split at hx
 ·rename_i e;subst e;exact key j (((zb7 hs).1 hi).2 j hj)
 ·exact key j (hdc x hx j hj)
theorem zos{F:Fence}{N:Nat}{md:Region.Mode}{Q:Exit->Act->World->Prop}:∀(f:Nat) (L:Array Bool) (a:Act) (w:World),wpAnyIn F N P md all Q f L a w->wpAnyIn F N P md all Q (f+1) L a w
 | 0,L,a,w,h=>⟨fun _=>h.2,fun i hi=>by rw[h.1]at hi;cases hi⟩
 | f+1,L,a,w,h=>⟨h.1,fun i hi=>wpOpIn_mono (fun a w h2=>zos f _ a w h2) (h.2 i hi)⟩
theorem zlh{F:Fence}{N:Nat}{md:Region.Mode}{Q:Exit->Act->World->Prop}(f:Nat)(L:Array Bool)(a:Act)(w:World)(h:wpAnyIn F N P md all Q f L a w):∀k,wpAnyIn F N P md all Q (k+f) L a w
 | 0=>by rw[qaV];exact h
 | k+1=>by rw[show k+1+f=(k+f)+1 from oA];exact zos _ _ _ _ (zlh f L a w h k)
theorem zw9{r:Option Nat}{C:World->Prop}{Q:Act->Prop}{Q':Exit->Act->World->Prop}{n2 f0:Nat}(hd:zrQ all=true)(hf:zkt f0 all k=true)(hp:∀(i:Nat) o,i<k->all[i]?=some o->Op.plain o.op=true)
  (hQ:∀(L:Array Bool) a w,L.size=all.size->(∀(i:Nat),i<k->i<all.size->L[i]?=some true)->(∀(i:Nat),k≤i->i<all.size->L[i]?=some false)->C w->Q a->wpAnyIn (Fr r) 0 P .any all Q' n2 L a w):
  ∀(u:Nat) (L M:Array Bool) (a:Act) (w:World),L.size=all.size->M.size=all.size->(∀(i:Nat),i<k->M[i]?=L[i]?)->(∀(i:Nat),k≤i->i<all.size->M[i]?=some true)->(∀(i:Nat),k≤i->i<all.size->L[i]?=some false)->
   DC all L->C w->wpAnyQIn (Fr r) 0 P .any all C Q u M a->wpAnyIn (Fr r) 0 P .any all Q' (u+n2) L a w:=by
 intro u
 have full:∀(L M:Array Bool),L.size=all.size->M.size=all.size->(∀(i:Nat),i<k->M[i]?=L[i]?)->(∀(i:Nat),k≤i->i<all.size->M[i]?=some true)->DC all L->Region.ready .any all M=[]->∀(i:Nat),i<k->i<all.size->L[i]?=some true:=by
  intro L M hL hM h1 h2 hdc hr i hi hia;refine qaA fun hne=>?_
  have hMi:M[i]?=some false:=by
   rw[h1 i hi]
   have:L[i]?=some (L[i]' oA):=qaq oA
   rw[this]at hne⊢;cases h:L[i]' oA
   ·rfl
   ·rw[h]at hne;exact oI rfl hne
  obtain⟨m,_,hm,_⟩:=zed hM hd hMi;rw[hr]at hm;cases hm
 induction u with
 | zero=>
   intro L M a w hL hM h1 h2 h3 hdc hC h;rw[qaV];exact hQ L a w hL (full L M hL hM h1 h2 hdc h.1) h3 hC h.2
 | succ u ih=>
   intro L M a w hL hM h1 h2 h3 hdc hC h;by_cases hr:Region.ready .any all M=[]
   ·exact zlh _ _ _ _ (hQ L a w hL (full L M hL hM h1 h2 hdc hr) h3 hC (h.1 hr)) (u+1)
   ·
    obtain⟨x,hx⟩:=List.exists_mem_of_ne_nil _ hr;have hx1:=((zb7 hM).1 hx).1;have hxl:=(qam.1 hx1).1;have hxk:x<k:=qcK fun hle=>by rw[h2 x hle oA]at hx1;cases hx1
    have hLx:L[x]?=some false:=by rw[<-h1 x hxk];exact hx1
    rw[show u+1+n2=(u+n2)+1 from oA];refine⟨fun h0=>?_,fun i hi=>?_⟩
    ·obtain⟨m,_,hm,_⟩:=zed hL hd hLx;rw[h0]at hm;cases hm
    ·have hik:i<k:=qcK fun hle=>by
      have:=forced hL hf hdc hi hle x oA
      rw[this]at hLx;cases hLx
     obtain⟨g1,g2⟩:=(zb7 hL).1 hi
     have hiM:i∈Region.ready .any all M:=by
      refine(zb7 hM).2 ⟨by rw[h1 i hik];exact g1,fun j hj=>?_⟩;have hjl:=(qam.1 (g2 j hj)).1;by_cases hjk:j<k
      ·rw[h1 j hjk];exact g2 j hj
      ·exact h2 j oA oA
     have hnext:∀a' w',C w'->wpAnyQIn (Fr r) 0 P .any all C Q u (M.setIfInBounds i true) a'->wpAnyIn (Fr r) 0 P .any all Q' (u+n2) (L.setIfInBounds i true) a' w':=by
      intro a' w' hC' hk';refine ih (L.setIfInBounds i true) (M.setIfInBounds i true) a' w' (by simpa using hL) (by simpa using hM) ?_ ?_ ?_ (zvJ hL hdc hi) hC' hk'
      ·intro j hj;rw[qaQ,qaQ,h1 j hj,hL,hM]
      ·intro j hj hja;rw[qaQ,oH oA];exact h2 j hj hja
      ·intro j hj hja;rw[qaQ,oH oA];exact h3 j hj hja
     have h4:=h.2 i hiM;unfold qOpIn at h4;unfold wpOpIn;cases ho:all[i]? with
     | none=>simp only[ho]at h4⊢;exact hnext _ _ hC h4
     | some o=>
       simp only[ho]at h4⊢;obtain⟨_,h4⟩:=h4;split
       ·rename_i hwt;rw[oG hwt]at h4;exact ziq (hp i o hik ho) hC (fun a' w' hw' hk=>hnext a' w' hw' hk) h4
       ·rename_i hwt;rw[oH hwt]at h4;exact⟨fun _ _=>trivial,hnext _ _ hC h4⟩
theorem zre{r:Option Nat}{Q':Exit->Act->World->Prop}{k f0:Nat}(hd:zrQ all=true)(hf:zkt f0 all k=true):∀(l:List Oper) (p:Nat) (L:Array Bool) (a:Act) (w:World),k≤p->(∀j,l[j]?=all[p+j]?)->L.size=all.size->
   (∀(i:Nat),i<p->i<all.size->L[i]?=some true)->(∀(i:Nat),p≤i->i<all.size->L[i]?=some false)->wpListIn (Fr r) 0 P all Q' l a w->wpAnyIn (Fr r) 0 P .any all Q' l.length L a w
 | [],p,L,a,w,hk,hl,hL,h1,h2,h=>by
   have hsz:all.size≤p:=qbE fun hlt=>by
    have:=hl 0
    rw[qcl,qaq hlt]at this;cases this
   refine⟨?_,h⟩;refine qcj.2 fun i hi=>?_
   have:=((zb7 hL).1 hi).1
   have hlt:=(qam.1 this).1;rw[h1 i oA oA]at this;cases this
 | o::l,p,L,a,w,hk,hl,hL,h1,h2,h=>by
   have hpo:all[p]?=some o:=by simpa using (hl 0).symm
   have hpl:=(qam.1 hpo).1;have hLp:=h2 p (qag _) hpl
   have hdc:DC all L:=by
    intro i hi j hj;have hil:=(qam.1 hi).1;have hip:i<p:=qcK fun hle=>by rw[h2 i hle oA]at hi;cases hi
    have:=qaB.1 hd i oF
    have:=qaB.1 this j hj
    have hji:j<i:=by simpa using this
    exact h1 j oA oA
   refine⟨fun h0=>?_,fun i hi=>?_⟩
   ·obtain⟨m,_,hm,_⟩:=zed hL hd hLp;rw[h0]at hm;cases hm
   ·have hi1:=((zb7 hL).1 hi).1;have hil:=(qam.1 hi1).1;have hip:p≤i:=qbE fun hlt=>by rw[h1 i hlt oA]at hi1;cases hi1
    have hipe:i=p:=by
     refine qaA fun hne=>?_
     have:=forced hL hf hdc hi oA p oA
     rw[this]at hLp;cases hLp
    subst hipe
    have hnext:∀a' w',wpListIn (Fr r) 0 P all Q' l a' w'->wpAnyIn (Fr r) 0 P .any all Q' l.length (L.setIfInBounds i true) a' w':=by
     intro a' w' h';refine zre hd hf l (i+1) (L.setIfInBounds i true) a' w' oA (fun j=>?_) (by simpa using hL) (fun j hj hja=>?_) (fun j hj hja=>?_) h'
     ·have:=hl (j+1)
      simp only[qaU]at this;rw[this];congr 1;omega
     ·rw[qaQ];split
      ·first|rfl|rw[oG oA]
      ·exact h1 j oA hja
     ·rw[qaQ,oH oA];exact h2 j oA hja
    unfold wpListIn at h;unfold wpOpIn;simp only[hpo];split
    ·rename_i hw;rw[oG hw]at h;exact Oper.wpIn_mono (fun a w h=>hnext a w h) h
    ·rename_i hw;rw[oH hw]at h;exact⟨h.1,hnext _ _ h.2⟩
theorem zor{F:Fence}{N:Nat}{C:World->Prop}{md:Region.Mode}{Q:Act->Prop}(hs:Region.noSelect all=true):∀(l:List Oper) (k:Nat) (listed:Array Bool) (a:Act),(∀j,j<l.length->l[j]?=all[k+j]?)->
  Region.lexFrom md all l.length k listed=true->wpQuietIn F N P all C Q l a->wpAnyQIn F N P md all C Q l.length listed a
 | [],_,_,_,_,hB,h=>⟨by simpa [Region.lexFrom]using hB,h⟩
 | o::l,k,listed,a,hl,hB,h=>by
   have h0:all[k]?=some o:=by simpa using (hl 0 oC).symm
   simp only[qae,Region.lexFrom,qar]at hB;obtain⟨⟨hr,hf⟩,hB'⟩:=hB;have hst:qOpIn F N P all C k (wpQuietIn F N P all C Q l) a:=by unfold qOpIn;simp only[h0];exact h
   obtain⟨v,hy,hK⟩:=yieldsQuiet_of_qOpIn h0 hst
   exact wpAnyQIn_first h0 (Region.noSelect_spec hs) l.length listed a (Region.free_spec h0 hf) (by simpa using hr) hy
    (zor hs l (k+1) _ _ (fun j hj=>by have:=hl (j+1) (by simpa using hj);simpa [qa1,qck 1 j]using this) hB' hK)
def zuE(f:Nat)(ops:Array Oper)(k:Nat):Bool:=
 Region.noSelect ops && (Nat.ble k ops.size && (zrQ ops && (zkt f ops k && Region.lexFrom .any ops k 0 (Array.replicate k false++Array.replicate (ops.size-k) true))))
abbrev zxE:=zuE 8
abbrev zvX:=zuE 40
def zaQ(P:Program)(n:Nat)(all:Array Oper)(l2:List Oper)(H:Heap)(K:TK):TK
 | .normal,env,_=>TO false P n all l2 env H K
 | _,_,_=>False
theorem TR.zpx(f:Nat){n:Nat}(k:Nat){id:Nat}(hm:P.follows .mixedOrders=true)(hB:zuE f l.toArray k=true)(hp:(l.take k).all (fun o=>Op.plain o.op)=true)
  (h:TO true P n l.toArray (l.take k) env H (zaQ P n l.toArray (l.drop k) H K)):TR P n (.region id l.toArray true) env H K:=by
 simp only[zuE,qar]at hB;obtain⟨hB1,hB2,hB3,hB4,hB5⟩:=hB;have hk:k≤l.length:=by simpa using qaj hB2
 intro φ m a h1 h2 h3 h4;have hq:=h φ m a h1 h2 h3 h4;simp only at hq;refine zcP (wpIn_region_any hm ?_);have hlt:(l.take k).length=k:=oF
 have:=zw9 (P:=P) (all:=l.toArray) (r:=φ.r) (C:=Keeps m.w) (Q:=fun a'=>∀w',Keeps m.w w'->wpListIn (Fr φ.r) 0 P l.toArray (Post φ m n K) (l.drop k) a' w')
  (Q':=Post φ m n K) (k:=k) (n2:=(l.drop k).length) hB3 hB4 (fun i o hi ho=>qaB.1 hp o (qau (i:=i) (by rw[qa6,oG hi];simpa using ho)))
  (fun L a' w' hL g1 g2 hC hQ=>zre hB3 hB4 (l.drop k) k L a' w' (qag _) (fun j=>oC) hL g1 g2 (hQ w' hC))
  k (Array.replicate l.toArray.size false) (Array.replicate k false++Array.replicate (l.toArray.size-k) true) a { m.w with drawn:=m.w.drawn+1 } oC oF
  (fun i hi=>by
    rw[qa7 (by simpa using hi),qbu,qbu,oG hi,oG oF])
  (fun i hi hia=>by
    rw[qbi (by simpa using hi),qbu,oG (by simp at hia⊢;omega)])
  (fun i hi hia=>by rw[qbu,oG hia])
  (fun i hi=>by rw[qbu]at hi;split at hi <;> cases hi)
  ⟨rfl,rfl,rfl,qag _,fun _ _=>rfl⟩ ?_
 ·have e:k+(l.drop k).length=l.toArray.size:=oF
  rw[e]at this;exact this
 ·have hx:=zor (F:=Fr φ.r) (N:=0) (P:=P) (C:=Keeps m.w) (md:=.any) (Q:=fun a'=>∀w',Keeps m.w w'->wpListIn (Fr φ.r) 0 P l.toArray (Post φ m n K) (l.drop k) a' w') hB1 (l.take k) 0
   (Array.replicate k false++Array.replicate (l.toArray.size-k) true) a (fun j hj=>by rw[qa6,oG oA];simp) (by rw[hlt];exact hB5) (zhB _ a (zdD ?_ _ a hq))
  ·rw[hlt]at hx;exact hx
  ·rintro a' ⟨env',g1,g2,g3⟩ w' hw';obtain⟨s,hm'⟩:=zej h2 hw'
   have:=g3 φ ⟨m.A,m.β,m.H,w'⟩ a' h1 hm' (g1.step h2 s) (g2.step h2 s)
   exact TO.zfF s this
theorem TR.zsW{n:Nat}(k:Nat){id:Nat}(hm:P.follows .mixedOrders=true)(hB:zxE l.toArray k=true)(hp:(l.take k).all (fun o=>Op.plain o.op)=true)
  (h:TO true P n l.toArray (l.take k) env H (zaQ P n l.toArray (l.drop k) H K)):TR P n (.region id l.toArray true) env H K:=TR.zpx 8 k hm hB hp h
theorem TR.zx9{n:Nat}(k:Nat){id:Nat}(hm:P.follows .mixedOrders=true)(hB:zvX l.toArray k=true)(hp:(l.take k).all (fun o=>Op.plain o.op)=true)
  (h:TO true P n l.toArray (l.take k) env H (zaQ P n l.toArray (l.drop k) H K)):TR P n (.region id l.toArray true) env H K:=TR.zpx 40 k hm hB hp h
theorem zaQ.go{n:Nat}{l2:List Oper}(h:TO false P n all l2 env H K):zaQ P n all l2 H K .normal env H:=h
theorem TR.zuY{n:Nat}{id:Nat}(hm:P.follows .mixedOrders=true)(hB:zxE l.toArray (l.length-1)=true)(hp:(l.take (l.length-1)).all (fun o=>Op.plain o.op)=true)
  (h:TO true P n l.toArray (l.take (l.length-1)) env H (zaQ P n l.toArray (l.drop (l.length-1)) H K)):TR P n (.region id l.toArray true) env H K:=TR.zsW _ hm hB hp h
theorem TR.zuZ{n:Nat}{id:Nat}(hm:P.follows .mixedOrders=true)(hB:zxE l.toArray (l.length-2)=true)(hp:(l.take (l.length-2)).all (fun o=>Op.plain o.op)=true)
  (h:TO true P n l.toArray (l.take (l.length-2)) env H (zaQ P n l.toArray (l.drop (l.length-2)) H K)):TR P n (.region id l.toArray true) env H K:=TR.zsW _ hm hB hp h
end Go.TL
