import Derived.Lib.Builder
import Derived.Lib.UnsafeStr
import Derived.Stop.Walk2
import Derived.RangeFuncNested
import Derived.WalkSmall
import Derived.RecoverIn
import Derived.Test.YtdicfgideclbdaaGreatDoorAk2
set_option maxHeartbeats 64000000
set_option linter.all false
namespace Go.TL
open Go
variable {t' e ft ty:TypeId}{x y f:Operand}{m:M}{ie it iu i':TyI}{cs vs cargs caps:List SV}{k k' sz d:Nat}{fs:List (Nat×TypeId)}{vy:SV}{H' Hc H:Heap}{l:Str}{p:Place}{es:List T}{ik:IntKind}{st:LoopState}{ps:Array Tmp}{aas bo:Code}{L:Loop}{R:Res->Heap->Prop}{fid:FuncId}{P:Program}{env:Env}{K:TK}{all:Array Oper}{rest:List Oper}{q:Bool}{aft:Array Edge}
section rules
variable {n:Nat}{tab:Tab}
variable {pos:String}
theorem zyb{t:TypeId}(hu:P.underlying t=some .bool)(a b:Bool)(w:World):(Go.binOp .neq t (.bool a) (.bool b)).run P w= .ok (.bool (!(a == b))) w:=by
 have h:∀d:Nat,(Op.equalIn (d+1) t (.bool a) (.bool b)).run P w= .ok (a == b) w:=fun d=>by
  simp[Op.equalIn,run_underlying hu]
 simp only[Go.binOp];simp[Op.equal,Op.maxDepth,h 9999]
theorem TO.neb{t:TypeId}{a b:Bool}(hd:Nat.ble (d+1) n=true)(hx:env.val x=some (.t (.v (.bool a))))(hy:env.val y=some (.t (.v (.bool b))))(hu:P.underlying t=some .bool):RV q P n all rest env H K d (.binOp .neq t x y t') (.t (.v (.bool (!(a == b))))):=
 TO.op hd (fun m ac h1 h2 h3=>⟨.bool (!(a == b)),fun w' hw'=>by
  have ex:=(h3.val hx).v_eq;have ey:=(h3.val hy).v_eq;simp[execOp,ex,ey,eqGuard,zyb hu],.t _ _ (.v _)⟩)
end rules
theorem zfn  {tab:Tab} (hT:zas P tab)  (hm:HRel m) {t:TypeId} {i:TyI} {id len:Nat} {cs ns:List T} {x y:Value} {vs:List Value}  (ht:tab.get t=some i) (hk:i.k= .slice e) (he:tab.get e=some ie) (hs:ie.size=1)
  (hx:SRel m (.rw id len) x) (hH:m.H[id]?=some (.row e cs)) (hlen:len=cs.length) (hvl:vs.length=ns.length) (hu:P.underlying t'=some .string\/∃e',P.underlying t'=some (.slice e')) (hlo:∀w,(Builtin.lenOf y).run P w= .ok vs.length w)
  (hfc:∀w':World,w'.heap=m.w.heap->(Builtin.firstCells 1 vs.length y).run P w'= .ok vs.toArray w') (h1:∀v∈vs,v.oneCell'=true) (hr:∀(i:Nat) c v,ns[i]?=some c->vs[i]?=some v->TRel m.A m.w c v)
  (hb:(cs.length+vs.length)*ie.bytes≤70368744177664) (hb1:cs.length+vs.length≤70368744177664) (hby:ie.bytes≤65536):
  ∃z m',(Builtin.append_ #[t,t'] ty #[x,y]).run P m.w= .ok z m'.w/\Step m m'/\HRel m'/\m'.H=m.H.set id (.row e (cs++ns))/\SRel m' (.rw id (cs++ns).length) z:=by
 subst hlen;cases hx with
 | rw _ _ _ p hp hx ho=>
 obtain⟨_,ho2⟩:=ho _ (by rw[hH];rfl);obtain⟨ad,cap,rfl,hlc,hlo0,hhi,hown⟩:=ho2 rfl;obtain⟨⟨b1,b2,b3⟩,b4,b5⟩:=hm.blk id p _ hp hH;have hidβ:=(qaa.1 hp).1;have hidH:=(qaa.1 hH).1;have hset:(m.H.set id (.row e (cs++ns)))[id]?=some (.row e (cs++ns)):=qaC hidH
 have hex:∀j,∃y,j<cs.length->m.w.cell? ⟨p.b,j,none⟩=some y/\y.oneCell'=true/\∀c,cs[j]?=some c->TRel m.A m.w c y:=by
  intro j;by_cases hj:j<cs.length
  ·obtain⟨y,hy1,hy0,hy2⟩:=b5 j cs[j] (qad hj);rw[b1,qaV]at hy1;exact zwdi
  ·exact⟨undef,fun h=>oI h hj⟩
 obtain⟨f,hf⟩:=qby hex;by_cases hfit:cs.length+vs.length≤cap
 ·have hrun:(Builtin.append_ #[t,t'] ty #[.slice ad cs.length cap,y]).run P m.w=
    (match ad with
      | none=>.ok (.slice none (cs.length+vs.length) cap) m.w
      | some a=>((storeCells (a.add (cs.length*1)) vs).run P m.w).andThen fun _ w'=>.ok (.slice (some a) (cs.length+vs.length) cap) w'):=by
   simp only[Builtin.append_];rcases hu with hdd|⟨e',hdd⟩ <;> (simp[underlying,hdd,(hT t i ht).slice hk,(hT e ie he).sizeOf,hs,hlo,hfit,hfc m.w rfl];cases ad <;> simp)
  cases ad with
  | none=>
    subst hown;have hcs:cs=[]:=qaF oA;have hvs:vs=[]:=qaF oA;have hns:ns=[]:=qaF (by rw[<-hvl,hvs];rfl);subst hcs;subst hvs;subst hns
    obtain⟨s,hm'⟩:=zeS hm (k1:=.row e ([]++[])) (p':=p) (A':=m.A) (w':=m.w) hp hH rfl rfl rfl rfl (qag _) (fun _ _ _ _=>rfl) (fun _ _ _ _ _=>rfl) (fun _ _ _=>rfl) (fun _ _ _ h=>h) (fun _ _ h=>h) (fun _ _ h=>h) (fun _ _ h=>.inl h)
     (fun _=>.inr (.inr oA)) (fun _ _ _ h h'=>oI h h') (fun o q1 q2=>oA) (zaZ.refl _ _) (fun _=>⟨⟨b1,oC,fun h=>oA⟩,fun o _ h=>oA,oC⟩)
    refine⟨_,⟨m.A,m.β.set id p,m.H.set id (.row e ([]++[])),m.w⟩,hrun,s,hm',rfl,.rw _ _ _ p (by show(m.β.set id p)[id]?=_;rw[qaC hidβ]) ⟨_,_,_,rfl⟩ fun k hk=>?_⟩;have hk':tlOf (m.H.set id (.row e ([]++[])))[id]?=some k:=hk;rw[qaC hidH]at hk';cases hk';exact⟨qag _,fun _=>⟨none,0,rfl,qag _,hlo0,hhi,rfl⟩⟩
  | some a=>
    simp only at hown;obtain⟨rfl,hcap0⟩:=hown;have hst:=run_storeCells_cells (P:=P) p.b (0+cs.length*1) vs 0 m.w (fun q hq=>(b4 _ oA oA).1) (fun q hq=>(b4 _ oA oA).2) h1;obtain⟨e1,e2,e3,e4,e5,e6⟩:=zbW p.b vs (0+cs.length*1) m.w
    have hout:∀b o,¬(b=p.b/\cs.length≤o/\o<cs.length+vs.length)->(m.w.setCells p.b (0+cs.length*1) vs).cell? ⟨b,o,none⟩=m.w.cell? ⟨b,o,none⟩:=by
     intro b o hn;exact World.cell?_setCells_out _ _ _ _ _ fun q1 _=>by simp only at *;omega
    have hin:∀q (hq:q<vs.length),(m.w.setCells p.b (0+cs.length*1) vs).cell? ⟨p.b,cs.length+q,none⟩=some vs[q]:=by
     intro q hq
     have:=World.cell?_setCells_in p.b vs (0+cs.length*1) m.w (fun j hj=>(b4 _ oA oA).1) q hq
     simpa using this
    obtain⟨s,hm'⟩:=zeS hm (k1:=.row e (cs++ns)) (p':=p) (A':=m.A) (w':=m.w.setCells p.b (0+cs.length*1) vs) hp hH rfl e1 e2 e3 (by rw[e4];exact qag _) (fun b o _ hn=>hout b o oA) (fun b o _ _ _=>World.frozen?_setCells _ _ _ _ _)
     (fun b _ hb=>by
       rcases hb with hb|hb
       ·exact e5 b hb
       ·have:vs=[]:=qaF oA
        rw[this];rfl)
     (fun b o _ h=>by
       by_cases hb:b=p.b
       ·subst hb;rw[e6];exact h
       ·rw[hout b o oA];exact h)
     (fun b s hs=>by rw[zb9];exact hs) (fun _ _ h=>h) (fun _ _ h=>.inl h) (fun _=>.inl ⟨rfl,qag _,qag _⟩) (fun _ _ _ h h'=>oI h h') (fun o q1 q2=>(b4 o q1 q2).1)
     (fun n' hn'=>by
       simp only[tlOf,qaI]at hn';subst hn';exact⟨oC,fun _=>rfl⟩)
     (fun s=>⟨⟨b1,oF,fun h=>s.shape _ _ (b3 h)⟩,fun o q1 q2=>by
       have:=b4 o q1 q2
       unfold Free at this⊢;refine⟨?_,?_⟩
       ·show((m.w.setCells p.b (0+cs.length*1) vs).cell? ⟨p.b,o,none⟩).isSome=true;rw[e6];exact this.1
       ·show(m.w.setCells p.b (0+cs.length*1) vs).frozen? ⟨p.b,o,none⟩=false;rw[World.frozen?_setCells];exact this.2,fun j c hc=>by
       rw[b1,qaV (j)];show ∃y,(m.w.setCells p.b (0+cs.length*1) vs).cell? ⟨p.b,j,none⟩=some y/\_;by_cases hj:j<cs.length
       ·rw[qat hj]at hc;exact⟨f j,by rw[hout _ _ oA];exact(hf j hj).1,(hf j hj).2.1,s.trel hm ((hf j hj).2.2 c hc)⟩
       ·rw[qas oA]at hc;have hjl:=(qaa.1 hc).1
        have:=hin (j-cs.length) oA
        rw[show cs.length+(j-cs.length)=j from oA]at this;exact⟨_,this,h1 _ (qak _),s.trel hm (hr _ c _ hc (qad oA))⟩⟩)
    refine⟨.slice (some ⟨p.b,0,none⟩) (cs.length+vs.length) cap,_,?_,s,hm',rfl,.rw _ _ _ p (by show(m.β.set id p)[id]?=_;rw[qaC hidβ]) ⟨_,_,_,rfl⟩ fun k hk=>?_⟩
    ·rw[hrun];simp only[zbh];rw[hst];rfl
    ·have hk':tlOf (m.H.set id (.row e (cs++ns)))[id]?=some k:=hk;rw[hset]at hk';cases hk';refine⟨qag _,fun _=>⟨some ⟨p.b,0,none⟩,cap,by rw[qab,hvl],oF,hlo0,hhi,rfl,hcap0⟩⟩
 ·have hold:(Builtin.firstCells 1 cs.length (.slice ad cs.length cap)).run P m.w.drew= .ok ((List.range cs.length).map f).toArray m.w.drew:=by
   cases ad with
   | none=>
     subst hown
     have:cs.length=0:=oA
     simp[Builtin.firstCells,this]
   | some a=>
     simp only at hown;obtain⟨rfl,_⟩:=hown;simp only[Builtin.firstCells]
     have:=run_loadCells (P:=P) m.w.drew ⟨p.b,0,none⟩ (cs.length*1) f fun j hj=>by
      rw[zbh,qaV];exact(hf j oA).1
     rw[qcS]at this⊢;exact this
  obtain⟨nc,zr,hnc2,hzrl,_,hrun⟩:=zka hT (ty:=ty) ht hk hu he hs hlo hold (hfc m.w.drew rfl) hfit hb hb1 hby;rw[qcS]at hzrl;obtain⟨arr,harr⟩:∃arr:Array Value,arr=((List.range cs.length).map f).toArray++vs.toArray++zr:=⟨_,rfl⟩;rw[<-harr]at hrun;have harrl:arr.size=nc:=by rw[harr];simp[hzrl];omega
  have hcell:∀o,(m.w.drew.alloc (.cells arr e)).cell? ⟨m.w.heap.size,o,none⟩=arr[o]? :=fun o=>World.cell?_alloc_new (w:=m.w.drew) ..
  have hkeep:∀b,b<m.w.heap.size->(m.w.drew.alloc (.cells arr e)).heap[b]?=m.w.heap[b]? :=fun b hb=>RowKit.Below.heap_alloc m.w.drew _ _ hb
  have hsize:(m.w.drew.alloc (.cells arr e)).heap.size=m.w.heap.size+1:=oC
  have hcf:∀q,q<cs.length->arr[q]?=some (f q):=fun q hq=>by
   rw[harr,qcd,qa7 (by simpa using hq)];simp[hq]
  have hcg:∀q (hq:q<vs.length),arr[cs.length+q]?=some vs[q]:=fun q hq=>by
   rw[harr,qcd,qbi oC,qa7 (by simpa using hq)];simp[hq]
  have hns:0<vs.length:=oA
  obtain⟨s,hm'⟩:=zeS hm (k1:=.row e (cs++ns)) (p':=⟨m.w.heap.size,0,nc⟩) (A':=m.A) (w':=m.w.drew.alloc (.cells arr e)) hp hH rfl rfl rfl rfl (by rw[hsize];omega)
   (fun b o hb _=>zaW (hkeep b hb)) (fun b o hb _ _=>za8 (hkeep b hb)) (fun b hb _=>hkeep b hb) (fun b o hb h=>by rw[zaW (hkeep b hb)];exact h) (fun b s hs=>by rw[zbC (hkeep b (zhC hs))];exact hs) (fun _ _ h=>h) (fun _ _ h=>.inl h)
   (fun _=>.inr (.inl (by rw[hsize];exact⟨qag _,qbF _⟩))) (fun _ _ _ h h'=>oI h h') (fun o q1 q2=>(b4 o q1 q2).1)
   (fun n' hn'=>by
     simp only[tlOf,qaI]at hn';subst hn';exact⟨oC,fun h=>by rw[qab]at h;omega⟩)
   (fun s=>⟨⟨rfl,oF,fun _=>by
     show(m.w.drew.alloc (.cells arr e)).shape? m.w.heap.size=some (e,nc);rw[<-harrl]
     exact World.shape?_alloc_at _ _ _ rfl⟩,fun o q1 q2=>by
      refine⟨?_,World.frozen?_alloc_new (w:=m.w.drew) ..⟩;show((m.w.drew.alloc (.cells arr e)).cell? ⟨m.w.heap.size,o,none⟩).isSome=true;have q3:o<nc:=q2;rw[hcell,qaq oA];rfl,fun j c hc=>by
      show ∃y,(m.w.drew.alloc (.cells arr e)).cell? ⟨m.w.heap.size,0+j,none⟩=some y/\_;rw[qaV,hcell];by_cases hj:j<cs.length
      ·rw[qat hj]at hc;exact⟨f j,hcf j hj,(hf j hj).2.1,s.trel hm ((hf j hj).2.2 c hc)⟩
      ·rw[qas oA]at hc;have hjl:=(qaa.1 hc).1
       have:=hcg (j-cs.length) oA
       rw[show cs.length+(j-cs.length)=j from oA]at this;exact⟨_,this,h1 _ (qak _),s.trel hm (hr _ c _ hc (qad oA))⟩⟩)
  refine⟨.slice (some ⟨m.w.heap.size,0,none⟩) (cs.length+vs.length) nc,_,hrun,s,hm',rfl,.rw _ _ _ ⟨m.w.heap.size,0,nc⟩ (by show(m.β.set id _)[id]?=_;rw[qaC hidβ]) ⟨_,_,_,rfl⟩ fun k hk=>?_⟩;have hk':tlOf (m.H.set id (.row e (cs++ns)))[id]?=some k:=hk;rw[hset]at hk';cases hk';exact⟨qag _,fun _=>⟨some ⟨m.w.heap.size,0,none⟩,nc,by rw[qab,hvl],oF,rfl,rfl,rfl,oA⟩⟩
section rules
variable {n:Nat}{tab:Tab}
variable {pos:String}
theorem eval_const(ac:Act)(v:Value):ac.eval (.const v)=v:=rfl
theorem eval_func(ac:Act)(f:FuncId):ac.eval (.func f)= .func (.func f) #[] #[]:=rfl
theorem SRel.zpU{id off:Nat}{x:Value}(h:SRel m (.tref e k id off) x):SRel m (.ref id off) x:=by
 cases h with
 | tref _ _ _ _ p hp hn h0 hs=>exact .ref _ _ p hp hn
theorem Le.tref(e:TypeId)(k id off:Nat):Le (.tref e k id off) (.ref id off):=fun _ _ h=>h.zpU
theorem TO.zfl(hT:zas P tab){t:TypeId}{i:TyI}{id off fi o:Nat}(hd:Nat.ble (d+1) n=true)(ht:tab.get t=some i)(hk:i.k= .struct fs)
  (hf:fs[fi]?=some (o,ft))(hft:tab.get ft=some it)(hz:it.size≠0)(hx:env.val x=some (.tref e k' id off))(k:TO q P n all rest ((d,.ref id (off+o))::env) H K):TO q P n all (⟨some d,.fieldAddr t x fi,ty,pos,aft,none⟩::rest) env H K:=
 TO.op hd (fun m ac h1 h2 h3=>by
  have h:=(h3.val hx).zpU;generalize hq:ac.eval x=z at h;cases h with
  | ref _ _ p hp hn=>
    refine⟨.pointer (some ⟨p.b,p.lo+(off+o),none⟩),fun w' hw'=>?_,.ref _ _ p hp hn⟩
    have:=zec hT ht hk hf hft hz p.b (p.lo+off) w'
    simp[execOp,hq,this,qa1]) k
theorem TO.zh8(hT:zas P tab){t:TypeId}{i:TyI}{id off fi o:Nat}(hd:Nat.ble (d+1) n=true)(ht:tab.get t=some i)(hk:i.k= .struct fs)
  (hf:fs[fi]?=some (o,ft))(hft:tab.get ft=some it)(hz:it.size≠0)(hx:env.val x=some (.tref e k' id off))(k:TO q P n all rest ((d,.tref e k' id (off+o))::env) H K):TO q P n all (⟨some d,.fieldAddr t x fi,ty,pos,aft,none⟩::rest) env H K:=
 TO.op hd (fun m ac h1 h2 h3=>by
  have h:=(h3.val hx);generalize hq:ac.eval x=z at h;cases h with
  | tref _ _ _ _ p hp hn h0 hs=>
    refine⟨.pointer (some ⟨p.b,p.lo+(off+o),none⟩),fun w' hw'=>?_,.tref _ _ _ _ p hp hn h0 hs⟩
    have:=zec hT ht hk hf hft hz p.b (p.lo+off) w'
    simp[execOp,hq,this,qa1]) k
theorem TO.zyJ(hT:zas P tab){t:TypeId}{i:TyI}(hd:Nat.ble (d+1) n=true)(ht:tab.get t=some i)(hc:i.zero.map SV.t=cs):RW false P n all rest env H K d (.alloc t) (.tref t i.size H.length 0) (H++[.cells cs]):=
 TO.eff hd (fun m ac h1 h2 h3=>by
  obtain⟨z,hz1,hz2,_,_⟩:=(hT t i ht).zero;obtain⟨g1,g0,g2⟩:=zbY (A:=m.A) (w:=m.w) _ _ hz2
  obtain⟨s,hm'⟩:=zcw h2 cs z.cells t (by rw[<-hc];simp[g1]) (fun j y hy=>g0 j y (by simpa using hy)) (fun j c y hj hy=>by
   rw[<-hc,qan]at hj;cases hq:i.zero[j]? with
   | none=>rw[hq]at hj;cases hj
   | some u=>rw[hq]at hj;cases hj;exact .t _ _ (g2 j u y hq (by simpa using hy)))
  have hsz:z.cells.size=i.size:=by have:=(hT t i ht).len;simp at g1;omega
  refine⟨.pointer (some ⟨m.w.heap.size,0,none⟩),_,?_,s,hm',by rw[h1],?_⟩
  ·simp[execOp,Instr.alloc,hz1,newVar,newRow]
  ·rw[<-h1]
   exact SRel.tref (m:=⟨m.A,m.β++[⟨m.w.heap.size,0,z.cells.size⟩],m.H++[.cells cs],m.w.alloc (.cells z.cells t)⟩) t i.size m.H.length 0 ⟨m.w.heap.size,0,z.cells.size⟩
    (by simp[h2.len]) (by intro q;simp[tlOf]) rfl (by rw[<-hsz];exact World.shape?_alloc_at _ _ _ rfl))
theorem zet{t:TypeId}(h:P.underlying t=some (.pointer e))(p:Option Addr)(w:World):(Go.binOp .eql t (.pointer p) (.pointer none)).run P w= .ok (.bool p.isNone) w:=by
 exact zwt
theorem zeu{t:TypeId}(h:P.underlying t=some (.pointer e))(p:Option Addr)(w:World):(Go.binOp .neq t (.pointer p) (.pointer none)).run P w= .ok (.bool (!p.isNone)) w:=by
 exact zwt
theorem Fit.ptr{t e:TypeId}{i:TyI}(h:Fit P t i)(hk:i.k= .ptr e):P.underlying t=some (.pointer e):=by
 exact zwdg
theorem TO.zqq(hT:zas P tab){t:TypeId}{i:TyI}{v:SV}(hd:Nat.ble (d+1) n=true)(ht:tab.get t=some i)(hk:i.k= .ptr e)(hx:env.val x=some v)(hv:v.znF=true)
  (k:TO q P n all rest ((d,.t (.v (.bool false)))::env) H K):TO q P n all (⟨some d,.binOp .eql t x (.const (.pointer none)) t',ty,pos,aft,none⟩::rest) env H K:=
 TO.op hd (fun m ac h1 h2 h3=>⟨.bool false,fun w' hw'=>by
  have h:=h3.val hx;generalize hq:ac.eval x=z at h;cases v <;> simp[SV.znF]at hv <;> cases h <;> simp[execOp,eval_const,hq,eqGuard,zet ((hT t i ht).ptr hk)],.t _ _ (.v _)⟩) k
theorem TO.zqp(hT:zas P tab){t:TypeId}{i:TyI}(hd:Nat.ble (d+1) n=true)(ht:tab.get t=some i)(hk:i.k= .ptr e)(hx:env.val x=some (.t (.v (.pointer none))))
  (k:TO q P n all rest ((d,.t (.v (.bool true)))::env) H K):TO q P n all (⟨some d,.binOp .eql t x (.const (.pointer none)) t',ty,pos,aft,none⟩::rest) env H K:=
 TO.op hd (fun m ac h1 h2 h3=>⟨.bool true,fun w' hw'=>by
  simp[execOp,eval_const,(h3.val hx).v_eq,eqGuard,zet ((hT t i ht).ptr hk)],.t _ _ (.v _)⟩) k
theorem TO.zgD(hT:zas P tab){t:TypeId}{i:TyI}{v:SV}(hd:Nat.ble (d+1) n=true)(ht:tab.get t=some i)(hk:i.k= .ptr e)(hx:env.val x=some v)(hv:v.znF=true)
  (k:TO q P n all rest ((d,.t (.v (.bool true)))::env) H K):TO q P n all (⟨some d,.binOp .neq t x (.const (.pointer none)) t',ty,pos,aft,none⟩::rest) env H K:=
 TO.op hd (fun m ac h1 h2 h3=>⟨.bool true,fun w' hw'=>by
  have h:=h3.val hx;generalize hq:ac.eval x=z at h;cases v <;> simp[SV.znF]at hv <;> cases h <;> simp[execOp,eval_const,hq,eqGuard,zeu ((hT t i ht).ptr hk)],.t _ _ (.v _)⟩) k
theorem TO.zgC(hT:zas P tab){t:TypeId}{i:TyI}(hd:Nat.ble (d+1) n=true)(ht:tab.get t=some i)(hk:i.k= .ptr e)(hx:env.val x=some (.t (.v (.pointer none))))
  (k:TO q P n all rest ((d,.t (.v (.bool false)))::env) H K):TO q P n all (⟨some d,.binOp .neq t x (.const (.pointer none)) t',ty,pos,aft,none⟩::rest) env H K:=
 TO.op hd (fun m ac h1 h2 h3=>⟨.bool false,fun w' hw'=>by
  simp[execOp,eval_const,(h3.val hx).v_eq,eqGuard,zeu ((hT t i ht).ptr hk)],.t _ _ (.v _)⟩) k
theorem TO.zim(hT:zas P tab){t:TypeId}{i:TyI}{vx:SV}{id off:Nat}(hd:Nat.ble (d+1) n=true)(ht:tab.get t=some i)(hk:i.k= .ptr e)(he:tab.get e=some ie)(hx:env.val x=some vx)(hy:env.val y=some vy)
  (hvx:Le vx (.ref id off))(hvy:Le vy (.ref id off))
  (k:TO q P n all rest ((d,.t (.v (.bool false)))::env) H K):TO q P n all (⟨some d,.binOp .neq t x y t',ty,pos,aft,none⟩::rest) env H K:=
 TO.op hd (fun m ac h1 h2 h3=>⟨.bool false,fun w' hw'=>by
  have h:=hvx _ _ (h3.val hx);have h':=hvy _ _ (h3.val hy);obtain⟨j,hj,_⟩:=(hT e ie he).info;generalize hq:ac.eval x=z at h;generalize hq':ac.eval y=z' at h';cases h with
  | ref _ _ p hp hn=>
    cases h' with
    | ref _ _ p' hp' hn'=>
      have:p'=p:=by rw[hp]at hp';cases hp';rfl
      subst this;simp[execOp,hq,hq',eqGuard,Lib.run_neq_ptr_same w' _ ((hT t i ht).ptr hk) hj],.t _ _ (.v _)⟩) k
theorem TO.zpQ(hT:zas P tab){t u:TypeId}{i:TyI}{id off:Nat}(hd:Nat.ble (d+1) n=true)(ht:tab.get t=some i)(hk:i.k= .ptr u)(hu:tab.get u=some iu)(hz:iu.size≠0)(ht':P.underlying t'=some .unsafePointer)
  (hx:env.val x=some (.tref e k' id off))(hoff:Nat.ble (off+1) k'=true)(k:TO q P n all rest ((d,.tref e k' id off)::env) H K):TO q P n all (⟨some d,.convert t t' x,ty,pos,aft,none⟩::rest) env H K:=
 TO.op hd (fun m ac h1 h2 h3=>by
  have h:=h3.val hx;obtain⟨j,hj,hj2,_⟩:=(hT u iu hu).info;generalize hq:ac.eval x=z at h;cases h with
  | tref _ _ _ _ p hp hn h0 hs=>
    refine⟨_,fun w' hw'=>?_,.tref _ _ _ _ p hp hn h0 hs⟩;have hb:=qaj hoff
    have:=Lib.run_to_unsafe w' ⟨p.b,p.lo+off,none⟩ ((hT t i ht).ptr hk) ht' hj oA (zfc hw' hs) (by simp only[];omega)
    simp[execOp,hq,this]) k
theorem TO.zjB(hT:zas P tab){t u:TypeId}{i:TyI}{id off:Nat}(hd:Nat.ble (d+1) n=true)(ht:tab.get t'=some i)(hk:i.k= .ptr u)(hu:tab.get u=some iu)(ht':P.underlying t=some .unsafePointer)
  (hx:env.val x=some (.tref e k' id off))(hl:liesAt P P.depth e (k' / P.cellsOf e) off u 1=true)(k:TO q P n all rest ((d,.tref e k' id off)::env) H K):TO q P n all (⟨some d,.convert t t' x,ty,pos,aft,none⟩::rest) env H K:=
 TO.op hd (fun m ac h1 h2 h3=>by
  have h:=h3.val hx;obtain⟨j,hj,hj2,_⟩:=(hT u iu hu).info;generalize hq:ac.eval x=z at h;cases h with
  | tref _ _ _ _ p hp hn h0 hs=>
    refine⟨_,fun w' hw'=>?_,.tref _ _ _ _ p hp hn h0 hs⟩
    have:=Lib.run_from_unsafe w' ⟨p.b,p.lo+off,none⟩ ht' ((hT t' i ht).ptr hk) hj (zfc hw' hs) (by simp only[h0,qaV];exact hl)
    simp[execOp,hq,this]) k
theorem TO.zh7{f:FuncId}{fn:Func}{ts:Array TypeId}{v:SV}(hd:Nat.ble (d+1) n=true)(hf:P.funcs[f]?=some fn)(hname:(fn.name == "runtime.NumGoroutine")=false)(hb:fn.body.isNone=true)(hn:Extern.findNext fn=none)
  (he:Extern.find fn=some Extern.AbiNoEscape.same)(hx:env.val x=some v):RV q P n all rest env H K d (.call { callee:=.value (.func f),args:=#[x],argTypes:=ts }) v:=
 TO.op hd (fun m ac h1 h2 h3=>⟨_,fun w' hw'=>by
  have:=run_callFunc_extern hf hname hb hn he #[ac.eval x] w'
  rw[Lib.run_noEscape]at this;simp only[Result.andThen]at this;simp[execOp,resolve,eval_func,Deferred.ofValue,invoke,this],h3.val hx⟩)
def T.one:T->Bool
 | .ag _=>false
 | _=>true
theorem TO.zgo(hT:zas P tab){t:TypeId}{i:TyI}{id len:Nat}{cs:List T}{ys:List T}(hd:Nat.ble (d+1) n=true)(ht:tab.get t=some i)(hk:i.k= .slice e)(ht':tab.get t'=some i')(hk':i'.k= .slice e)
  (he:tab.get e=some ie)(hs:ie.size=1)(hx:env.val x=some (.rw id len))(hH:H[id]?=some (.row e cs))(hlen:Nat.beq len cs.length=true)(hy:env.val y=some vy)(hvy:vy.elems 1=some ys)(hsy:ys.all T.one=true)
  (hby:Nat.ble ie.bytes 4096=true)(hb1:cs.length+ys.length≤10000000000)(hH':H.set id (.row e (cs++ys))=H')
  (k:TO false P n all rest ((d,.rw id (cs++ys).length)::env) H' K):TO false P n all (⟨some d,.call { callee:=.builtin .append,args:=#[x,y],argTypes:=#[t,t'] },ty,pos,aft,none⟩::rest) env H K:=
 TO.eff hd (fun m ac h1 h2 h3=>by
  have hy':=(h3.val hy).elems hvy;obtain⟨ad,cap,hq⟩:=hy'.zca;rw[hq]at hy';obtain⟨g,g0,g1,g2,g3⟩:=zbA (P:=P) hy' oA;have h1':=qaj hby;have h2':(cs.length+ys.length)*ie.bytes≤10000000000*4096:=qbU hb1 h1'
  obtain⟨z,m',r1,s,hm',hHm,hr⟩:=zfn (P:=P) hT h2 (ty:=ty) (y:=ac.eval y) (vs:=(List.range ys.length).map g) (ns:=ys) ht hk he hs (h3.val hx) (by rw[h1];exact hH) (qaY hlen) oC (.inr ⟨_,(hT t' i' ht').slice hk'⟩)
   (fun w=>by rw[hq];simp[Builtin.lenOf]) (fun w' hw'=>by have:=g0 w' hw';rw[hq];simpa using this) (fun v hv=>by simp at hv;obtain⟨q,hq,rfl⟩:=hv;exact g1 q oA) (fun j c v hc hv=>by
     have hjl:=(qaa.1 hc).1;simp[hjl]at hv;subst hv
     have hc1:c.cells=[c]:=by
      have hso:=qaB.1 hsy c (qau hc);cases c with
      | ag l=>simp[T.one]at hso
      | _=>rfl
     have:=g3 j c 0 c hc (by rw[hc1];rfl)
     simp at this;exact this) oF oF oA
  refine⟨z,m',by simp[execOp,resolve,invoke,builtin,r1],s,hm',by rw[hHm,h1];exact hH',hr⟩) k
end rules
def zvw(c:UInt8):T:=.v (.int .u8 c.toNat)
def za6(l:Str):List T:=l.map zvw
theorem zdH(a b:Str):za6 (a++b)=za6 a++za6 b:=qaw
theorem zaE(a:Str):(za6 a).length=a.length:=qac _
theorem zuw(hm:HRel m)(e:TypeId):Step m ⟨m.A,m.β++[⟨0,0,0⟩],m.H++[.row e []],m.w⟩/\HRel ⟨m.A,m.β++[⟨0,0,0⟩],m.H++[.row e []],m.w⟩:=by
 refine grow hm (A':=m.A) rfl rfl rfl (qag _) (fun _ _=>rfl) (fun _ _ h=>h) (fun _ _ h=>.inl h) rfl ?_ ?_ (fun _ _ h h'=>oI h h') ?_
 ·exact zwdk
 ·exact zwfa
 ·intro s i p k h1 h2;cases i with
  | zero=>
    simp at h1 h2;subst h1;subst h2
    exact⟨⟨rfl,qag _,fun h=>oI h (Nat.lt_irrefl _)⟩,fun o q1 q2=>by simp at q2,oC⟩
  | succ i=>simp at h1
theorem zxQ(hm:HRel m)(e:TypeId):SRel ⟨m.A,m.β++[⟨0,0,0⟩],m.H++[.row e []],m.w⟩ (.rw m.H.length 0) (.slice none 0 0):=by
 refine .rw _ _ _ ⟨0,0,0⟩ (by simp[<-hm.len]) ⟨_,_,_,rfl⟩ fun k hk=>?_
 have hk':tlOf (m.H++[Blk.row e []])[m.H.length]?=some k:=hk;simp[tlOf]at hk';subst hk';exact⟨qag _,fun _=>⟨none,0,rfl,qag _,rfl,rfl,rfl⟩⟩
section rules
variable {n:Nat}{tab:Tab}
variable {pos:String}
theorem Mv.row(e:TypeId)(id j:Nat){cs:List SV}{H':Heap}(hH:H[id]?=some (.cells cs))(hi:cs[j]?=some (.t (.v (.slice none 0 0))))(hH':H.set id (.cells (cs.set j (.rw H.length 0)))++[.row e []]=H'):Mv H H':=
 Mv.grow id j (fun h2 h1=>⟨zuw h2 e,h1 ▸ zxQ h2 e⟩) hH hi hH'
theorem TR.zgb{c:Code}(e:TypeId)(id j:Nat)(hH:H[id]?=some (.cells cs))(hi:cs[j]?=some (.t (.v (.slice none 0 0))))(hH':H.set id (.cells (cs.set j (.rw H.length 0)))++[.row e []]=H')
  (k:TR P n c env H' K):TR P n c env H K:=(Mv.row e id j hH hi hH').tr k
theorem TO.zgb{ops:List Oper}(e:TypeId)(id j:Nat)(hH:H[id]?=some (.cells cs))(hi:cs[j]?=some (.t (.v (.slice none 0 0))))(hH':H.set id (.cells (cs.set j (.rw H.length 0)))++[.row e []]=H')
  (k:TO false P n all ops env H' K):TO false P n all ops env H K:=(Mv.row e id j hH hi hH').to k
theorem TO.zm7(hT:zas P tab){t:TypeId}{i:TyI}{id len:Nat}{c:UInt8}(hd:Nat.ble (d+1) n=true)(ht:tab.get t=some i)(hk:i.k= .slice e)(ht':tab.get t'=some i')(hk':i'.k= .slice e)
  (he:tab.get e=some ie)(hs:ie.size=1)(hx:env.val x=some (.rw id len))(hH:H[id]?=some (.row e (za6 l)))(hlen:len=l.length)(hy:env.val y=some vy)(hvy:vy.elems 1=some [.v (.int .u8 c.toNat)])
  (hby:Nat.ble ie.bytes 4096=true)(hb1:l.length+1≤10000000000)(hH':H.set id (.row e (za6 (l++[c])))=H')
  (k:TO false P n all rest ((d,.rw id (l++[c]).length)::env) H' K):TO false P n all (⟨some d,.call { callee:=.builtin .append,args:=#[x,y],argTypes:=#[t,t'] },ty,pos,aft,none⟩::rest) env H K:=
 TO.zgo hT hd ht hk ht' hk' he hs hx hH (by rw[hlen,zaE];exact qbD _) hy hvy rfl hby (by rw[zaE];exact hb1) (H':=H') (by rw[<-hH',zdH];rfl) (by
  have:(za6 l++[T.v (.int .u8 (c.toNat:Int))]).length=(l++[c]).length:=by simp[zaE]
  rw[this];exact k)
theorem TO.zjk(hT:zas P tab){t:TypeId}{i:TyI}{id len:Nat}{r:Str}(hd:Nat.ble (d+1) n=true)(ht:tab.get t=some i)(hk:i.k= .slice e)(ht':tab.get t'=some i')(hk':i'.k= .str)
  (he:tab.get e=some ie)(hs:ie.size=1)(hx:env.val x=some (.rw id len))(hH:H[id]?=some (.row e (za6 l)))(hlen:len=l.length)(hy:env.val y=some (.t (.v (str r))))
  (hby:Nat.ble ie.bytes 4096=true)(hb1:l.length+r.length≤10000000000)(hH':H.set id (.row e (za6 (l++r)))=H')
  (k:TO false P n all rest ((d,.rw id (l++r).length)::env) H' K):TO false P n all (⟨some d,.call { callee:=.builtin .append,args:=#[x,y],argTypes:=#[t,t'] },ty,pos,aft,none⟩::rest) env H K:=
 TO.eff hd (fun m ac h1 h2 h3=>by
  have ey:=(h3.val hy).v_eq;have h1':=qaj hby;have h2':(l.length+r.length)*ie.bytes≤10000000000*4096:=qbU hb1 h1'
  obtain⟨z,m',r1,s,hm',hHm,hr⟩:=zfn (P:=P) hT h2 (ty:=ty) (y:=ac.eval y) (vs:=r.map fun c=>Value.int .u8 c.toNat) (ns:=za6 r) ht hk he hs (h3.val hx) (by rw[h1];exact hH) (by rw[hlen,zaE]) (by simp[zaE]) (.inl ((hT t' i' ht').str hk'))
   (fun w=>by rw[ey];simp[Builtin.lenOf];rfl) (fun w' hw'=>by
     rw[ey];simp only[Builtin.firstCells,qac]
     have:((⟨r.toArray⟩:ByteArray).extract 0 r.length).data=r.toArray:=by simp[ByteArray.data_extract]
     rw[this];simp) (fun v hv=>by simp at hv;obtain⟨c,_,rfl⟩:=hv;rfl) (fun j c v hc hv=>by
     simp only[za6,qan]at hc hv;cases hj:r[j]? with
     | none=>rw[hj]at hc;cases hc
     | some t0=>rw[hj]at hc hv;cases hc;cases hv;exact .v _) (by simp[zaE];omega) (by simp[zaE];omega) oA
  refine⟨z,m',by simp[execOp,resolve,invoke,builtin,r1],s,hm',by rw[hHm,h1,<-zdH];exact hH',?_⟩;rw[<-zdH,zaE]at hr;exact hr) k
theorem znw(w:World)(b k:Nat):(w.freeze ⟨b,0,none⟩ k).heap=if k=0 then w.heap else w.heap.modify b fun
   | .cells c elem (lo,hi)=>.cells c elem (if lo == hi then(0,0+k) else(min lo 0,max hi (0+k)))
   | o=>o:=by
 unfold World.freeze;split <;> rfl
theorem zpA(hm:HRel m){id:Nat}{cs:List T}{w':World}(hp:m.β[id]?=some p)(hH:m.H[id]?=some (.row e cs))(hos:w'.os=m.w.os)(htp:w'.tape=m.w.tape)(hou:w'.output=m.w.output)
  (hh:w'.heap=(m.w.freeze ⟨p.b,0,none⟩ k).heap)(hpos:k≤p.hi):
  Step m ⟨m.A,m.β.set id p,m.H.set id .dead,w'⟩/\HRel ⟨m.A,m.β.set id p,m.H.set id .dead,w'⟩:=by
 have hb:=hm.blk id p _ hp hH;obtain⟨⟨b1,b2,b3⟩,b4,b5⟩:=hb;rw[znw]at hh;have hsize:w'.heap.size=m.w.heap.size:=by rw[hh];split <;> simp
 have hoth:∀b,b≠p.b\/k=0->w'.heap[b]?=m.w.heap[b]? :=by
  intro b hb;rw[hh];split
  ·rfl
  ·rename_i h0;rcases hb with hb|hb
   ·simp[qbC,Ne.symm hb]
   ·exact oI hb h0
 have hat:∀b,b=p.b->k≠0->∃c lo hi,m.w.heap[b]?=some (.cells c e (lo,hi))/\c.size=p.hi/\w'.heap[b]?=some (.cells c e (if lo == hi then(0,0+k) else(min lo 0,max hi (0+k)))):=by
  intro b hb h0;subst hb
  have:=b3 oA
  unfold World.shape? at this;split at this
  ·rename_i c el fz hq;obtain⟨lo,hi⟩:=fz;simp at this;obtain⟨rfl,h2⟩:=this;refine⟨c,lo,hi,hq,h2,?_⟩;rw[hh,oH h0];simp[qbC,hq]
  ·cases this
 have hcells:∀b o,w'.cell? ⟨b,o,none⟩=m.w.cell? ⟨b,o,none⟩:=by
  intro b o;by_cases hb:b≠p.b\/k=0
  ·simp[World.cell?,hoth b hb]
  ·obtain⟨c,lo,hi,g1,_,g2⟩:=hat b oA oA;simp[World.cell?,g1,g2]
 have hshape:∀b,w'.shape? b=m.w.shape? b:=by
  intro b;by_cases hb:b≠p.b\/k=0
  ·simp[World.shape?,hoth b hb]
  ·obtain⟨c,lo,hi,g1,_,g2⟩:=hat b oA oA;simp[World.shape?,g1,g2]
 have hfr:∀b o,¬(b=p.b/\p.lo≤o/\o<p.hi)->(m.w.cell? ⟨b,o,none⟩).isSome=true->w'.frozen? ⟨b,o,none⟩=m.w.frozen? ⟨b,o,none⟩:=by
  intro b o hn hc;by_cases hb:b≠p.b\/k=0
  ·simp[World.frozen?,hoth b hb]
  ·obtain⟨c,lo,hi,g1,g3,g2⟩:=hat b oA oA;simp[World.cell?,g1]at hc;omega
 exact zeS hm (k1:=.dead) (p':=p) (A':=m.A) hp hH rfl hos htp hou (by rw[hsize];exact qag _) (fun b o _ _=>hcells b o) (fun b o _ h hc=>hfr b o h hc) (fun b _ h=>hoth b oA) (fun b o _ h=>by rw[hcells];exact h) (fun b s h=>by rw[hshape];exact h) (fun _ _ h=>h) (fun _ _ h=>.inl h) (fun h=>by cases h) (fun h=>by cases h) (fun o q1 q2=>(b4 o q1 q2).1) (fun n' h=>by cases h) (fun _=>trivial)
end rules
section rules
variable {n:Nat}{tab:Tab}
variable {pos:String}
theorem TO.ztk(hT:zas P tab){t:TypeId}{i:TyI}{v:SV}{a:Nat}(hd:Nat.ble (d+1) n=true)(ht:tab.get t=some i)(hk:i.k= .slice e)(he:tab.get e=some ie)(hs:ie.size=sz)
  (hx:env.val x=some v)(hv:v.elems sz=some es)(hy:env.val y=some (.t (.v (.int ik (a:Int)))))(h1:a≤es.length)
  (k:TO q P n all rest ((d,.t (.sl sz (es.drop a)))::env) H K):TO q P n all (⟨some d,.slice t x (some y) none none,ty,pos,aft,none⟩::rest) env H K:=
 TO.zhE hT hd ht hk he hs hx hv (.inr ⟨y,ik,rfl,hy⟩) (.inl ⟨rfl,rfl⟩) h1 (qag _) (by rw[qap];exact k)
theorem TO.zwL(hT:zas P tab){t:TypeId}{i:TyI}{z:Operand}{v:SV}{b:Nat}(hd:Nat.ble (d+1) n=true)(ht:tab.get t=some i)(hk:i.k= .slice e)(he:tab.get e=some ie)(hs:ie.size=sz)
  (hx:env.val x=some v)(hv:v.elems sz=some es)(hz:env.val z=some (.t (.v (.int ik (b:Int)))))(h2:b≤es.length)
  (k:TO q P n all rest ((d,.t (.sl sz (es.take b)))::env) H K):TO q P n all (⟨some d,.slice t x none (some z) none,ty,pos,aft,none⟩::rest) env H K:=
 TO.zhE hT hd ht hk he hs hx hv (.inl ⟨rfl,rfl⟩) (.inr ⟨z,ik,rfl,hz⟩) (qaM _) h2 (by simpa using k)
end rules
def zqB:Obj->Bool
 | .cells .. =>false
 | _=>true
theorem zd8{w:World}{b:Nat}{x:Obj}(h:w.heap[b]?=some x)(hx:zqB x=true)(o:Nat):w.cell? ⟨b,o,none⟩=none:=by
 cases x <;> first|(simp[World.cell?,h];done)|(simp[zqB]at hx)
theorem zmy{w:World}{b:Nat}{x:Obj}(h:w.heap[b]?=some x)(hx:zqB x=true):w.shape? b=none:=by
 cases x <;> first|(simp[World.shape?,h];done)|(simp[zqB]at hx)
theorem ztN(hm:HRel m){id:Nat}{k k':Blk}{x x':Obj}(hp:m.β[id]?=some p)(hH:m.H[id]?=some k)(hk:k.obj=true)(hk':k'.obj=true)(hb:m.w.heap[p.b]?=some x)(hx:zqB x=true)(hx':zqB x'=true)
  (hl:∀L,x= .loop L->∃L',x'= .loop L')(hnew:Step m ⟨m.A,m.β,m.H.set id k',m.w.putObj p.b x'⟩->zgm ⟨m.A,m.β,m.H.set id k',m.w.putObj p.b x'⟩ p k'):
  Step m ⟨m.A,m.β,m.H.set id k',m.w.putObj p.b x'⟩/\HRel ⟨m.A,m.β,m.H.set id k',m.w.putObj p.b x'⟩:=by
 have hid:=(qaa.1 hH).1;have hlt:=(qam.1 hb).1;obtain⟨e1,e2,_⟩:=(hm.blk id p k hp hH).zeT hk;have hsame:(m.w.putObj p.b x').heap[p.b]?=some x':=World.putObj_heap_same hlt;have hoth:∀b,b≠p.b->(m.w.putObj p.b x').heap[b]?=m.w.heap[b]? :=fun b h=>World.putObj_heap_other h
 have cells:∀b o,(m.w.putObj p.b x').cell? ⟨b,o,none⟩=m.w.cell? ⟨b,o,none⟩:=by
  intro b o;by_cases h:b=p.b
  ·subst h;rw[zd8 hb hx,zd8 hsame hx']
  ·exact zaW (hoth b h)
 have live:∀ {k:Blk},k.obj=true->k.live=true:=by intro k h;cases k <;> simp[Blk.obj]at h <;> rfl
 have notl:∀ {k:Blk},k.obj=true->∀n,tlOf (some k)≠some n:=by intro k h n;cases k <;> simp[Blk.obj]at h <;> simp[tlOf]
 have pick:∀(i:Nat) q c,m.β[i]?=some q->(m.H.set id k')[i]?=some c->(i=id/\q=p/\c=k')\/(i≠id/\m.H[i]?=some c):=by
  intro i q c h1 h2;by_cases hi:i=id
  ·subst hi;rw[qaC hid]at h2;rw[hp]at h1;cases h1;cases h2
   exact .inl ⟨rfl,rfl,rfl⟩
  ·rw[qaW oA]at h2;exact .inr ⟨hi,h2⟩
 have own:∀b o,Own ⟨m.A,m.β,m.H.set id k',m.w.putObj p.b x'⟩ b o ↔ Own m b o:=by
  intro b o;constructor
  ·rintro⟨i,q,c,h1,h2,h3,h4⟩;rcases pick i q c h1 h2 with ⟨rfl,rfl,rfl⟩|⟨_,g⟩
   ·exact⟨i,q,k,hp,hH,live hk,h4⟩
   ·exact⟨i,q,c,h1,g,h3,h4⟩
  ·rintro⟨i,q,c,h1,h2,h3,h4⟩;by_cases hi:i=id
   ·subst hi;exact⟨i,q,k',h1,by show(m.H.set i k')[i]?=_;rw[qaC hid],live hk',h4⟩
   ·exact⟨i,q,c,h1,by show(m.H.set id k')[i]?=_;rw[qaW oA];exact h2,h3,h4⟩
 have ownp:Own m p.b 0:=⟨id,p,k,hp,hH,live hk,rfl,oA,oA⟩
 have s:Step m ⟨m.A,m.β,m.H.set id k',m.w.putObj p.b x'⟩:=by
  refine⟨rfl,rfl,rfl,by show _≤(m.w.putObj p.b x').heap.size;rw[World.putObj_size];exact qag _,fun _ _ h=>h,fun _ _ h=>.inl h,fun b o h=>.inl ((own b o).1 h),fun b o _ _=>cells b o,fun b o _ _ hc=>?_,fun b _ hn=>?_,fun b sh hs=>?_,fun b L hL=>?_,fun b o _ h=>by show(World.cell? _ _).isSome=true;rw[cells];exact h,fun i q hq=>⟨q,hq,?_⟩⟩
  ·by_cases h:b=p.b
   ·subst h;rw[zd8 hb hx]at hc;cases hc
   ·exact za8 (hoth b h)
  ·exact hoth b fun h=>by subst h;exact hn 0 ownp
  ·by_cases h:b=p.b
   ·subst h;rw[zmy hb hx]at hs;cases hs
   ·show(m.w.putObj p.b x').shape? b=_;rw[zbC (hoth b h)];exact hs
  ·by_cases h:b=p.b
   ·subst h;rw[hb]at hL;cases hL
    obtain⟨L',rfl⟩:=hl L rfl;exact⟨L',hsame⟩
   ·exact⟨L,(hoth b h).trans hL⟩
  ·by_cases hi:i=id
   ·subst hi;show zaZ m.H[i]? (m.H.set i k')[i]? q q;rw[hH,qaC hid];unfold zaZ;split
    ·rename_i n e;exact oI e (notl hk n)
    ·exact⟨rfl,notl hk'⟩
   ·refine zeh ?_;show(m.H.set id k')[i]?=m.H[i]?;rw[qaW oA]
 refine⟨s,by simpa using hm.len,fun i q c h1 h2=>?_,fun i j q r c l hij h1 h2 h3 h4 hc hl=>?_,fun b o h hn=>hm.still b o h ((own b o).1 hn),fun b o h=>by show b<(m.w.putObj p.b x').heap.size;rw[World.putObj_size];exact hm.inA b o h,fun i q c h1 h2 hc hq=>?_,s.glob hm⟩
 ·rcases pick i q c h1 h2 with ⟨rfl,rfl,rfl⟩|⟨hi,g⟩
  ·exact hnew s
  ·have hbq:=hm.blk i q c h1 g;cases hlv:c.live with
   | false=>cases c <;> simp[Blk.live]at hlv;trivial
   | true=>
     have hap:=hm.apart i id q p c _ hi h1 g hp hH hlv (live hk);refine hbq.step hm s (fun o ho ho'=>⟨cells _ _,fun hc=>?_⟩) (fun e=>?_)
     ·by_cases h:q.b=p.b
      ·rw[h,zd8 hb hx]at hc;cases hc
      ·exact za8 (hoth _ h)
     ·refine hoth _ fun h=>?_
      obtain⟨f1,f2,_⟩:=hbq.zeT e
      have:=hap h
      omega
 ·have back:∀(i:Nat) q c,m.β[i]?=some q->(m.H.set id k')[i]?=some c->c.live=true->∃c',m.H[i]?=some c'/\c'.live=true:=by
   intro i q c h1 h2 h3;rcases pick i q c h1 h2 with ⟨rfl,_,_⟩|⟨_,g⟩
   ·exact⟨k,hH,live hk⟩
   ·exact⟨c,g,h3⟩
  obtain⟨c1,g1,g2⟩:=back i q c h1 h2 hc;obtain⟨c2,g3,g4⟩:=back j r l h3 h4 hl;exact hm.apart i j q r c1 c2 hij h1 g1 h3 g3 g2 g4
 ·show q.b<(m.w.putObj p.b x').heap.size;rw[World.putObj_size];rcases pick i q c h1 h2 with ⟨rfl,rfl,rfl⟩|⟨_,g⟩
  ·exact hlt
  ·exact hm.inO i q c h1 g hc hq
theorem zhz(hm:HRel m){id fn n:Nat}{pe:Option Code}(hH:m.H[id]?=some (.loop fn st pe n env ps aas bo)):
  ∃p L,m.β[id]?=some p/\p.lo=0/\p.hi=1/\m.w.heap[p.b]?=some (.loop L)/\L.fn=fn/\L.state=st/\L.pending=pe/\L.params=ps/\L.assign=aas/\L.body=bo/\ERel m n env L.tmps:=by
 have hid:=(qaa.1 hH).1;obtain⟨p,hp⟩:∃p,m.β[id]?=some p:=⟨_,qad (by rw[hm.len];exact hid)⟩;obtain⟨h1,h2,L,h3,⟨h4,h5,h6,h7,h8,h9⟩,h10⟩:=hm.blk id p _ hp hH;exact⟨p,L,hp,h1,h2,h3,h4,h5,h6,h7,h8,h9,h10⟩
theorem zkJ(hm:HRel m){id fn n:Nat}{st':LoopState}{pe pe':Option Code}(hH:m.H[id]?=some (.loop fn st pe n env ps aas bo))(hp:m.β[id]?=some p)(hL:m.w.heap[p.b]?=some (.loop L)):
  Step m ⟨m.A,m.β,m.H.set id (.loop fn st' pe' n env ps aas bo),m.w.putObj p.b (.loop { L with state:=st',pending:=pe' })⟩/\HRel ⟨m.A,m.β,m.H.set id (.loop fn st' pe' n env ps aas bo),m.w.putObj p.b (.loop { L with state:=st',pending:=pe' })⟩:=by
 obtain⟨h1,h2,L',h3,⟨h4,h5,h6,h7,h8,h9⟩,h10⟩:=hm.blk id p _ hp hH
 have:L'=L:=by rw[hL]at h3;cases h3;rfl
 subst this;refine ztN hm hp hH rfl rfl hL rfl rfl (fun _ _=>⟨_,rfl⟩) fun s=>⟨h1,h2,_,World.putObj_heap_same (qam.1 hL).1,⟨h4,rfl,rfl,h7,h8,h9⟩,h10.step hm s⟩
def zhK(P:Program)(id:Nat)(arg:SV)(H:Heap)(R:Res->Heap->Prop):Prop:=
 ∀(m:M) (x:Value) (r:Option Nat) (p:Place),m.H=H->HRel m->SRel m arg x->m.β[id]?=some p->
  ∃fn tmps assign body,(Instr.yield p.b #[x]).run P m.w= .ok (.round p.b fn tmps assign body) m.w/\
   RoundIn (Fr r) 0 P p.b fn tmps assign body m.w fun e w'=>∃(m':M) (res:Res),m'.w=w'/\Step m m'/\HRel m'/\zbZ m' res e/\R res m'.H
def EndR(N id:Nat)(R:Res->Heap->Prop):TK
 | .normal,_,H=>∃fn st pe n env ps aas bo,H[id]?=some (.loop fn st pe n env ps aas bo)/\N≤H.length/\zaa N ((H.set id (.loop fn .ready none n env ps aas bo)).take N)=true/\R (.ret (.b true)) ((H.set id (.loop fn .ready none n env ps aas bo)).take N)
 | .ret,_,H=>∃fn st pe n env ps aas bo,H[id]?=some (.loop fn st pe n env ps aas bo)/\N≤H.length/\zaa N ((H.set id (.loop fn .done (some .ret) n env ps aas bo)).take N)=true/\R (.ret (.b false)) ((H.set id (.loop fn .done (some .ret) n env ps aas bo)).take N)
 | .exit i,_,H=>∃fn st pe n env ps aas bo,H[id]?=some (.loop fn st pe n env ps aas bo)/\N≤H.length/\zaa N ((H.set id (.loop fn .done (some (.exit i)) n env ps aas bo)).take N)=true/\R (.ret (.b false)) ((H.set id (.loop fn .done (some (.exit i)) n env ps aas bo)).take N)
 | .panic v,_,H=>v.under N=true/\N≤H.length/\zaa N (H.take N)=true/\R (.panic v) (H.take N)
def AsgR(P:Program)(n N id:Nat)(body:Code)(R:Res->Heap->Prop):TK
 | .normal,env,H=>∃fn pe n' env' ps aas bo,H[id]?=some (.loop fn .ready pe n' env' ps aas bo)/\TR P n body env (H.set id (.loop fn .busy pe n' env' ps aas bo)) (EndR N id R)
 | _,_,_=>False
theorem zhK.of{id fn n t:Nat}{pe:Option Code}{assign body:Code}{arg:SV}(hfn:(P.funcs[fn]?).isSome=true)(hH:H[id]?=some (.loop fn .ready pe n env #[t] assign body))(ht:Nat.ble (t+1) n=true)
  (h:TR P n assign ((t,arg)::env) H (AsgR P n H.length id body R)):zhK P id arg H R:=by
 intro m x r p h1 h2 h3 hp;subst h1;obtain⟨p',L,hp',e1,e2,hL,f1,f2,f3,f4,f5,f6,hE⟩:=zhz h2 hH
 have:p'=p:=by rw[hp]at hp';cases hp';rfl
 subst this;refine⟨_,_,_,_,run_yield (args:=#[x]) hL (by simp[f4]),?_⟩;rw[f1,f4,f5,f6];have htm:((#[t].zip #[x]).foldl (fun tmps (t,a)=>tmps.setIfInBounds t a) L.tmps)=L.tmps.setIfInBounds t x:=oC
 rw[htm]
 have hE0:ERel m n ((t,arg)::env) (L.tmps.setIfInBounds t x):=by
  have:=ERel.put (a:={ tmps:=L.tmps,defers:=[] }) (v:=arg) (x:=x) t hE (qaj ht) h3
  simpa [Act.put]using this
 refine⟨trivial,fun c cs hroom=>?_⟩
 let b:Frame:={ (default:Frame)with fn:=fn,kind:=.normal,roundOf:=some p'.b }
 have hb0:Frame.round p'.b fn (L.tmps.setIfInBounds t x) assign body .normal=b.atR { tmps:=L.tmps.setIfInBounds t x,defers:=[] } [.code assign,.beginRound,.code body]:=by
  simp[Frame.round,Frame.atR,b]
 have wide:∀ {m m':Machine},StepsIn (fun _=>True) P m m'->StepsIn (Machine.fenced P (Fr r)) P m m':=fun h=>stepsIn_wide.2 (steps_iff.2 h)
 have hD:zdE ⟨some p'.b,0,[]⟩ m.w []:=⟨⟨[],rfl,fun _=>rfl,qbI,oC⟩,qaM _,fun l hl=>by cases hl;exact⟨L,hL⟩⟩;obtain⟨e,a1,w1,⟨m1,env1,te1,rfl,s1,hm1,he1,hd1,hx1,hK1⟩,harr⟩:=h ⟨some p'.b,0,[]⟩ m { tmps:=L.tmps.setIfInBounds t x,defers:=[] } rfl h2 hE0 hD b [.beginRound,.code body] (c::cs) rfl hfn;rw[<-hb0]at harr;cases te1 with
 | normal=>
   cases e <;> simp[zbe]at hx1
   obtain⟨fn1,pe1,n1,env1',ps1,as1,bo1,hH1,hbody⟩:=hK1;obtain⟨p1,L1,hp1,_,_,hL1,_,g2,_⟩:=zhz hm1 hH1
   have hp1':p1=p':=by
    obtain⟨q,hq,hi⟩:=s1.ids id p' hp;rw[hH]at hi
    have:=(hi.zcU (by intro n;simp[tlOf])).1
    rw[hp1]at hq;cases hq;exact this
   subst hp1';obtain⟨s2,hm2⟩:=zkJ (st':=.busy) (pe':=L1.pending) hm1 hH1 hp1 hL1;have hbr:=run_beginRound (P:=P) hL1 g2;have s3:StepsIn (fun _=>True) P (lone (b.atR a1 [.beginRound,.code body]) (c::cs) m1.w) (lone (b.atR a1 [.code body]) (c::cs) (m1.w.putObj p1.b (.loop { L1 with state:=.busy }))):=.one trivial (stepR_beginRound rfl hbr)
   have hpe:L1.pending=pe1:=by
    obtain⟨_,_,L2,q3,⟨_,_,q6,_⟩,_⟩:=hm1.blk id p1 _ hp1 hH1;rw[hL1]at q3;cases q3;exact q6
   have hbody':=hbody ⟨some p1.b,0,[]⟩ ⟨m1.A,m1.β,m1.H.set id (.loop fn1 .busy pe1 n1 env1' ps1 as1 bo1),m1.w.putObj p1.b (.loop { L1 with state:=.busy,pending:=L1.pending })⟩ a1 rfl (hpe ▸ hm2) (he1.step hm1 (hpe ▸ s2)) (hd1.step hm1 (hpe ▸ s2));obtain⟨e2,a2,w2,⟨m3,env3,te3,rfl,s4,hm3,he3,hd3,hx3,hK3⟩,harr2⟩:=hbody' b [] (c::cs) rfl hfn;have st:Step m m3:=(s1.trans (hpe ▸ s2)).trans s4;have pre:StepsIn (fun _=>True) P (lone (Frame.round p1.b fn (L.tmps.setIfInBounds t x) assign body .normal) (c::cs) m.w) (lone (b.atR a1 [.code body]) (c::cs) (m1.w.putObj p1.b (.loop { L1 with state:=.busy }))):=StepsIn.trans harr s3
   have fin:∀(jump:Option Code) (st':LoopState),st'=(if jump.isNone then .ready else .done)->(∃fn st pe n env ps aas bo,m3.H[id]?=some (.loop fn st pe n env ps aas bo)/\m.H.length≤m3.H.length/\zaa m.H.length ((m3.H.set id (.loop fn st' jump n env ps aas bo)).take m.H.length)=true/\R (.ret (.b jump.isNone)) ((m3.H.set id (.loop fn st' jump n env ps aas bo)).take m.H.length))->
     ∃w',(Instr.endRound p1.b jump).run P m3.w= .ok (.bool jump.isNone) w'/\∃(m':M) (res:Res),m'.w=w'/\Step m m'/\HRel m'/\zbZ m' res (.returned (.bool jump.isNone))/\R res m'.H:=by
    rintro jump st' rfl ⟨fn4,st4,pe4,n4,env4,ps4,as4,bo4,hH4,hN4,hb4,hR4⟩;obtain⟨p4,L4,hp4,_,_,hL4,_⟩:=zhz hm3 hH4
    have hp4':p4=p1:=by
     obtain⟨q,hq,hi⟩:=st.ids id p1 hp;rw[hH]at hi
     have:=(hi.zcU (by intro n;simp[tlOf])).1
     rw[hp4]at hq;cases hq;exact this
    subst hp4';obtain⟨s5,hm5⟩:=zkJ (st':=if jump.isNone then .ready else .done) (pe':=jump) hm3 hH4 hp4 hL4;obtain⟨c1,c2,_⟩:=zg3 hm5 (st.trans s5) (k:=m.H.length) (by simpa using hN4) (by rw[h2.len];exact qag _) hb4;exact⟨_,run_endRound jump hL4,_,.ret (.b jump.isNone),rfl,c1,c2,.t _ _ (.v _),hR4⟩
   cases te3 with
   | normal=>
     cases e2 <;> simp[zbe]at hx3
     obtain⟨w',hend,hR⟩:=fin none _ rfl hK3;exact⟨.returned (.bool true),w',hR,wide (pre.trans (StepsIn.trans harr2 (.one trivial (stepR_round_end rfl rfl hend))))⟩
   | ret=>
     cases e2 <;> simp[zbe]at hx3
     obtain⟨w',hend,hR⟩:=fin (some .ret) _ rfl hK3;obtain⟨k1,hs⟩:=harr2.2 rfl;exact⟨.returned (.bool false),w',hR,wide (pre.trans (StepsIn.trans hs (.one trivial (stepR_round_ret rfl rfl hend))))⟩
   | exit i=>
     cases e2 <;> simp[zbe]at hx3
     subst hx3;obtain⟨w',hend,hR⟩:=fin (some (.exit i)) _ rfl hK3;obtain⟨k1,hk,hs⟩:=harr2.2 rfl rfl;exact⟨.returned (.bool false),w',hR,wide (pre.trans (StepsIn.trans hs (.one trivial (stepR_round_exit rfl rfl hk hend))))⟩
   | panic v=>
     cases e2 with
     | panic ch=>
       obtain⟨todo,hs⟩:=harr2;obtain⟨⟨ks,hd,hks,_⟩,_⟩:=hd3;have hk0:=hks rfl;subst hk0;simp at hd;obtain⟨hv,hN,hbl,hR⟩:=hK3;obtain⟨c1,c2,c3⟩:=zg3 hm3 st (k:=m.H.length) hN (by rw[h2.len];exact qag _) hbl;obtain⟨y,hy,hxy⟩:=hx3;refine⟨.panicked ch,m3.w,⟨m3.cut m.H.length,.panic v,rfl,c1,c2,⟨y,hy,c3 _ _ hv hxy⟩,hR⟩,wide (pre.trans (StepsIn.trans hs (.one trivial ?_)))⟩;obtain⟨fnn,hfnn⟩:=Option.isSome_iff_exists.1 hfn;exact step_leave_panicked ⟨rfl,hd,fnn,hfnn⟩
     | _=>simp[zbe]at hx3
 | ret=>exact hK1.elim
 | exit i=>exact hK1.elim
 | panic v=>exact hK1.elim
theorem zmR(hm:HRel m){fn n:Nat}{w1:World}{l:Nat}(hos:w1.os=m.w.os)(htp:w1.tape=m.w.tape)(hou:w1.output=m.w.output)(hl:m.w.heap.size≤l)(hlt:l<w1.heap.size)(hsz:m.w.heap.size≤w1.heap.size)
  (hkeep:∀b,b<m.w.heap.size->w1.heap[b]?=m.w.heap[b]?)(hL:w1.heap[l]?=some (.loop L))(hh:L.fn=fn/\L.state= .ready/\L.pending=none/\L.params=ps/\L.assign=aas/\L.body=bo)(hE:ERel m n env L.tmps):
  Step m ⟨m.A,m.β++[⟨l,0,1⟩],m.H++[.loop fn .ready none n env ps aas bo],w1⟩/\HRel ⟨m.A,m.β++[⟨l,0,1⟩],m.H++[.loop fn .ready none n env ps aas bo],w1⟩:=by
 refine grow hm (A':=m.A) (βn:=[⟨l,0,1⟩]) (Hn:=[.loop fn .ready none n env ps aas bo]) hos htp hou hsz hkeep (fun _ _ h=>h) (fun _ _ h=>.inl h) rfl ?_ ?_ (fun b o h h'=>oI h h') ?_
 ·intro i p k h1 h2 _;cases i with
  | zero=>simp at h1;subst h1;exact .inl ⟨hl,hlt⟩
  | succ i=>simp at h1
 ·exact zwfa
 ·intro s i p k h1 h2;cases i with
  | zero=>
    simp at h1 h2;subst h1;subst h2
    exact⟨rfl,rfl,L,hL,hh,hE.step hm s⟩
  | succ i=>simp at h1
section rules
variable {n:Nat}{tab:Tab}
variable {pos:String}
def zq9(id:Nat)(env:Env)(K:TK)(v:Res)(H':Heap):Prop:=
 match v with
 | .panic v=>K (.panic v) env H'
 | .ret _=>∃fn st pe n' env' ps aas bo,H'[id]?=some (.loop fn st pe n' env' ps aas bo)/\st≠ .busy/\
   match pe with
   | none=>K .normal env (H'.set id .dead)
   | some .ret=>K .ret env (H'.set id .dead)
   | some (.exit i)=>K (.exit i) env (H'.set id .dead)
   | _=>False
theorem TR.rangeFunc{g:Operand}{ps:Array Tmp}{assign body:Code}{gf:FuncId}{caps:List SV}(hg:env.val g=some (.fn gf caps))
  (hs:∀fn,(P.funcs[fn]?).isSome=true->Sound P gf (.yl H.length::caps) (H++[.loop fn .ready none n env ps assign body]) (zq9 H.length env K)):TR P n (.rangeFunc g ps assign body) env H K:=by
 intro φ m a h1 h2 h3 h4 b k cs hro hfn;have hS:=hs b.fn hfn;subst h1
 obtain⟨l,mk,w1,he,hl,hlt,hsz,hos,htp,hou,hkeep,hL,hdef⟩:∃l mk w1,(Instr.enterLoop b.fn a.tmps ps assign body b.roundOf).run P m.w= .ok (l,mk) w1/\m.w.heap.size≤l/\l<w1.heap.size/\m.w.heap.size≤w1.heap.size/\w1.os=m.w.os/\w1.tape=m.w.tape/\w1.output=m.w.output/\
   (∀b,b<m.w.heap.size->w1.heap[b]?=m.w.heap[b]?)/\(∃dd,w1.heap[l]?=some (.loop { state:=.ready,pending:=none,fn:=b.fn,tmps:=a.tmps,params:=ps,assign,body,defers:=dd }))/\zdE φ w1 (mk++a.defers):=by
  obtain⟨⟨ks,d1,d2,d3,d4⟩,d5,d6⟩:=h4;rw[hro];cases hr:φ.r with
  | none=>
    refine⟨_,_,_,run_enterLoop_outer _ _ _ _ _,oC,oC,oF,rfl,rfl,rfl,fun b hb=>?_,⟨m.w.heap.size,?_⟩,⟨⟨m.w.heap.size::ks,?_,fun h=>by simp[hr]at h,?_,?_⟩,oF,fun l h=>by simp[hr]at h⟩⟩
    ·rw[RowKit.Below.heap_alloc _ _ _ oF,RowKit.Below.heap_alloc _ _ _ hb]
    ·have:=World.alloc_heap_new (m.w.alloc (.deferred (some []))) (.loop { state:=.ready,pending:=none,fn:=b.fn,tmps:=a.tmps,params:=ps,assign,body,defers:=m.w.heap.size })
     simpa using this
    ·simp[d1,mark]
    ·refine qbz.2 ⟨fun h=>?_,d3⟩
     have:=(qam.1 (d4 _ h).2).1
     omega
    ·intro k hk;rcases qa5.1 hk with rfl|hk
     ·refine⟨d5,?_⟩;rw[RowKit.Below.heap_alloc _ _ _ oC];exact World.alloc_heap_new _ _
     ·obtain⟨g1,g2⟩:=d4 k hk;have hlt:=(qam.1 g2).1;exact⟨g1,by rw[RowKit.Below.heap_alloc _ _ _ oF,RowKit.Below.heap_alloc _ _ _ hlt];exact g2⟩
  | some l0=>
    obtain⟨L0,hL0⟩:=d6 l0 hr;refine⟨_,_,_,run_enterLoop_inner hL0 _ _ _ _ _,oC,oC,oC,rfl,rfl,rfl,fun b hb=>RowKit.Below.heap_alloc _ _ _ hb,⟨L0.defers,World.alloc_heap_new _ _⟩,⟨⟨ks,by simpa using d1,d2,d3,fun k hk=>?_⟩,oF,fun l hl=>?_⟩⟩
    ·obtain⟨g1,g2⟩:=d4 k hk;exact⟨g1,by rw[RowKit.Below.heap_alloc _ _ _ (qam.1 g2).1];exact g2⟩
    ·obtain⟨L1,hL1⟩:=d6 l hl;exact⟨L1,by rw[RowKit.Below.heap_alloc _ _ _ (qam.1 hL1).1];exact hL1⟩
 obtain⟨dd,hL⟩:=hL;obtain⟨s1,hm1⟩:=zmR (fn:=b.fn) (n:=n) (env:=env) (ps:=ps) (aas:=assign) (bo:=body) h2 hos htp hou hl hlt hsz hkeep hL ⟨rfl,rfl,rfl,rfl,rfl,rfl⟩ h3;generalize hM:(⟨m.A,m.β++[⟨l,0,1⟩],m.H++[.loop b.fn .ready none n env ps assign body],w1⟩:M)=m1 at s1 hm1;have hm1w:m1.w=w1:=by rw[<-hM]
 have hm1H:m1.H=m.H++[.loop b.fn .ready none n env ps assign body]:=by rw[<-hM]
 have hm1β:m1.β[m.H.length]?=some ⟨l,0,1⟩:=by
  rw[<-hM];show(m.β++_)[m.H.length]?=_
  rw[<-h2.len,qas (qag _)];simp
 have hgv:=h3.val hg;generalize hq:a.eval g=z at hgv;cases hgv with
 | fn _ _ arr hsz' hcap=>
   obtain⟨⟨fng,q1,q2,q3⟩,hcalls⟩:=hS;have q2':¬fng.name= "runtime.NumGoroutine":=by simpa using q2
   have q3':¬fng.body=none:=by intro e;simp[e]at q3
   have henter:=stepR_rangeFunc (P:=P) (b:=b) (a:=a) (k:=k) (cs:=cs) (w:=m.w) (g:=g) (ps:=ps) (assign:=assign) (body:=body) (l:=l) (mark:=mk) (w₁:=w1) (w₁':=w1) (w₂:=w1)
    (d:={ target:=.fn (.func gf) arr,args:=#[.func (.yield l) #[] #[]] }) (f:=gf) (args:=#[.func (.yield l) #[] #[]]++arr) he
    (by simp[resolve,rangeCall,hq,Deferred.ofValue,eval_const]) (by simp[invoke,callFunc,q1,q2',q3'])
   have hargs:ARel m1 (.yl m.H.length::caps) (#[.func (.yield l) #[] #[]]++arr):=by
    refine⟨by simp[hsz'];omega,fun i s x hs hx=>?_⟩;cases i with
    | zero=>
      rw[qa7 oC]at hx;simp at hs hx;subst hs;subst hx
      exact .yl _ ⟨l,0,1⟩ hm1β (by rw[hm1H];intro n';simp[tlOf])
    | succ i=>
      have hs':caps[i]?=some s:=by simpa using hs
      have hx':arr[i]?=some x:=by
       rw[qbi oC]at hx;simpa using hx
      exact s1.srel h2 (hcap i s x hs' hx')
   obtain⟨e,w3,fr,⟨m2,res,rfl,s2,hm2,hres,hK⟩,hsteps,hfnn,hleave⟩:=hcalls m1 _ hm1H hm1 hargs (b.atR { a with defers:=mk++a.defers } (.inRangeFunc l::k)::cs);rw[hm1w]at hsteps;have st:Step m m2:=s1.trans s2
   have hdef2:zdE φ m2.w (mk++a.defers):=by
    have:zdE φ m1.w (mk++a.defers):=by rw[hm1w];exact hdef
    exact this.step hm1 s2
   have big:∀ {x y:Machine},Steps P x y->StepsIn (fun _=>True) P x y:=fun h=>steps_iff.1 h
   cases res with
   | panic v=>
     cases e with
     | panicked ch=>
       refine⟨.panic ch,{ a with defers:=mk++a.defers },m2.w,⟨m2,env,.panic v,rfl,st,hm2,h3.step h2 st,hdef2,hres,hK⟩,.inRangeFunc l::k,.head trivial henter (StepsIn.trans (big hsteps) (.one trivial ?_))⟩;rw[<-Frame.raise_atR];exact step_leave_panicked hleave
     | _=>simp[zbZ]at hres
   | ret v=>
     cases e with
     | returned x=>
       obtain⟨fn2,st2,pe2,n2,env2,ps2,as2,bo2,hH2,hbusy,hK⟩:=hK;obtain⟨p2,L2,hp2,_,_,hL2,f1,f2,f3,_⟩:=zhz hm2 hH2
       have hp2':p2=⟨l,0,1⟩:=by
        obtain⟨pp,hpp,hi⟩:=s2.ids _ _ hm1β;rw[hm1H]at hi
        have:=(hi.zcU (by intro n';simp[tlOf])).1
        rw[hp2]at hpp;cases hpp;exact this
       subst hp2';obtain⟨s3,hm3⟩:=zkJ (st':=.exhausted) (pe':=L2.pending) hm2 hH2 hp2 hL2;have hend:=run_endLoop (P:=P) hL2 (by rw[f2];exact hbusy)
       obtain⟨s4,hm4⟩:=zxm hm3 (id:=m.H.length) (k:=.loop fn2 .exhausted L2.pending n2 env2 ps2 as2 bo2) (by
        show(m2.H.set m.H.length _)[m.H.length]?=_;rw[qaC (qaa.1 hH2).1]) rfl
       have hset:(m2.H.set m.H.length (.loop fn2 .exhausted L2.pending n2 env2 ps2 as2 bo2)).set m.H.length .dead=m2.H.set m.H.length .dead:=by rw[qcV]
       have s5:=st.trans (s3.trans s4);have hd5:=(hdef2.step hm2 s3).step hm3 s4
       have back:StepsIn (fun _=>True) P (lone (b.atR a (.code (.rangeFunc g ps assign body)::k)) cs m.w) (lone (b.atR { a with defers:=mk++a.defers } ((L2.pending.map Item.code).toList++k)) cs (m2.w.putObj l (.loop { L2 with state:=.exhausted }))):=by
        refine .head trivial henter (StepsIn.trans (big hsteps) (.head trivial ?_ (.one trivial (stepR_endRangeFunc hend))));rw[<-finish_atR_inRangeFunc l x];exact step_leave_returned hleave
       obtain⟨w4,hw4⟩:∃w4,m2.w.putObj l (.loop { L2 with state:=.exhausted })=w4:=⟨_,rfl⟩;rw[hw4,f3]at back
       have post:∀te,(∀e',zbe ⟨m2.A,m2.β,(m2.H.set m.H.length (.loop fn2 .exhausted L2.pending n2 env2 ps2 as2 bo2)).set m.H.length .dead,m2.w.putObj l (.loop { L2 with state:=.exhausted })⟩ te e'->K te env (m2.H.set m.H.length .dead)->
         Post φ m n K e' { a with defers:=mk++a.defers } w4):=fun te e' hex hk=>⟨_,env,te,hw4,s5,hm4,h3.step h2 s5,hd5,hex,by rw[hset];exact hk⟩
       cases pe2 with
       | none=>exact⟨.normal,_,_,post .normal .normal trivial hK,back⟩
       | some c=>
         cases c with
         | ret=>
           exact⟨.ret,_,_,post .ret .ret trivial hK,fun hr=>⟨_,back.trans (.one trivial (stepR_ret hr))⟩,fun _=>⟨k,back⟩⟩
         | exit i=>
           exact⟨.exit i,_,_,post (.exit i) (.exit i) rfl hK,fun k' hk'=>back.trans (.one trivial (stepR_exit hk')),fun _ hk'=>⟨k,hk',back⟩⟩
         | _=>exact hK.elim
     | _=>simp[zbZ]at hres
theorem TO.yield{id:Nat}{arg:SV}{ts:Array TypeId}(hs:zhK P id arg H R)(hd:Nat.ble (d+1) n=true)(hf:env.val f=some (.yl id))(hx:env.val x=some arg)
  (k:∀v H',R (.ret v) H'->TO false P n all rest ((d,v)::env) H' K)(kp:∀v H',R (.panic v) H'->K (.panic v) env H'):
  TO false P n all (⟨some d,.call { callee:=.value f,args:=#[x],argTypes:=ts },ty,pos,aft,none⟩::rest) env H K:=by
 intro φ m a h1 h2 h3 h4;have hfv:=h3.val hf;have hxv:=h3.val hx;generalize hq:a.eval f=z at hfv;cases hfv with
 | yl _ p hp hn=>
   obtain⟨fn,tmps,aas,bo,hy,hR⟩:=hs m (a.eval x) φ.r p h1 h2 hxv hp
   have hrun:(execOp a.eval ⟨some d,.call { callee:=.value f,args:=#[x],argTypes:=ts },ty,pos,aft,none⟩).run P m.w= .ok (.round p.b fn tmps aas bo) m.w:=by
    simp[execOp,resolve,hq,Deferred.ofValue,invoke,hy]
   refine wpListIn_plain rfl fun K' hK=>?_
   unfold Oper.wpIn;refine⟨fun _ _=>trivial,?_⟩;rw[za9 hrun (by intro d e;cases e)];simp only[Oper.uponIn];refine⟨fun h=>by simp[Fence.wide]at h,hR.mono ?_⟩;rintro e w' ⟨m',res,rfl,s,hm',hres,hR'⟩;cases res with
   | ret v=>
     cases e with
     | returned y=>exact hK _ _ (TO.zfF (m':=m') s (k v m'.H hR' φ m' _ rfl hm' ((h3.step h2 s).put d (qaj hd) hres) (by simpa [Act.put]using h4.step h2 s)))
     | _=>simp[zbZ]at hres
   | panic v=>
     cases e with
     | panicked ch=>exact⟨m',env,.panic v,rfl,s,hm',h3.step h2 s,h4.step h2 s,hres,kp v m'.H hR'⟩
     | _=>simp[zbZ]at hres
theorem TO.zfs{args:Array Operand}{ts:Array TypeId}(hs:Sound P fid cargs H R)(hd:Nat.ble (d+1) n=true)
  (hf:env.val f=some (.fn fid caps))(ha:env.vals args.toList=some vs)(hl:Les (vs++caps) cargs)
  (k:∀v H',R (.ret v) H'->TO false P n all rest ((d,v)::env) H' K)(kp:∀v H',R (.panic v) H'->K (.panic v) env H'):
  TO false P n all (⟨some d,.call { callee:=.value f,args:=args,argTypes:=ts },ty,pos,aft,none⟩::rest) env H K:=by
 intro φ m ac h1 h2 h3 h4;obtain⟨arr,hq,har⟩:=zm1 h3 hf ha;have hcall:=hs.2 m _ h1 h2 (har.le hl);refine wpListIn_plain rfl fun K' hK=>?_
 unfold Oper.wpIn;refine⟨fun _ _=>trivial,?_⟩;rw[za9 (zfM hq hs.1) (by intro d e;cases e)];simp only[Oper.uponIn];refine⟨fun h=>by simp[Fence.wide]at h,zfN (Calls.mono hcall ?_)⟩;rintro e w' ⟨m',res,rfl,s,hm',hres,hR'⟩;cases res with
 | ret v=>
   cases e with
   | returned y=>exact hK _ _ (TO.zfF (m':=m') s (k v m'.H hR' φ m' _ rfl hm' ((h3.step h2 s).put d (qaj hd) hres) (by simpa [Act.put]using h4.step h2 s)))
   | _=>simp[zbZ]at hres
 | panic v=>
   cases e with
   | panicked ch=>exact⟨m',env,.panic v,rfl,s,hm',h3.step h2 s,h4.step h2 s,hres,kp v m'.H hR'⟩
   | _=>simp[zbZ]at hres
theorem TO.makeInterface{t:TypeId}{x:Operand}{v:SV}(hd:Nat.ble (d+1) n=true)(ht:P.concrete t=true)(hx:env.val x=some v):RV q P n all rest env H K d (.makeInterface t x) (.ifc t v):=
 TO.op hd (fun m ac h1 h2 h3=>⟨_,fun w' hw'=>by simp[execOp,run_makeInterface w' t (ac.eval x) ht],.ifc t v _ (h3.val hx)⟩)
theorem TO.panic{dd:Option Tmp}{x:Operand}{t:TypeId}{v:SV}(hx:env.val x=some (.ifc t v))(k:K (.panic (.ifc t v)) env H):
  TO false P n all (⟨dd,.panic x,ty,pos,aft,none⟩::rest) env H K:=by
 intro φ m a h1 h2 h3 h4;have hxv:=h3.val hx;generalize hq:a.eval x=z at hxv;cases hxv with
 | ifc _ _ y hy=>
   refine wpListIn_plain rfl fun K' hK=>?_
   unfold Oper.wpIn;refine⟨fun _ _=>trivial,?_⟩;rw[zjX rfl]
   have hrun:(execOp a.eval ⟨dd,.panic x,ty,pos,aft,none⟩).run P m.w= .halt (.panic (.iface t y)) m.w:=by
    simp[execOp,hq,run_panic_iface]
   rw[hrun];simp only[Oper.uponIn];exact⟨m,env,.panic (.ifc t v),rfl,.refl m,h2,h3,h4,⟨_,rfl,.ifc t v y hy⟩,h1 ▸ k⟩
end rules
mutual
theorem zbM {N:Nat} {r:Nat->Nat} (hr:∀j,j<N->r j=j):∀(v:SV),v.under N=true->v.ren r=v
 | .t u,_=>rfl
 | .sl sz es i,h=>by simp[SV.ren,hr i (by simpa [SV.under,qbn]using h)]
 | .ms sz i off len,h=>by simp[SV.ren,hr i (by simpa [SV.under,qbn]using h)]
 | .cp cs off,_=>rfl
 | .ref i off,h=>by simp[SV.ren,hr i (by simpa [SV.under,qbn]using h)]
 | .tref e n i off,h=>by simp[SV.ren,hr i (by simpa [SV.under,qbn]using h)]
 | .rw i len,h=>by simp[SV.ren,hr i (by simpa [SV.under,qbn]using h)]
 | .mp i,h=>by simp[SV.ren,hr i (by simpa [SV.under,qbn]using h)]
 | .yl i,h=>by simp[SV.ren,hr i (by simpa [SV.under,qbn]using h)]
 | .ag cs,h=>by simp[SV.ren,zbs hr cs (by simpa [SV.under]using h)]
 | .tup cs,h=>by simp[SV.ren,zbs hr cs (by simpa [SV.under]using h)]
 | .fn f cs,h=>by simp[SV.ren,zbs hr cs (by simpa [SV.under]using h)]
 | .bnd f cs,h=>by simp[SV.ren,zbs hr cs (by simpa [SV.under]using h)]
 | .ifc ty x,h=>by simp[SV.ren,zbM hr x (by simpa [SV.under]using h)]
 | .any,_=>rfl
theorem zbs {N:Nat} {r:Nat->Nat} (hr:∀j,j<N->r j=j):∀(cs:List SV),unders N cs=true->rens r cs=cs
 | [],_=>rfl
 | c::cs,h=>by
   simp only[unders,qar]at h;simp[rens,zbM hr c h.1,zbs hr cs h.2]
end
theorem Blk.zbM{N:Nat}{r:Nat->Nat}(hr:∀j,j<N->r j=j)(b:Blk)(h:b.under N=true):b.ren r=b:=by
 have key:∀env:List (Nat×SV),(env.all fun x=>x.2.under N)=true->(env.map fun x=>(x.1,x.2.ren r))=env:=by
  intro env
  induction env with
  | nil=>intro _;rfl
  | cons x l ih=>
    intro h;simp only[qbH,qar]at h;simp[Go.TL.zbM hr x.2 h.1,ih h.2]
 cases b <;> simp[Blk.ren]
 ·exact zbs hr _ h
 ·exact key _ h
theorem zhr{N:Nat}{r:Nat->Nat}(hr:∀j,j<N->r j=j):∀(H:Heap),zaa N H=true->H.map (Blk.ren r)=H
 | [],_=>rfl
 | b::H,h=>by
   simp only[zaa,qar]at h;simp[Blk.zbM hr b h.1,zhr hr H h.2]
theorem zfy{N M j:Nat}(h:j<N):names (List.range N) M j=j:=by
 simp[names,h]
theorem zfA{α:Type}{G bs:List α}{N:Nat}(hb:bs.length=N)(hG:N≤G.length):patch G (List.range N) bs=bs++G.drop N:=by
 apply List.ext_getElem?;intro i;have hl:(List.range N).length≤bs.length:=oF
 have hlen:=zf9 (List.range N) G bs hl;by_cases h1:i<N
 ·rw[zhA (List.range N) G bs i i List.nodup_range (fun x hx=>by simp at hx;omega) hl (by simp[h1]),qat oA]
 ·by_cases h2:i<G.length
  ·rw[zdd (List.range N) G bs i h2 oF,qas oA,qbb];congr 1;omega
  ·rw[qa8 (by simp at hlen;omega),qa8 oF]
theorem zfv{N:Nat}(hN:N≤H.length)(hc:H.take N=Hc)(hb:zaa N Hc=true):Hands H (List.range N) Hc:=by
 have hl:Hc.length=N:=by rw[<-hc];simp;omega
 refine⟨List.nodup_range,fun x hx=>by simp at hx;omega,by simp[hl],fun j i b hj hbj=>?_,fun j b hbj=>?_⟩
 ·have hj':=(qaa.1 hbj).1
  have:i=j:=by
   rw[qcr oA]at hj;cases hj;rfl
  subst this;rw[Blk.zbM (N:=N) (fun j hj=>zfy hj) b (zcf hb _ b hbj)];rw[<-hc,qa6,oG oA]at hbj;exact hbj
 ·rw[hl];exact zcf hb j b hbj
section rules
variable {n:Nat}{tab:Tab}
variable {pos:String}
def Within(N:Nat)(R:Res->Heap->Prop):Prop:=
 (∀v H',R (.ret v) H'->v.under N=true/\H'.length=N/\zaa N H'=true)/\∀v H',R (.panic v) H'->v.under N=true/\H'.length=N/\zaa N H'=true
theorem TO.zxd(N:Nat){args:Array Operand}{ts:Array TypeId}(hs:Sound P fid cargs Hc R)(hw:Within N R)(hd:Nat.ble (d+1) n=true)
  (hf:env.val f=some (.fn fid caps))(ha:env.vals args.toList=some vs)(hl:Les (vs++caps) cargs)(hu:unders N cargs=true)(hN:N≤H.length)(hc:H.take N=Hc)(hb:zaa N Hc=true)
  (k:∀v H',R (.ret v) H'->TO false P n all rest ((d,v)::env) (H'++H.drop N) K)(kp:∀v H',R (.panic v) H'->K (.panic v) env (H'++H.drop N)):
  TO false P n all (⟨some d,.call { callee:=.value f,args:=args,argTypes:=ts },ty,pos,aft,none⟩::rest) env H K:=by
 have hr:∀j,j<N->names (List.range N) H.length j=j:=fun j hj=>zfy hj
 have hlen:Hc.length=N:=by rw[<-hc];simp;omega
 refine TO.call (List.range N) hs hd hf ha (by rw[zbs hr _ hu];exact hl) (by rw[hlen];exact hu) (zfv hN hc hb) (fun v Hc' h=>?_) (fun v Hc' h=>?_)
 ·obtain⟨g1,g2,g3⟩:=hw.1 v Hc' h;rw[zbM hr v g1,zhr hr Hc' g3,zfA g2 hN];exact k v Hc' h
 ·obtain⟨g1,g2,g3⟩:=hw.2 v Hc' h;rw[zbM hr v g1,zhr hr Hc' g3,zfA g2 hN];exact kp v Hc' h
theorem TO.zAq(N:Nat){id:Nat}{arg:SV}{ts:Array TypeId}(hs:zhK P id arg Hc R)(hw:Within N R)(hd:Nat.ble (d+1) n=true)(hf:env.val f=some (.yl id))(hx:env.val x=some arg)
  (hu:arg.under N=true)(hid:id<N)(hN:N≤H.length)(hc:H.take N=Hc)(hb:zaa N Hc=true)
  (k:∀v H',R (.ret v) H'->TO false P n all rest ((d,v)::env) (H'++H.drop N) K)(kp:∀v H',R (.panic v) H'->K (.panic v) env (H'++H.drop N)):
  TO false P n all (⟨some d,.call { callee:=.value f,args:=#[x],argTypes:=ts },ty,pos,aft,none⟩::rest) env H K:=by
 have hr:∀j,j<N->names (List.range N) H.length j=j:=fun j hj=>zfy hj
 have hlen:Hc.length=N:=by rw[<-hc];simp;omega
 have hh:=zfv hN hc hb;refine TO.yield (R:=fun r H'=>∃H0,R r H0/\H'=H0++H.drop N) (arg:=arg) ?_ hd hf hx ?_ ?_
 ·intro m y r p h1 h2 h3 hp;subst h1;have lies:=zhy h2 hh
  have hp':(cutM m (List.range N) Hc).β[id]?=some p:=by
   simp[cutM,hid,hp]
  obtain⟨fn,tmps,aas,bo,g1,g2⟩:=hs (cutM m (List.range N) Hc) y r p rfl (lies.hrel h2) (lies.zd1 (by rw[zbM hr arg hu];exact h3) (by show arg.under Hc.length=true;rw[hlen];exact hu)) hp';refine⟨fn,tmps,aas,bo,g1,g2.mono ?_⟩;rintro e w' ⟨mc',res,rfl,s,hmc,hres,hR⟩;obtain⟨st,hbk⟩:=zrm h2 hh s hmc
  have fact:∀v,v.under N=true->mc'.H.length=N->zaa N mc'.H=true->(∀z,SRel mc' v z->SRel (back m mc' (List.range N)) v z)/\(back m mc' (List.range N)).H=mc'.H++m.H.drop N:=by
   intro v q1 q2 q3;refine⟨fun z hz=>?_,?_⟩
   ·have:=zeB h2 hh hmc oF hz
    rw[zbM hr v q1]at this;exact this
   ·show patch m.H (List.range N) (mc'.H.map (Blk.ren (names (List.range N) m.H.length)))=_;rw[zhr hr mc'.H q3,zfA q2 hN]
  cases res with
  | ret v=>
    cases e with
    | returned z=>
      obtain⟨q1,q2,q3⟩:=hw.1 v _ hR;obtain⟨f1,f2⟩:=fact v q1 q2 q3;exact⟨back m mc' (List.range N),.ret v,rfl,st,hbk,f1 z hres,mc'.H,hR,f2⟩
    | _=>simp[zbZ]at hres
  | panic v=>
    cases e with
    | panicked ch=>
      obtain⟨q1,q2,q3⟩:=hw.2 v _ hR;obtain⟨f1,f2⟩:=fact v q1 q2 q3;obtain⟨z,hz1,hz2⟩:=hres;exact⟨back m mc' (List.range N),.panic v,rfl,st,hbk,⟨z,hz1,f1 z hz2⟩,mc'.H,hR,f2⟩
    | _=>simp[zbZ]at hres
 ·rintro v H' ⟨H0,h,rfl⟩;exact k v H0 h
 ·rintro v H' ⟨H0,h,rfl⟩;exact kp v H0 h
end rules
def zj7(m:M):Option SV->FrameMode->Prop
 | none,u=>u= .returning
 | some v,u=>∃x,u= .panicking [{ v:=x,recovered:=false }]/\SRel m v x
def zcT(P:Program)(f:FuncId)(args:List SV)(H:Heap)(pv:Option SV)(R:Heap->Prop):Prop:=
 Callable P f/\∀(m:M) (vs:Array Value) (u:FrameMode),m.H=H->HRel m->ARel m args vs->zj7 m pv u->
  CallsDIn (Fr none) 0 P f vs u m.w fun e u' w'=>(∃y,e= .returned y)/\settle u'= .returning/\∃m':M,m'.w=w'/\Step m m'/\HRel m'/\R m'.H
def zwY(N:Nat)(R:Heap->Prop):TK
 | .normal,_,H=>N≤H.length/\zaa N (H.take N)=true/\R (H.take N)
 | .ret,_,H=>N≤H.length/\zaa N (H.take N)=true/\R (H.take N)
 | _,_,_=>False
theorem ziM{P:Program}{cs:List Frame}{s0:Nat}{w0:World}:∀(ks:List Nat) (w:World) (fr:Frame),Shut s0 w0 w->fr.mode≠ .run->fr.defers=ks.map mark->ks.Nodup->(∀k∈ks,s0≤k/\w.heap[k]?=some (.deferred (some [])))->
  ∃w',Shut s0 w0 w'/\StepsIn (fun _=>True) P (lone fr cs w) (lone { fr with defers:=[] } cs w')
 | [],w,fr,hs,hm,hd,_,_=>⟨w,hs,by
     have:({ fr with defers:=[] }:Frame)=fr:=by cases fr;simp at hd;simp[hd]
     rw[this];exact .refl _⟩
 | k::ks,w,fr,hs,hm,hd,hn,hk=>by
   obtain⟨hk1,hk2⟩:=hk k qah;have hn':=qbz.1 hn;have h1:=step_collected (P:=P) (cs:=cs) (fr:=fr) (r:=k) hm hd rfl (run_takeDeferred hk2)
   obtain⟨w',g1,g2⟩:=ziM (P:=P) (cs:=cs) ks _ { fr with defers:=[]++ks.map mark } (hs.put hk1 hk2 none) hm rfl hn'.2 (fun k' hk'=>by
    obtain⟨q1,q2⟩:=hk k' (qai _ hk');exact⟨q1,by rw[World.putObj_heap_other (by intro e;subst e;exact hn'.1 hk')];exact q2⟩)
   exact⟨w',g1,.head trivial h1 g2⟩
theorem zcT.of{tab:Tab}{f:FuncId}{fn:Func}{c':Code}{args:List SV}{pv:Option SV}{R:Heap->Prop}{id:Nat}{pos:String}
  (hf:P.funcs[f]?=some fn)(hn:(fn.name == "runtime.NumGoroutine")=false)
  (hb:fn.body=some (.seq (.region id (⟨some d,.call { callee:=.builtin .recover,args:=#[],argTypes:=#[] },ty,pos,aft,none⟩::rest).toArray false) c'))
  (hres:fn.results= #[])(ha:Nat.ble args.length fn.ntmps=true)(hd:Nat.ble (d+1) fn.ntmps=true)
  (h:TO false P fn.ntmps (⟨some d,.call { callee:=.builtin .recover,args:=#[],argTypes:=#[] },ty,pos,aft,none⟩::rest).toArray rest ((d,pv.getD (.t (.v .nilIface)))::zfj 0 args) H (Then P fn.ntmps c' (zwY H.length R))):zcT P f args H pv R:=by
 refine⟨⟨fn,hf,hn,by rw[hb];rfl⟩,fun m vs u h1 h2 h3 hu=>?_⟩;subst h1;have hal:=qaj ha
 have hE:ERel m fn.ntmps (zfj 0 args) (vs++Array.replicate (fn.ntmps-vs.size) undef):=by
  refine⟨by simp[h3.1];omega,fun i v hv=>?_⟩;exact zwm
 refine⟨trivial,fun c₀ cs hc₀ hroom=>?_⟩
 let b:Frame:={ (default:Frame)with fn:=f,kind:=.deferred,roundOf:=none }
 let a0:Act:={ tmps:=vs++Array.replicate (fn.ntmps-vs.size) undef,defers:=[] }
 have henter:Frame.enter P f vs .deferred=b.atR a0 [.code (.seq (.region id (⟨some d,.call { callee:=.builtin .recover,args:=#[],argTypes:=#[] },ty,pos,aft,none⟩::rest).toArray false) c')]:=by
  simp[Frame.enter,Frame.atR,hf,hb,b,a0]
 obtain⟨x,u',hrec,hx,hset⟩:∃x u',(∀cs',((recoverD (c₀::cs')=some (x,{ c₀ with mode:=u' }::cs'))\/(recoverD (c₀::cs')=none/\x= .nilIface/\u'=c₀.mode)))/\SRel m (pv.getD (.t (.v .nilIface))) x/\settle u'= .returning:=by
  cases pv with
  | none=>
    simp only[zj7]at hu;refine⟨.nilIface,c₀.mode,fun cs'=>.inr ⟨by simp[recoverD,hc₀,hu],rfl,rfl⟩,.t _ _ (.v _),by rw[hc₀,hu];rfl⟩
  | some v=>
    obtain⟨x,hux,hxx⟩:=hu;exact⟨x,.panicking [{ v:=x,recovered:=true }],fun cs'=>.inl (by simp[recoverD,hc₀,hux]),hxx,by simp[settle]⟩
 have hD:zdE ⟨none,m.w.heap.size,[]⟩ m.w ([]:List Deferred):=⟨⟨[],rfl,fun _=>rfl,qbI,oC⟩,qag _,fun l hl=>by cases hl⟩;have hto:=h ⟨none,m.w.heap.size,[]⟩ m (a0.put (some d) x) rfl h2 (ERel.put (a:=a0) d hE (qaj hd) hx) hD;generalize hall:(⟨some d,.call { callee:=.builtin .recover,args:=#[],argTypes:=#[] },ty,pos,aft,none⟩::rest:List Oper).toArray=all at*;have h0:all[0]?=some ⟨some d,.call { callee:=.builtin .recover,args:=#[],argTypes:=#[] },ty,pos,aft,none⟩:=by rw[<-hall];simp
 have hsz:all.size=rest.length+1:=by rw[<-hall];simp
 have hops:wpOpsIn (Fr none) 0 P all (Post ⟨none,m.w.heap.size,[]⟩ m fn.ntmps (Then P fn.ntmps c' (zwY m.H.length R))) (List.range' 1 rest.length) (a0.put (some d) x) m.w:=by
  rw[wpOpsIn_eq_wpListIn rest 1 (fun j=>by rw[<-hall];simp[qck 1 j])];exact hto
 have wide:∀ {x y:Machine},StepsIn (fun _=>True) P x y->StepsIn (Machine.fenced P (Fr none)) P x y:=fun h=>stepsIn_wide.2 (steps_iff.2 h)
 obtain⟨e1,a1,w1,hq1,harr1⟩:=wp_opsIn (F:=Fr none) (n:=0) _ _ _ hops b [.code c'] ({ c₀ with mode:=u' }::cs) rfl trivial (room_wide _);have harr1':=zgV (I':=fun _=>True) (fun _ _=>trivial) harr1
 have hstep:step P (lone (b.atR a0 (.inRegion all (0::List.range' 1 rest.length)::[.code c'])) (c₀::cs) m.w)= .next (lone (b.atR (a0.put (some d) x) (.inRegion all (List.range' 1 rest.length)::[.code c'])) ({ c₀ with mode:=u' }::cs) m.w):=by
  have hg:=stepGR_op (P:=P) (b:=b) (a:=a0) (k:=[.code c']) (cs:=c₀::cs) (w:=m.w) (i:=0) (rest:=List.range' 1 rest.length) h0 (by simp[Region.wanted])
  have hfin:∀v,(b.atR a0 (.inRegion all (0::List.range' 1 rest.length)::[.code c'])).finish v=b.atR (a0.put (some d) v) (.inRegion all (List.range' 1 rest.length)::[.code c']):=by
   intro v;rw[Frame.finish_atR,h0];rfl
  have hr:(execOp a0.eval ⟨some d,.call { callee:=.builtin .recover,args:=#[],argTypes:=#[] },ty,pos,aft,none⟩).run P m.w= .ok .recover m.w:=by
   simp[execOp,resolve,invoke,builtin]
  have hk:(b.atR a0 (.inRegion all (0::List.range' 1 rest.length)::[.code c'])).kind= .deferred:=rfl;have htr:=tryRecover_deferred hk (c₀::cs);refine step_lone_go ?_;rw[hg,<-hfin];simp only[Frame.atR,b]at htr⊢;rcases hrec cs with hr1|⟨hr1,hr2,hr3⟩
  ·simp[stepG.apply,Oper.semAt_none,hr,htr,hr1]
  ·have hc:({ c₀ with mode:=u' }:Frame)=c₀:=by rw[hr3]
   rw[hc];simp only[stepG.apply,Oper.semAt_none,hr,htr,hr1,hr2,Sem.runT_eq,GStep.bare_after];rfl
 have s0:StepsIn (fun _=>True) P (lone (Frame.enter P f vs .deferred) (c₀::cs) m.w) (lone (b.atR (a0.put (some d) x) (.inRegion all (List.range' 1 rest.length)::[.code c'])) ({ c₀ with mode:=u' }::cs) m.w):=by
  rw[henter];refine .head trivial stepR_seq (.head trivial stepR_region ?_);rw[hsz,List.range_eq_range',List.range'_succ];exact .one trivial hstep
 have fin:∀(m2:M) (a2:Act),Step m m2->HRel m2->zdE ⟨none,m.w.heap.size,[]⟩ m2.w a2.defers->m.H.length≤m2.H.length/\zaa m.H.length (m2.H.take m.H.length)=true/\R (m2.H.take m.H.length)->∀todo,
   StepsIn (fun _=>True) P (lone (Frame.enter P f vs .deferred) (c₀::cs) m.w) (lone { b.atR a2 todo with mode:=.returning } ({ c₀ with mode:=u' }::cs) m2.w)->
   ∃e u'' w' fr,((∃y,e=Ending.returned y)/\settle u''= .returning/\∃m':M,m'.w=w'/\Step m m'/\HRel m'/\R m'.H)/\
    ComesIn (Machine.fenced P (Fr none)) P (lone (Frame.enter P f vs .deferred) (c₀::cs) m.w) (lone fr ({ c₀ with mode:=u'' }::cs) w') e/\fr.kind= .deferred/\fr.fn=f/\fr.going P w' e:=by
  intro m2 a2 st hm2 hdef hR todo hs;obtain⟨⟨ks,hd1,_,hd2,hd3⟩,_,_⟩:=hdef;simp only[qaz]at hd1;obtain⟨w',hsh,hs2⟩:=ziM (P:=P) (cs:={ c₀ with mode:=u' }::cs) (s0:=m.w.heap.size) (w0:=m2.w) ks m2.w { b.atR a2 todo with mode:=.returning } (.refl _ _) oC hd1 hd2 hd3;obtain⟨s2,hm3⟩:=hsh.ok hm2 st;obtain⟨c1,c2,_⟩:=zg3 hm3 s2 (k:=m.H.length) hR.1 (by rw[h2.len];exact qag _) hR.2.1;refine⟨.returned (.tuple #[]),u',w',_,⟨⟨_,rfl⟩,hset,_,rfl,c1,c2,hR.2.2⟩,wide (hs.trans hs2),rfl,rfl,rfl,rfl,fn,hf,?_⟩;simp[results,hres]
 obtain⟨m1,env1,te1,rfl,st1,hm1,he1,hd1,hx1,hK1⟩:=hq1;cases te1 with
 | normal=>
   cases e1 <;> simp[zbe]at hx1
   have hK1':TR P fn.ntmps c' env1 m1.H (zwY m.H.length R):=hK1;obtain⟨e2,a2,w2,⟨m2,env2,te2,rfl,st2,hm2,he2,hd2,hx2,hK2⟩,harr2⟩:=hK1' ⟨none,m.w.heap.size,[]⟩ m1 a1 rfl hm1 he1 hd1 b [] ({ c₀ with mode:=u' }::cs) rfl (by simp[b,hf]);have s1:StepsIn (fun _=>True) P (lone (Frame.enter P f vs .deferred) (c₀::cs) m.w) (lone (b.atR a1 [.code c']) ({ c₀ with mode:=u' }::cs) m1.w):=s0.trans harr1';cases te2 with
   | normal=>
     cases e2 <;> simp[zbe]at hx2
     exact fin m2 a2 (st1.trans st2) hm2 hd2 hK2 [] (s1.trans (StepsIn.trans harr2 (.one trivial (stepR_end rfl))))
   | ret=>
     cases e2 <;> simp[zbe]at hx2
     obtain⟨todo,hs⟩:=harr2.1 rfl;exact fin m2 a2 (st1.trans st2) hm2 hd2 hK2 todo (s1.trans hs)
   | exit i=>exact hK2.elim
   | panic v=>exact hK2.elim
 | ret=>
   cases e1 <;> simp[zbe]at hx1
   obtain⟨todo,hs⟩:=harr1'.1 rfl;exact fin m1 a1 st1 hm1 hd1 hK1 todo (s0.trans hs)
 | exit i=>exact hK1.elim
 | panic v=>exact hK1.elim
end Go.TL
