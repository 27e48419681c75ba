import Derived.Lib.SliceRun
import Derived.ProofKit
import Derived.OpenShut
import Derived.Test.YtdicfgideclbdaaGreatDoorAk5
set_option maxHeartbeats 64000000
set_option linter.all false
namespace Go.TL
open Go
variable {xt e ty:TypeId}{x:Operand}{l:List TypeId}{g:Prop}{env0 envF env:Env}{H0 HF H' H:Heap}{id' R sz base d:Nat}{m:M}{ts es ys ds:List T}{p:Place}{ie:TyI}{cs vs:List SV}{v':SV}{f:FuncId}{y:Value}{P:Program}{K:TK}{all:Array Oper}{rest:List Oper}{q:Bool}{aft:Array Edge}
section rules
variable {n:Nat}{tab:Tab}
variable {pos:String}
theorem TO.zll(hT:zas P tab){t:TypeId}{i:TyI}{s:SV}(hd:Nat.ble (d+1) n=true)(hx:env.val x=some (.ifc t s))(ht:tab.get t=some i)(ha:i.k.agg=true)
  (k:TO q P n all rest ((d,.tup [s,.b true])::env) H K):TO q P n all (⟨some d,.typeAssert x xt t true,ty,pos,aft,none⟩::rest) env H K:=
 TO.op hd (fun m ac h1 h2 h3=>by
  have hv:=h3.val hx;generalize hq:ac.eval x=u at hv;cases hv with
  | ifc _ _ y hy=>
    obtain⟨dd,ti,z,g1,g2,g3,g4,g5,g6,g7,g8,g9⟩:=(hT t i ht).ex;refine⟨.tuple #[y,.bool true],fun w' hw'=>?_,?_⟩
    ·cases hk:i.k <;> rw[hk]at ha g3 <;> simp[TK'.agg]at ha <;> cases dd <;> simp[TK'.fits]at g3 <;> simp[execOp,hq,Instr.typeAssert,run_underlying g1]
    ·refine .tup _ _ rfl fun j c z hc hz=>?_
     match j with
     | 0=>simp at hc hz;subst hc hz;exact hy
     | 1=>simp at hc hz;subst hc hz;exact .t _ _ (.v _)
     | j+2=>simp at hc) k
theorem TO.zjl(hT:zas P tab){t:TypeId}{i:TyI}(hd:Nat.ble (d+1) n=true)(hx:env.val x=some (.t (.v .nilIface)))(ht:tab.get t=some i)(ha:i.k.agg=true)
  (k:TO q P n all rest ((d,.tup [.t (.ag i.zero),.b false])::env) H K):TO q P n all (⟨some d,.typeAssert x xt t true,ty,pos,aft,none⟩::rest) env H K:=
 TO.op hd (fun m ac h1 h2 h3=>by
  have hv:=h3.val hx;generalize hq:ac.eval x=u at hv;have hu:=hv.v_eq;subst hu;obtain⟨dd,ti,z,g1,g2,g3,g4,g5,g6,g7,g8,g9⟩:=(hT t i ht).ex;obtain⟨cs,rfl⟩:=g8 ha;obtain⟨z1,z2,z3⟩:=zbY (A:=m.A) (w:=m.w) _ _ g7;refine⟨.tuple #[.agg cs,.bool false],fun w' hw'=>?_,?_⟩
  ·have hz:(zeroValue t).run P w'= .ok (.agg cs) w':=by simp[zeroValue,typeInfo,g2,g6]
   cases hk:i.k <;> rw[hk]at ha g3 <;> simp[TK'.agg]at ha <;> cases dd <;> simp[TK'.fits]at g3 <;> simp[execOp,hq,Instr.typeAssert,run_underlying g1,hz]
  ·refine .tup _ _ rfl fun j c z hc hz=>?_
   match j with
   | 0=>
     simp at hc hz;subst hc hz
     refine .t _ _ (.ag _ _ (by simpa [Value.cells]using z1.symm) (fun i y hy=>z2 i y (by simpa [Value.cells]using hy)) fun i c y hc hy=>z3 i c y hc (by simpa [Value.cells]using hy))
   | 1=>simp at hc hz;subst hc hz;exact .t _ _ (.v _)
   | j+2=>simp at hc) k
end rules
def ziZ(K:TK):TK
 | .panic v,env,H=>K (.panic v) env (List.replicate H.length .dead)
 | e,env,H=>K e env H
section rules
variable {n:Nat}
theorem Post.dead{φ:Fm}{m:M}{e:Exit}{a:Act}{w:World}(h:Post φ m n (ziZ K) e a w):Post φ m n K e a w:=by
 obtain⟨m2,env2,te,rfl,s,hm,he,hd,hx,hk⟩:=h;cases te with
 | normal=>exact⟨m2,env2,.normal,rfl,s,hm,he,hd,hx,hk⟩
 | exit i=>exact⟨m2,env2,.exit i,rfl,s,hm,he,hd,hx,hk⟩
 | ret=>exact⟨m2,env2,.ret,rfl,s,hm,he,hd,hx,hk⟩
 | panic v=>
   obtain⟨s1,hm1⟩:=zrJ hm;refine⟨⟨m2.A,m2.β,m2.H.map fun _=>.dead,m2.w⟩,env2,.panic v,rfl,s.trans s1,hm1,he.step hm s1,hd,?_,?_⟩
   ·cases e with
    | panic ch=>obtain⟨x,x1,x2⟩:=hx;exact⟨x,x1,s1.srel hm x2⟩
    | _=>simp[zbe]at hx
   ·show K (.panic v) env2 (m2.H.map fun _=>Blk.dead);rw[List.map_const'];exact hk
theorem TR.dead{c:Code}(h:TR P n c env H (ziZ K)):TR P n c env H K:=
 fun φ m a h1 h2 h3 h4=>za5 (h φ m a h1 h2 h3 h4) fun _ _ _ hp=>hp.dead
theorem ziZ.errP{tab:Tab}{rs:List ResultVar}{N:Nat}{c:Int}{v pv:SV}{H1:Heap}(hc:c≠0)(hN:N≤H.length)(hu:∀k,pv.under k=true):ziZ (RetK tab rs N (Err0 c v pv H1 N)) (.panic pv) env H:=
 RetK.errP (tab:=tab) (rs:=rs) (N:=N) (env:=env) (H:=List.replicate H.length .dead) hc (by simpa using hN) (hu _) (by rw[qb1];exact zcH _ _)
end rules
theorem TR.zuX{n:Nat}{id:Nat}{l:List Oper}(hm:P.follows .mixedOrders=true)(hB:zvX l.toArray (l.length-1)=true)(hp:(l.take (l.length-1)).all (fun o=>Op.plain o.op)=true)
  (h:TO true P n l.toArray (l.take (l.length-1)) env H (zaQ P n l.toArray (l.drop (l.length-1)) H K)):TR P n (.region id l.toArray true) env H K:=TR.zx9 _ hm hB hp h
def allH(Q:Heap->Prop):List Heap->Prop
 | []=>True
 | H::l=>Q H/\allH Q l
theorem zop{Q:Heap->Prop}:∀ {l:List Heap},allH Q l->∀H∈l,Q H
 | [],_,H,h=>by cases h
 | x::l,h,H,hm=>by
   rcases qa5.1 hm with rfl|hm
   ·exact h.1
   ·exact zop h.2 H hm
def atG(c:Nat)(g:Prop)(i:Nat):Prop:=bif Nat.beq i c then g else True
def zgn(P:Program)(n:Nat)(K:TK)(c:Nat)(g:Prop)(all:Array Oper)(full:Env)(G:List Heap):Nat->List Oper->List (SV×Nat×Nat)->List Heap->Prop
 | _,[],[],_=>True
 | i,o::l,(v,lo,hi)::t,hs=>bif Nat.blt hi lo then(match hs with
    | H1::H2::hs=>(∀env,TO false P n all [o] (zaC full (slotsOf all o)++env) H1 (NKP K (atG c g i) (putE o.dst v (zaC full (slotsOf all o)++env)) H2))/\zgn P n K c g all full G (i+1) l t (H2::hs)
    | _=>False)
   else allH (fun H=>∀env,TO false P n all [o] (zaC full (slotsOf all o)++env) H (NKP K (atG c g i) (putE o.dst v (zaC full (slotsOf all o)++env)) H)) ((G.drop lo).take (hi+1-lo))/\zgn P n K c g all full G (i+1) l t hs
 | _,_,_,_=>False
abbrev efX (x:SV×Nat×Nat):Bool:=Nat.blt x.2.2 x.2.1
def effX(t:List (SV×Nat×Nat))(i:Nat):Nat:=((t.take i).filter efX).length
theorem zgn.get{n:Nat}{K:TK}{c:Nat}{g:Prop}{full:Env}{G:List Heap}:∀ {l:List Oper} {t:List (SV×Nat×Nat)} {hs:List Heap} {k:Nat},zgn P n K c g all full G k l t hs->l.length=t.length/\∀(i:Nat) o x,l[i]?=some o->t[i]?=some x->
   (efX x=false->allH (fun H=>∀env,TO false P n all [o] (zaC full (slotsOf all o)++env) H (NKP K (atG c g (k+i)) (putE o.dst x.1 (zaC full (slotsOf all o)++env)) H)) ((G.drop x.2.1).take (x.2.2+1-x.2.1)))/\
   (efX x=true->∃H1 H2,hs[effX t i]?=some H1/\hs[effX t i+1]?=some H2/\∀env,TO false P n all [o] (zaC full (slotsOf all o)++env) H1 (NKP K (atG c g (k+i)) (putE o.dst x.1 (zaC full (slotsOf all o)++env)) H2))
 | [],[],hs,k,_=>oC
 | o::l,(v,lo,hi)::t,hs,k,h=>by
   simp only[zgn]at h;cases hb:Nat.blt hi lo with
   | false=>
     rw[hb]at h;obtain⟨h1,h2⟩:=h;obtain⟨g1,g2⟩:=zgn.get h2;refine⟨by simp[g1],fun i o' x' ho hv=>?_⟩;cases i with
     | zero=>simp at ho hv;subst hv;subst ho;exact⟨fun _=>h1,fun e=>by rw[show efX (v,lo,hi)=Nat.blt hi lo from rfl,hb]at e;cases e⟩
     | succ i=>
       have:=g2 i o' x' (by simpa using ho) (by simpa using hv)
       have e:effX ((v,lo,hi)::t) (i+1)=effX t i:=by simp[effX,efX,hb]
       rw[e,show k+(i+1)=k+1+i by omega];exact this
   | true=>
     rw[hb]at h
     match hs,h with
     | H1::H2::hs,h=>
       obtain⟨h1,h2⟩:=h;obtain⟨g1,g2⟩:=zgn.get h2;refine⟨by simp[g1],fun i o' x' ho hv=>?_⟩;cases i with
       | zero=>simp at ho hv;subst hv;subst ho;exact⟨fun e=>by(rw[show efX (v,lo,hi)=Nat.blt hi lo from rfl,hb]at e;cases e),fun _=>⟨H1,H2,rfl,rfl,h1⟩⟩
       | succ i=>
         have:=g2 i o' x' (by simpa using ho) (by simpa using hv)
         have e:effX ((v,lo,hi)::t) (i+1)=effX t i+1:=by simp[effX,efX,hb]
         rw[e,show k+(i+1)=k+1+i by omega];simpa using this
     | [],h=>exact h.elim
     | [_],h=>exact h.elim
 | [],_::_,_,_,h=>by exact h.elim
 | _::_,[],_,_,h=>by exact h.elim
def zjN(ops:Array Oper)(t:List (Nat×Nat))(m:Nat):Bool:=
 (List.range t.length).all fun i=>match t[i]? with
   | some x=>Nat.blt x.2 x.1 || (List.range m).all fun c=>!okC ops (t.map fun x=>Nat.blt x.2 x.1) i c || (Nat.ble x.1 c && Nat.ble c x.2)
   | none=>true
theorem TR.zpz(w:List Nat)(c:Nat){n:Nat}{l:List Oper}(t:List (SV×Nat×Nat))(hs:List Heap)(hm:P.follows .mixedOrders=true)(hw:w.all (fun t=>(env0.look t).isSome)=true)
  (hB:(mixW w l.toArray ((t.map (·.2)).map fun x=>Nat.blt x.2 x.1) && zjN l.toArray (t.map (·.2)) hs.length)=true)(h0:hs[0]?=some H0)
  (hp:zgn P n K c g l.toArray (zaC env0 w++zaM l.toArray (t.map (·.1)) env0) hs 0 l t hs)(hc:Nat.blt c l.length=true)(hF:hs[(t.filter efX).length]?=some HF)(hE:za7 (zaM l.toArray (t.map (·.1)) env0)=some envF)(hK:g->K .normal envF HF):
  TR P n (.region id' l.toArray true) env0 H0 K:=by
 obtain⟨g1,g2⟩:=hp.get;rw[qar]at hB;obtain⟨hB,hR⟩:=hB;have hfl:(t.map (·.2)).map (fun x=>Nat.blt x.2 x.1)=t.map efX:=by rw[qa0];rfl
 rw[hfl]at hB
 refine TR.begW w (G:=fun i=>atG c g (0+i)) (vs:=t.map (·.1)) (fl:=t.map efX) (hs:=hs) hm hw hB (by simp[g1]) (by simp[g1]) ?_ ?_ h0 (by rw[qcO,qac];exact hF) (fun hG=>by
   rw[zby hE]at hK
   have:=hG c (qaj hc)
   unfold atG at this;rw[qaV,show Nat.beq c c=true from qbD c]at this;exact hK this)
 all_goals
  intro i o v ho hv hb;obtain⟨x,hx,rfl⟩:∃x,t[i]?=some x/\x.1=v:=by simpa using hv
  rw[qbQ,qan,hx,qaT,qbm]at hb;have h5:=g2 i o x ho hx
 ·intro k H hk hok env;have hil:=(qaa.1 hx).1;have hr:=qaB.1 hR i (by simpa using hil);rw[qan,hx]at hr;simp only[qaT]at hr;rw[show Nat.blt x.2.2 x.2.1=false from hb,qbV]at hr;have hkl:=(qaa.1 hk).1;have hr:=qaB.1 hr k (by simpa using hkl);rw[hfl,hok,qcp,qbV,qar]at hr;have r1:=qaj hr.1;have r2:=qaj hr.2;refine zop (h5.1 hb) H ?_ env;refine qau (i:=k-x.2.1) ?_;rw[qa6,oG oA,qbb,show x.2.1+(k-x.2.1)=k by omega];exact hk
 ·have hef:((t.map efX).take i |>.filter id).length=effX t i:=by
   unfold effX;rw[<-qbB,qcO,qac];rfl
  rw[hef];exact h5.2 hb
theorem TR.znW(c:Nat){n:Nat}{l:List Oper}(t:List (SV×Nat×Nat))(hs:List Heap)(hm:P.follows .mixedOrders=true)
  (hB:(mixB l.toArray ((t.map (·.2)).map fun x=>Nat.blt x.2 x.1) && zjN l.toArray (t.map (·.2)) hs.length)=true)(h0:hs[0]?=some H0)
  (hp:zgn P n K c g l.toArray (zaM l.toArray (t.map (·.1)) env0) hs 0 l t hs)(hc:Nat.blt c l.length=true)(hF:hs[(t.filter efX).length]?=some HF)(hE:za7 (zaM l.toArray (t.map (·.1)) env0)=some envF)(hK:g->K .normal envF HF):
  TR P n (.region id' l.toArray true) env0 H0 K:=TR.zpz [] c t hs hm rfl hB h0 hp hc hF hE hK
def zzs(g:Prop):List Oper->Prop
 | []=>g
 | _::_=>True
def zi0(P:Program)(n:Nat)(K:TK)(g:Prop)(all:Array Oper)(full:Env)(H0:Heap):List Oper->List (SV×Bool)->Prop
 | [],[]=>True
 | o::l,(v,_)::t=>(∀env,TO false P n all [o] (zaC full (slotsOf all o)++env) H0 (NKP K (zzs g l) (putE o.dst v (zaC full (slotsOf all o)++env)) H0))/\zi0 P n K g all full H0 l t
 | _,_=>False
theorem zi0.toX{n:Nat}{K:TK}{g:Prop}{full:Env}{H0:Heap}{c:Nat}:∀ {l:List Oper} {t:List (SV×Bool)} {k:Nat},zi0 P n K g all full H0 l t->c+1=k+l.length->zgn P n K c g all full [H0] k l (t.map fun x=>(x.1,0,0)) [H0]
 | [],[],_,_,_=>trivial
 | [],_::_,_,h,_=>h.elim
 | _::_,[],_,h,_=>h.elim
 | o::l,(v,b)::t,k,h,e=>by
   refine⟨⟨fun env=>?_,trivial⟩,zi0.toX h.2 (by rw[e,qae];omega)⟩
   have hg:atG c g k=zzs g l:=by
    unfold atG;cases l with
    | nil=>rw[show c=k by simpa using e,qbD];rfl
    | cons o' l=>rw[show Nat.beq k c=false by cases h:Nat.beq k c with|false=>rfl|true=>have:=qaY h;simp at e;omega];rfl
   rw[hg];exact h.1 env
theorem TR.zpy(w:List Nat){n:Nat}{l:List Oper}(t:List (SV×Bool))(hm:P.follows .mixedOrders=true)(hw:w.all (fun t=>(env0.look t).isSome)=true)(hB:mixW w l.toArray (t.map (·.2))=true)
  (hp:zi0 P n K g l.toArray (zaC env0 w++zaM l.toArray (t.map (·.1)) env0) H0 l t)(hE:za7 (zaM l.toArray (t.map (·.1)) env0)=some envF)(hne:0<l.length)(hK:g->K .normal envF H0):
  TR P n (.region id' l.toArray true) env0 H0 K:=by
 have e1:(t.map fun x=>(x.1,0,0)).map (·.1)=t.map (·.1):=by rw[qa0];rfl
 have e2:(t.map fun x:SV×Bool=>((x.1,0,0):SV×Nat×Nat)).filter efX=[]:=List.filter_eq_nil_iff.2 fun x hx=>by
  obtain⟨y,_,rfl⟩:=qaL.1 hx;exact fun h=>Bool.noConfusion h
 refine TR.zpz w (l.length-1) (t.map fun x=>(x.1,0,0)) [H0] hm hw ?_ rfl (by rw[e1];exact hp.toX oA) (qcm oA) (by rw[e2];rfl) (by rw[e1];exact hE) hK
 have hn:∀i:Nat,(((t.map fun x:SV×Bool=>((x.1,0,0):SV×Nat×Nat)).map (·.2)).map fun x=>Nat.blt x.2 x.1).getD i false=false:=fun i=>by
  rw[qbQ,qa0,qa0,qan];cases t[i]? <;> rfl
 rw[qar];constructor
 ·unfold mixW at hB⊢;rw[qar,qaB]at hB⊢;refine⟨hB.1,fun i hi=>?_⟩
  have:=hB.2 i hi
  rw[qar]at this⊢;exact⟨this.1,by rw[hn];rfl⟩
 ·unfold zjN;refine qaB.2 fun i hi=>?_
  rw[qa0,qan];cases t[i]? with
  | none=>rfl
  | some x=>
    refine qaB.2 fun c hc=>?_
    have:c=0:=by simpa using hc
    subst this;simp
theorem TR.zkN{n:Nat}{l:List Oper}(t:List (SV×Bool))(hm:P.follows .mixedOrders=true)(hB:mixB l.toArray (t.map (·.2))=true)
  (hp:zi0 P n K g l.toArray (zaM l.toArray (t.map (·.1)) env0) H0 l t)(hE:za7 (zaM l.toArray (t.map (·.1)) env0)=some envF)(hne:0<l.length)(hK:g->K .normal envF H0):
  TR P n (.region id' l.toArray true) env0 H0 K:=TR.zpy [] t hm rfl hB hp hE hne hK
theorem zza(hm:HRel m)(hp:m.β[R]?=some p)(hH:m.H[R]?=some (.row e ts)):
  Step m ⟨m.A,m.β++[p],m.H.set R .dead++[.cells (ts.map .t)],m.w⟩/\HRel ⟨m.A,m.β++[p],m.H.set R .dead++[.cells (ts.map .t)],m.w⟩:=zwD hm hp hH rfl (.inr fun⟨⟨r1,r2,r3⟩,r4,r5⟩=>⟨by simp[r1];exact r2,r4,fun j c hc=>by
  rw[qan]at hc;cases ht:ts[j]? with
  | none=>rw[ht]at hc;cases hc
  | some t=>
    rw[ht]at hc;cases hc
    obtain⟨y,y1,y2,y3⟩:=r5 j t ht;exact⟨y,y1,y2,.t _ _ y3⟩⟩)
section rules
variable {n:Nat}{tab:Tab}
variable {pos:String}
theorem TO.fix(x:Nat){len:Nat}{ops:List Oper}(hx:env.look x=some (.rw R len))(hH:H[R]?=some (.row e ts))(hl:len=ts.length)(hpos:0<ts.length)(hH':H.set R .dead++[.cells (ts.map .t)]=H')
  (k:TO false P n all ops ((x,.ms 1 H.length 0 len)::env) H' K):TO false P n all ops env H K:=by
 intro φ m a h1 h2 h3 h4;obtain⟨y,y1,y2⟩:=h3.2 x _ hx;cases y2 with
 | rw _ _ _ p hp hxs ho=>
   have hH1:m.H[R]?=some (.row e ts):=by rw[h1];exact hH
   obtain⟨s,hm'⟩:=zza h2 hp hH1;have hho:=(ho ts.length (by rw[hH1];rfl)).2 (by rw[hl]);obtain⟨ad,cap,hyq,hc1,hc2,hc3,hc4⟩:=hho
   have hE:ERel ⟨m.A,m.β++[p],m.H.set R .dead++[.cells (ts.map .t)],m.w⟩ n ((x,.ms 1 H.length 0 len)::env) a.tmps:=by
    refine⟨h3.1,fun i v hv=>?_⟩;by_cases hi:x=i
    ·subst hi;rw[Env.zap]at hv;cases hv;refine⟨y,y1,?_⟩;cases ad with
     | none=>simp only at hc4;omega
     | some a0=>
       obtain⟨hc4,hc5⟩:=hc4;subst hyq hc4;have hz:(⟨p.b,0,none⟩:Addr)=⟨p.b,p.lo+0,none⟩:=by rw[hc2]
       rw[hz];refine .ms 1 H.length 0 len cap p ?_ ?_ hc1 oA
       ·show(m.β++[p])[H.length]?=some p;rw[<-h1,<-h2.len,qas (qag _)];simp
       ·intro n' hn
        have:(m.H.set R .dead++[Blk.cells (ts.map .t)])[H.length]?=some (.cells (ts.map .t)):=by
         rw[<-h1,qas oC];simp
        rw[show(M.H ⟨m.A,m.β++[p],m.H.set R .dead++[.cells (ts.map .t)],m.w⟩)[H.length]?=_ from this]at hn;cases hn
    ·rw[Env.zah _ _ hi]at hv;exact(h3.step h2 s).2 i v hv
   exact TO.zfF (m':=⟨m.A,m.β++[p],m.H.set R .dead++[.cells (ts.map .t)],m.w⟩) s (k φ ⟨m.A,m.β++[p],m.H.set R .dead++[.cells (ts.map .t)],m.w⟩ a (by show m.H.set R .dead++_=H';rw[h1];exact hH') hm' hE (h4.step h2 s))
theorem TO.effV{op:Op}
  (h:∀(m:M) (a:Act),m.H=H->HRel m->ERel m n env a.tmps->∃x m',(execOp a.eval ⟨none,op,ty,pos,aft,none⟩).run P m.w= .ok (.value x) m'.w/\Step m m'/\HRel m'/\m'.H=H')
  (k:TO false P n all rest env H' K):TO false P n all (⟨none,op,ty,pos,aft,none⟩::rest) env H K:=by
 intro φ m a h1 h2 h3 h4;obtain⟨x,m',hx,s,hm',hH'⟩:=h m a h1 h2 h3;refine wpListIn_plain rfl fun K' hK=>?_
 unfold Oper.wpIn;refine⟨fun _ _=>trivial,?_⟩;rw[za9 hx (by intro d e;cases e)];simp only[Oper.uponIn];exact hK _ _ (TO.zfF s (k φ m' _ hH' hm' (by simpa [Act.put]using h3.step h2 s) (by simpa [Act.put]using h4.step h2 s)))
theorem TO.zyY(hT:zas P tab){t:TypeId}{i:TyI}{z:T}{id off len:Nat}(ht:tab.get t=some i)(hk:i.k= .slice e)(he:tab.get e=some ie)(hz:ie.zero=[z])(hag:ie.k.agg=false)
  (hx:env.val x=some (.ms 1 id off len))(hH:H[id]?=some (.cells cs))(hpos:0<len)(hl:off+len≤cs.length)(hH':H.set id (.cells (splice cs off (List.replicate len (.t z))))=H')
  (k:TO false P n all rest env H' K):TO false P n all (⟨none,.call { callee:=.builtin .clear,args:=#[x],argTypes:=#[t] },ty,pos,aft,none⟩::rest) env H K:=
 TO.effV (fun m ac h1 h2 h3=>by
  obtain⟨zz,hz1,hz2,_,hz4⟩:=(hT e ie he).zero;obtain⟨g1,g0,g2⟩:=zbY (A:=m.A) (w:=m.w) _ _ hz2
  have hzz:zz.cells= #[zz]:=by
   exact zwfk
  have h:=h3.val hx;generalize hq:ac.eval x=u at h;cases h with
  | ms _ _ _ _ cap p hp hn hc hh=>
    have hH1:m.H[id]?=some (.cells cs):=by rw[h1];exact hH
    obtain⟨b1,b2,b3⟩:=h2.blk id p _ hp hH1;have hzr:TRel m.A m.w z zz:=g2 0 z zz (by rw[hz];rfl) (by rw[hzz];rfl)
    obtain⟨s,hm'⟩:=ziU h2 (off:=off) (vs:=List.replicate len (.t z)) (ys:=List.replicate len zz) hp hH1 (by simpa using hl) (by simpa using hpos) oC (fun u hu=>by rw[List.eq_of_mem_replicate hu];exact hz4 hag)
     (fun j c y hc hy=>by
       rw[List.getElem?_replicate]at hc hy;split at hc
       ·rename_i hj;rw[oG hj]at hy;cases hc;cases hy
        exact .t _ _ hzr
       ·cases hc)
    refine⟨.tuple #[],_,?_,s,hm',by rw[h1];exact hH'⟩;have hun:=(hT t i ht).slice hk;have hrun:=Go.Lib.run_clear_slice (P:=P) m.w t e ty zz hun (fun w=>hz1 w) hzz (hz4 hag) p.b (p.lo+off) len cap hpos (fun j hj=>(b2 _ oA oA).1) (fun j hj=>(b2 _ oA oA).2);simp[execOp,resolve,invoke,hq,builtin,hrun]) k
theorem TO.zqW(hT:zas P tab){t:TypeId}{i:TyI}{z:Operand}{id off len b:Nat}{ik:IntKind}(hd:Nat.ble (d+1) n=true)(ht:tab.get t=some i)(hk:i.k= .slice e)(he:tab.get e=some ie)(hsz:ie.size=sz)
  (hx:env.val x=some (.ms sz id off len))(hz:env.val z=some (.t (.v (.int ik (b:Int)))))(h2:b<len)
  (k:TO q P n all rest ((d,.ms sz id (off+b*sz) (len-b))::env) H K):TO q P n all (⟨some d,.slice t x (some z) none none,ty,pos,aft,none⟩::rest) env H K:=
 TO.op hd (fun m ac g1 g2 g3=>by
  have h:=g3.val hx;generalize hq:ac.eval x=v at h;cases h with
  | ms _ _ _ _ cap p hp hn hc hh=>
    refine⟨.slice (some ⟨p.b,p.lo+(off+b*sz),none⟩) (len-b) (cap-b),fun w' hw'=>?_,.ms sz id (off+b*sz) (len-b) (cap-b) p hp hn oA ?_⟩
    ·have:=zdy (P:=P) hT ht hk he (some ⟨p.b,p.lo+off,none⟩) len cap (some (ac.eval z)) none b len w' (.inr ⟨ik,by rw[(g3.val hz).v_eq]⟩) (.inl ⟨rfl,rfl⟩) oA oA
     rw[oH oA,hsz]at this;simp only[qaT,zbh,qa1]at this;simp[execOp,hq,this]
    ·have:b*sz+(cap-b)*sz=cap*sz:=by rw[<-qa3];congr 1;omega
     omega) k
theorem TO.zr9{ops:List Oper}(i sz id len:Nat)(hi:env.look i=some (.ms sz id 0 len))(hH:H[id]?=some (.cells cs))(hcl:es.length*sz≤cs.length)(hcs:∀(j:Nat) c,((es.map T.cells).flatten.map SV.t)[j]?=some c->cs[j]?=some c)(hlen:len=es.length)(hsz:∀e∈es,e.cells.length=sz)
  (hpos:Nat.ble 1 sz=true)(hH':H.set id .dead=H')(k:TO false P n all ops ((i,.t (.sl sz es))::env) H' K):TO false P n all ops env H K:=by
 intro φ m a h1 h2 h3 h4;obtain⟨x,hx1,hx2⟩:=h3.2 i _ hi;obtain⟨m',e1,e2,_,s,hm',hr⟩:=frz h2 hx2 (by rw[h1];exact hH) hcl hcs hlen hsz hpos;rw[<-e1];exact TO.zfF s (k φ m' a (by rw[e2,h1];exact hH') hm' (zsa h3 h2 s hx1 hr) (h4.step h2 s))
end rules
section rules
variable {n:Nat}{tab:Tab}
variable {pos:String}
theorem TR.less{c:Code}(i:Nat){v:SV}(hi:env.look i=some v)(hl:Le v v')(k:TR P n c ((i,v')::env) H K):TR P n c env H K:=by
 exact zwo
theorem TO.zzX(x sz:Nat){ops:List Oper}(hx:env.look x=some (.rw R 0))(hH:H[R]?=some (.row e []))
  (k:TO q P n all ops ((x,.t (.sl sz []))::env) H K):TO q P n all ops env H K:=by
 intro φ m a h1 h2 h3 h4;refine k φ m a h1 h2 ⟨h3.1,fun i v hv=>?_⟩ h4;by_cases hi:x=i
 ·subst hi;rw[Env.zap]at hv;cases hv;obtain⟨y,y1,y2⟩:=h3.2 x _ hx;refine⟨y,y1,?_⟩;cases y2 with
  | rw _ _ _ p hp hxs ho=>
    have hH1:m.H[R]?=some (.row e []):=by rw[h1];exact hH
    obtain⟨ad,cap,rfl,hc1,hc2,hc3,hc4⟩:=(ho 0 (by rw[hH1];rfl)).2 rfl;cases ad with
    | none=>
      simp only at hc4;subst hc4;exact .t _ _ (.nil sz)
    | some a0=>
      obtain⟨rfl,_⟩:=hc4;exact .t _ _ (.sl sz [] p.b 0 cap (fun _=>undef) (qaM _) (fun i e h=>by simp at h) (fun i j h=>by simp at h) (fun i j h=>by simp at h) (fun i j h=>by simp at h) (fun i e j c h=>by simp at h))
 ·rw[Env.zah _ _ hi]at hv;exact h3.2 i v hv
theorem TO.less(i:Nat){ops:List Oper}{v:SV}(hi:env.look i=some v)(hl:Le v v')(k:TO q P n all ops ((i,v')::env) H K):TO q P n all ops env H K:=by
 exact zwo
theorem TO.shadow{ops:List Oper}{v x:SV}(k:TO q P n all ops ((d,v)::env) H K):TO q P n all ops ((d,v)::(d,x)::env) H K:=by
 intro φ m a h1 h2 h3 h4;refine k φ m a h1 h2 ⟨h3.1,fun j w hw=>h3.2 j w ?_⟩ h4;by_cases hj:d=j
 ·subst hj;rw[Env.zap]at hw⊢;exact hw
 ·rw[Env.zah _ _ hj]at hw;rw[Env.zah _ _ hj,Env.zah _ _ hj];exact hw
theorem zlS(hm:HRel m):Step m ⟨m.A,m.β++[⟨0,0,0⟩],m.H++[.dead],m.w⟩/\HRel ⟨m.A,m.β++[⟨0,0,0⟩],m.H++[.dead],m.w⟩:=by
 have hlen:=hm.len;refine zx8 hm (fun i=>i) (by simp[hlen]) (fun i q hq=>?_) (fun i q c h1 h2 hl=>?_) fun i j c l _ _ _ _ h=>h
 ·have hi:=(qaa.1 hq).1;rw[qat hi,qat (by rw[<-hlen];exact hi)];exact⟨hq,zaZ.refl _ _⟩
 ·by_cases hi:i<m.H.length
  ·rw[qat (by rw[hlen];exact hi)]at h1;rw[qat hi]at h2;exact⟨c,h1,h2,hl,.inl rfl⟩
  ·rw[qas oA]at h2;cases hj:i-m.H.length with
   | zero=>rw[hj]at h2;cases h2;cases hl
   | succ j=>rw[hj]at h2;cases h2
theorem TO.zw4{ops:List Oper}(k:TO false P n all ops env (H++[.dead]) K):TO false P n all ops env H K:=Mv.to (fun m h2 h1=>by
 obtain⟨s,hm'⟩:=zlS h2;exact⟨⟨m.A,m.β++[⟨0,0,0⟩],m.H++[.dead],m.w⟩,rfl,by rw[<-h1],s,hm'⟩) k
theorem TO.zxe{H1:Heap}{cargs:List SV}{v:SV}{f:Operand}{fid:FuncId}{caps:List SV}{args:Array Operand}{ts:Array TypeId}(hs:Sound P fid cargs H fun r H'=>r= .ret v/\H'=H1)(hd:Nat.ble (d+1) n=true)
  (hf:env.val f=some (.fn fid caps))(ha:env.vals args.toList=some vs)(hl:Les (vs++caps) cargs)(k:TO false P n all rest ((d,v)::env) H1 K):
  TO false P n all (⟨some d,.call { callee:=.value f,args:=args,argTypes:=ts },ty,pos,aft,none⟩::rest) env H K:=
 TO.zfs hs hd hf ha hl (fun u H' h=>by obtain⟨h,rfl⟩:=h;cases h;exact k) (fun u H' h=>by cases h.1)
end rules
section
variable {Hh:Type}{enc:TypeId×Value->Hh}
def aggB(P:Program)(t:TypeId):Bool:=
 match P.underlying t with
 | some (.struct _)=>true
 | _=>false
def zb6(P:Program)(l:List TypeId):Bool:=l.all fun t=>match P.underlying t with
 | some .bool|some (.int _)|some .string=>P.cellsOf t == 1
 | some (.slice e)=>P.cellsOf t == 1 && l.contains e && Nat.blt 0 (P.cellsOf e)
 | some (.struct fs)=>fs.toList.all fun f=>l.contains f.type
 | _=>false
def mkT(agg:Bool)(ts:List T):T:=bif agg then .ag ts else ts.headD (.v undef)
def TyD(P:Program):Nat->TypeId->DataW Hh->List T->Prop
 | 0,_,_,_=>False
 | n+1,t,d,ts=>match P.underlying t with
   | some .bool=>∃b,d= .lit (.bool b)/\ts=[.v (.bool b)]
   | some (.int k)=>∃i,d= .lit (.int k i)/\ts=[.v (.int k i)]/\(Lit.int k i).wf=true
   | some .string=>∃l:List UInt8,d= .lit (.string l)/\ts=[.v (str l)]/\l.length≤maxLen
   | some (.slice e)=>∃(els sp:List (DataW Hh)) (es:List T),((d= .nil/\els=[])\/d= .slice els sp)/\ts=[.sl (P.cellsOf e) es]/\es.length=els.length/\es.length≤maxLen/\
      ∀(i:Nat) x y,els[i]?=some x->es[i]?=some y->y=mkT (aggB P e) y.cells/\TyD P n e x y.cells
   | some (.struct fs)=>∃xs:List (DataW Hh),d= .agg xs/\ts.length=P.cellsOf t/\xs.length=fs.size/\∀(i:Nat) f x,fs[i]?=some f->xs[i]?=some x->TyD P n f.type x ((ts.drop f.offset).take (P.cellsOf f.type))
   | _=>False
theorem zcB(hl:zb6 P l=true){t:TypeId}(ht:t∈l)(ha:aggB P t=false):P.cellsOf t=1:=by
 have:=qaB.1 hl t ht
 unfold aggB at ha;split at this <;> simp_all
theorem zxg{w:World}{b o:Nat}(h:w.cell? ⟨b,o,none⟩=some y):b<w.heap.size:=by
 unfold World.cell? at h;cases hq:w.heap[b]? with
 | none=>rw[hq]at h;cases h
 | some ob=>exact(qam.1 hq).1
theorem zh9{A:Foot}{w:World}{n:Nat}{cs:List Value}:∀(gs:List Field) (xs:List (DataW Hh)) (o:Nat),(∀(j:Nat) g,gs[j]?=some g->g.offset=o+((gs.take j).map fun f=>P.cellsOf f.type).sum)->o+(gs.map fun f=>P.cellsOf f.type).sum≤cs.length->
  xs.length=gs.length->(∀(j:Nat) g x,gs[j]?=some g->xs[j]?=some x->∃ts:List T,ts.length=((cs.drop g.offset).take (P.cellsOf g.type)).length/\(∀(i:Nat) c y,ts[i]?=some c->((cs.drop g.offset).take (P.cellsOf g.type))[i]?=some y->TRel A w c y)/\TyD P n g.type x ts)->
  ∃ts:List T,ts.length=(gs.map fun f=>P.cellsOf f.type).sum/\(∀(i:Nat) c y,ts[i]?=some c->cs[o+i]?=some y->TRel A w c y)/\(∀(j:Nat) g x,gs[j]?=some g->xs[j]?=some x->TyD P n g.type x ((ts.drop (g.offset-o)).take (P.cellsOf g.type)))
 | [],xs,o,_,_,hx,_=>⟨[],rfl,oC,oC⟩
 | g::gs,xs,o,ho,hl,hx,hf=>by
   cases xs with
   | nil=>simp at hx
   | cons x xs=>
     have h0:g.offset=o:=by simpa using ho 0 g rfl
     simp only[qaf,qaG]at hl;obtain⟨t0,a1,a2,a3⟩:=hf 0 g x rfl rfl;have a1':t0.length=P.cellsOf g.type:=by rw[a1,h0];simp;omega
     obtain⟨ts,b1,b2,b3⟩:=zh9 gs xs (o+P.cellsOf g.type) (fun j f hj=>by
      have:=ho (j+1) f (by simpa using hj)
      simp only[qaO,qaf,qaG]at this;omega) oA (by simpa using hx) (fun j f y hj hy=>hf (j+1) f y (by simpa using hj) (by simpa using hy))
     refine⟨t0++ts,by simp[a1',b1],fun i c y hc hy=>?_,fun j f y hj hy=>?_⟩
     ·by_cases hi:i<t0.length
      ·rw[qat hi]at hc;refine a2 i c y hc ?_;rw[qa6,oG oA,qbb,h0];exact hy
      ·rw[qas oA]at hc;refine b2 _ c y hc ?_;rw[show o+P.cellsOf g.type+(i-t0.length)=o+i from oA];exact hy
     ·cases j with
      | zero=>
        simp at hj hy;subst hj;subst hy
        rw[h0,qb6,qbj,<-a1',qcB];exact a3
      | succ j=>
        have hj':gs[j]?=some f:=by simpa using hj
        have:=ho (j+1) f hj
        simp only[qaO,qaf,qaG]at this
        have hd:(t0++ts).drop (f.offset-o)=ts.drop (f.offset-(o+P.cellsOf g.type)):=by
         rw[show f.offset-o=t0.length+(f.offset-(o+P.cellsOf g.type)) from oA,qcI,qbO oA,qaP,Nat.add_sub_cancel_left]
        rw[hd];exact b3 j f y hj' (by simpa using hy)
theorem zoS:∀(gs:List Field) (o i:Nat),(∀(j:Nat) g,gs[j]?=some g->g.offset=o+((gs.take j).map fun f=>P.cellsOf f.type).sum)->o≤i->i<o+(gs.map fun f=>P.cellsOf f.type).sum->∃(j:Nat) (g:Field),gs[j]?=some g/\g.offset≤i/\i<g.offset+P.cellsOf g.type
 | [],o,i,_,h1,h2=>by simp at h2;omega
 | g::gs,o,i,ho,h1,h2=>by
   have h0:g.offset=o:=by simpa using ho 0 g rfl
   simp only[qaf,qaG]at h2;by_cases hi:i<o+P.cellsOf g.type
   ·exact⟨0,g,rfl,oA,oA⟩
   ·obtain⟨j,f,hj,h3⟩:=zoS gs (o+P.cellsOf g.type) i (fun j f hj=>by
     have:=ho (j+1) f (by simpa using hj)
     simp only[qaO,qaf,qaG]at this;omega) oA oA
    exact⟨j+1,f,by simpa using hj,h3⟩
theorem zqN{w:World}{held:Bool}(hl:zb6 P l=true)(hK:∀t∈l,∀fs:Array Field,P.underlying t=some (.struct fs)->P.cellsOf t=(fs.toList.map fun f=>P.cellsOf f.type).sum/\∀(j:Nat) f,fs.toList[j]?=some f->f.offset=((fs.toList.take j).map fun f=>P.cellsOf f.type).sum):∀(n:Nat) (t:TypeId) (cs:List Value) (d:DataW Hh) (ps:List MemPlace),t∈l->DataW.trod enc P w base (fun _=>true) held n t cs=some (d,ps)->
  ∃ts:List T,ts.length=cs.length/\(∀(i:Nat) x,cs[i]?=some x->x.oneCell'=true)/\(∀(i:Nat) c x,ts[i]?=some c->cs[i]?=some x->TRel (fun b _=>b<w.heap.size) w c x)/\TyD P n t d ts:=by
 intro n
 induction n with
 | zero=>intro t cs d ps ht h;simp[DataW.trod]at h
 | succ n ih=>
   intro t cs d ps ht h;have hp:=qaB.1 hl t ht
   have one:∀(x:Value) (c:T),x.oneCell'=true->TRel (fun b _=>b<w.heap.size) w c x->(∀(i:Nat) y,[x][i]?=some y->y.oneCell'=true)/\(∀(i:Nat) c' y,[c][i]?=some c'->[x][i]?=some y->TRel (fun b _=>b<w.heap.size) w c' y):=by
    intro x c hx hr;refine⟨fun i y hy=>?_,fun i c' y hc hy=>?_⟩
    ·cases i with
     | zero=>simp at hy;subst hy;exact hx
     | succ i=>simp at hy
    ·cases i with
     | zero=>simp at hy hc;subst hy;subst hc;exact hr
     | succ i=>simp at hy
   cases hu:P.underlying t with
   | none=>rw[hu]at hp;cases hp
   | some td=>
     rw[hu]at hp;cases td with
     | bool=>
       obtain⟨b,rfl,hx⟩:=DataW.trod_bool hu h;cases hx;obtain⟨o1,o2⟩:=one (.bool b) (.v (.bool b)) rfl (.v _);exact⟨[.v (.bool b)],rfl,o1,o2,by simp only[TyD,hu];exact⟨b,rfl,rfl⟩⟩
     | int k=>
       obtain⟨i,rfl,hx,hwf⟩:=DataW.trod_int hu h;cases hx;obtain⟨o1,o2⟩:=one (.int k i) (.v (.int k i)) rfl (.v _);exact⟨[.v (.int k i)],rfl,o1,o2,by simp only[TyD,hu];exact⟨i,rfl,rfl,hwf⟩⟩
     | string=>
       obtain⟨s,rfl,hx,hlen⟩:=DataW.trod_string hu h;cases hx;obtain⟨a⟩:=s;obtain⟨o1,o2⟩:=one (.string ⟨a⟩) (.v (str a.toList)) rfl (.v _);exact⟨[.v (str a.toList)],rfl,o1,o2,by simp only[TyD,hu];exact⟨a.toList,rfl,rfl,hlen⟩⟩
     | slice e=>
       simp only[qar,qbZ,beq_iff_eq]at hp;obtain⟨⟨_,he⟩,hpos⟩:=hp;have hpos':0<P.cellsOf e:=by simpa [qbn]using hpos
       rcases DataW.trod_slice hu h with ⟨rfl,hx⟩|⟨a,len,cap,elems,rest,n',hn,rfl,hx,hb,hlc,hcm,hel,hat,hsp,_⟩
       ·cases hx;obtain⟨o1,o2⟩:=one (.slice none 0 0) (.sl (P.cellsOf e) []) rfl (.nil _);exact⟨[.sl (P.cellsOf e) []],rfl,o1,o2,by simp only[TyD,hu];exact⟨[],[],[],oC,rfl,rfl,qaM _,oC⟩⟩
       ·cases hn;cases hx
        have hev:∀i,i<len->∃(cs':List Value) (x:DataW Hh×List MemPlace) (ts:List T),w.cells? base (a.add (i*P.cellsOf e)) (P.cellsOf e)=some cs'/\elems[i]?=some x/\ts.length=cs'.length/\(∀(j:Nat) y,cs'[j]?=some y->y.oneCell'=true)/\
          (∀(j:Nat) c y,ts[j]?=some c->cs'[j]?=some y->TRel (fun b _=>b<w.heap.size) w c y)/\TyD P n e x.1 ts:=by
         intro i hi;have hx:elems[i]?=some (elems[i]' oA):=qad _
         have:=hat i hi
         rw[hx,qao]at this;obtain⟨cs',h1,h2⟩:=this;obtain⟨ts,g1,g2,g3,g4⟩:=ih e cs' _ _ he h2;exact⟨cs',_,ts,h1,hx,g1,g2,g3,g4⟩
        have hspot:0<cap->a.spot=none:=by
         intro hc
         have key:∃i cs',i<cap/\i=0/\w.cells? base (a.add (i*P.cellsOf e)) (P.cellsOf e)=some cs':=by
          by_cases hl0:0<len
          ·obtain⟨cs',_,_,h1,_⟩:=hev 0 hl0;exact⟨0,cs',hc,rfl,h1⟩
          ·have hlen:len=0:=oA
           obtain⟨h1,h2⟩:=hsp rfl;have hr:rest[0]?=some (rest[0]' oA):=qad _
           have:=h2 0 oA
           rw[hr,qao]at this;obtain⟨cs',h3,_⟩:=this;exact⟨0,cs',hc,rfl,by rw[hlen]at h3;simpa using h3⟩
         obtain⟨i,cs',_,rfl,h1⟩:=key;obtain⟨_,_,h3⟩:=World.cells?_some h1;obtain⟨_,h4,_⟩:=World.cells?_some h1;have h5:=h3 0 hpos';have h6:cs'[0]?=some (cs'[0]' oA):=qad _;rw[h6]at h5;simp only[qcy,Addr.add,if_true]at h5;unfold World.cell? at h5;split at h5
         ·split at h5
          ·cases h5
          ·rename_i hs;simpa using hs
         ·cases h5
        by_cases hcap0:cap=0
        ·subst hcap0;have hl0:len=0:=oA
         subst hl0;have he0:elems=[]:=qaF hel;subst he0;obtain⟨o1,o2⟩:=one (.slice (some a) 0 0) (.sl (P.cellsOf e) []) rfl (.empty _ _);exact⟨[.sl (P.cellsOf e) []],rfl,o1,o2,by simp only[TyD,hu];exact⟨[],_,[],.inr rfl,rfl,rfl,qaM _,oC⟩⟩
        obtain⟨ab,ao,asp⟩:=a;have has:=hspot oA;simp only at has;subst has
        have hex:∀i,∃ts:List T,i<len->∃(cs':List Value) (x:DataW Hh×List MemPlace),w.cells? base ((⟨ab,ao,none⟩:Addr).add (i*P.cellsOf e)) (P.cellsOf e)=some cs'/\elems[i]?=some x/\ts.length=cs'.length/\(∀(j:Nat) y,cs'[j]?=some y->y.oneCell'=true)/\
          (∀(j:Nat) c y,ts[j]?=some c->cs'[j]?=some y->TRel (fun b _=>b<w.heap.size) w c y)/\TyD P n e x.1 ts:=by
         intro i;by_cases hi:i<len
         ·obtain⟨cs',x,ts,h⟩:=hev i hi;exact⟨ts,fun _=>⟨cs',x,h⟩⟩
         ·exact⟨[],fun h=>oI h hi⟩
        obtain⟨f,hf⟩:=qby hex
        have hfl:∀i,i<len->(f i).length=P.cellsOf e:=by
         intro i hi;obtain⟨cs',x,h1,h2,h3,_⟩:=hf i hi;obtain⟨_,h4,_⟩:=World.cells?_some h1;omega
        have hmk:∀i,i<len->(mkT (aggB P e) (f i)).cells=f i:=by
         intro i hi;unfold mkT;cases ha:aggB P e with
         | true=>rfl
         | false=>
           have h1:=hfl i hi;rw[zcB hl he ha]at h1
           match hfi:f i,h1 with
           | [c],_=>
             obtain⟨cs',x,g1,g2,g3,g4,g5,g6⟩:=hf i hi;rw[hfi]at g6
             have:∀l,c≠ .ag l:=by
              intro l hc;subst hc;cases n with
              | zero=>exact g6
              | succ n=>
                have hpe:=qaB.1 hl e he;unfold aggB at ha;simp only[TyD]at g6;split at g6 <;> simp_all
             cases c with
             | ag l=>exact oI rfl (this l)
             | _=>rfl
        have hcell:∀i j,i<len->j<P.cellsOf e->∃y,w.cell? ⟨ab,ao+(i*P.cellsOf e+j),none⟩=some y/\y.oneCell'=true/\∀c,(f i)[j]?=some c->TRel (fun b _=>b<w.heap.size) w c y:=by
         intro i j hi hj;obtain⟨cs',x,g1,g2,g3,g4,g5,g6⟩:=hf i hi;obtain⟨_,h4,h5⟩:=World.cells?_some g1;have h6:=h5 j hj;have h7:cs'[j]?=some (cs'[j]' oA):=qad _;rw[h7,zbh,zbh,qa1]at h6;exact⟨_,h6,g4 j _ h7,fun c hc=>g5 j c _ hc h7⟩
        obtain⟨es,hes⟩:∃es:List T,es=(List.range len).map fun i=>mkT (aggB P e) (f i):=⟨_,rfl⟩
        have hesl:es.length=len:=by rw[hes];simp
        have heg:∀(i:Nat) y,es[i]?=some y->i<len/\y=mkT (aggB P e) (f i):=by
         intro i y hy;have hi:=(qaa.1 hy).1;rw[hesl]at hi;refine⟨hi,?_⟩;rw[hes]at hy;simp[hi]at hy;exact hy.symm
        have hrel:TRel (fun b _=>b<w.heap.size) w (.sl (P.cellsOf e) es) (.slice (some ⟨ab,ao,none⟩) es.length cap):=by
         have dm:∀i j,j<P.cellsOf e->(i*P.cellsOf e+j) / P.cellsOf e=i/\(i*P.cellsOf e+j) % P.cellsOf e=j:=fun i j hj=>by
          rw[qcx];exact⟨by rw[Nat.mul_add_div hpos',Nat.div_eq_of_lt hj];rfl,by rw[Nat.mul_add_mod,Nat.mod_eq_of_lt hj]⟩
         refine .sl _ es ab ao cap (fun q=>(w.cell? ⟨ab,ao+q,none⟩).getD undef) oA (fun i y hy=>?_) (fun i j hi hj=>?_) (fun i j hi hj=>?_) (fun i j hi hj=>?_) (fun i y j c hy hc=>?_)
         ·obtain⟨hi,rfl⟩:=heg i y hy;rw[hmk i hi,hfl i hi]
         ·obtain⟨y,h1,_⟩:=hcell i j oA hj;exact zxg h1
         ·obtain⟨y,h1,_⟩:=hcell i j oA hj;rw[h1];rfl
         ·obtain⟨y,h1,h2,_⟩:=hcell i j oA hj;simp only[h1];exact h2
         ·obtain⟨hi,rfl⟩:=heg i y hy;rw[hmk i hi]at hc;have hj:j<P.cellsOf e:=by rw[<-hfl i hi];exact(qaa.1 hc).1
          obtain⟨y,h1,h2,h3⟩:=hcell i j hi hj;simp only[h1];exact h3 c hc
        rw[hesl]at hrel;obtain⟨o1,o2⟩:=one (.slice (some ⟨ab,ao,none⟩) len cap) (.sl (P.cellsOf e) es) rfl hrel;refine⟨[.sl (P.cellsOf e) es],rfl,o1,o2,?_⟩;simp only[TyD,hu];refine⟨elems.map (·.1),rest.map (·.1),es,.inr rfl,rfl,by rw[hesl,qac,hel],oA,fun i x y hx hy=>?_⟩;obtain⟨hi,rfl⟩:=heg i y hy;rw[hmk i hi];refine⟨rfl,?_⟩;obtain⟨cs',x',g1,g2,g3,g4,g5,g6⟩:=hf i hi;rw[qan,g2]at hx;cases hx;exact g6
     | struct fs=>
       obtain⟨xs,n',hn,hx,hlen,hxl,hat⟩:=DataW.trod_struct hu h;cases hn;cases hx
       have hpf:∀f∈fs.toList,f.type∈l:=by
        intro f hf;simpa using qaB.1 hp f hf
       obtain⟨hk1,hk2⟩:=hK t ht fs hu
       have hfield:∀(j:Nat) g,fs.toList[j]?=some g->∃x,xs[j]?=some x/\DataW.trod enc P w base (fun _=>true) held n g.type ((cs.drop g.offset).take (P.cellsOf g.type))=some x:=by
        intro j g hg;have hj:=(qaa.1 hg).1;have hx:xs[j]?=some (xs[j]'(by simp at hj;omega)):=qad _;exact⟨_,hx,by rw[hat j g (by simpa using hg),hx]⟩
       obtain⟨ts,g1,g2,g3⟩:=zh9 (A:=fun b _=>b<w.heap.size) (w:=w) (n:=n) (cs:=cs) (P:=P) fs.toList (xs.map (·.1)) 0 (fun j g hg=>by rw[qaV];exact hk2 j g hg) oA (by simpa using hxl) (fun j g x hg hx=>by
        obtain⟨x',h1,h2⟩:=hfield j g hg;rw[qan,h1]at hx;cases hx;obtain⟨ts,e1,e2,e3,e4⟩:=ih g.type _ x'.1 x'.2 (hpf g (qau hg)) h2;exact⟨ts,e1,e3,e4⟩)
       refine⟨ts,oA,fun i x hi=>?_,fun i c x hc hx=>g2 i c x hc (by rw[qaV];exact hx),?_⟩
       ·obtain⟨j,g,hj,hoi,hoi2⟩:=zoS (P:=P) fs.toList 0 i (fun j g hg=>by rw[qaV];exact hk2 j g hg) (qaM _) (by have:=(qaa.1 hi).1;omega);obtain⟨x',h1,h2⟩:=hfield j g hj;obtain⟨ts',e1,e2,e3,e4⟩:=ih g.type _ x'.1 x'.2 (hpf g (qau hj)) h2;refine e2 (i-g.offset) x ?_;rw[qa6,oG oA,qbb,show g.offset+(i-g.offset)=i from oA];exact hi
       ·simp only[TyD,hu];refine⟨xs.map (·.1),rfl,oA,by rw[qac];exact hxl,fun i f x hf hx=>?_⟩
        have:=g3 i f x (by simpa using hf) hx
        simpa using this
     | _=>cases hp
def Fits(P:Program):List TypeId->List (DataW Hh)->List T->Prop
 | [],[],[]=>True
 | t::ts,d::ds,y::ys=>(y=mkT (aggB P t) y.cells/\∃n,TyD P n t d y.cells)/\Fits P ts ds ys
 | _,_,_=>False
theorem zqK{w:World}{r:Reach}{t:TypeId}{v:Value}(h:Value.okWide P w r base t v)(hl:zb6 P l=true)(ht:t∈l)(ha:aggB P t=false):v.cells= #[v]:=by
 have:=qaB.1 hl t ht
 unfold aggB at ha;unfold Value.okWide at h;split at this <;> simp_all
 all_goals
  rename_i hu;cases v <;> first|rfl|(simp[Cell.okWide,Cell.ok,hu]at h)
theorem ztK(hl:zb6 P l=true){n:Nat}{t:TypeId}{d:DataW Hh}(ht:t∈l)(h:TyD P n t d ts)(hlen:ts.length=P.cellsOf t):(mkT (aggB P t) ts).cells=ts:=by
 unfold mkT;cases ha:aggB P t with
 | true=>rfl
 | false=>
   rw[zcB hl ht ha]at hlen
   match ts,hlen with
   | [c],_=>
     have:∀l,c≠ .ag l:=by
      intro l hc;subst hc;cases n with
      | zero=>exact h
      | succ n=>
        have hpe:=qaB.1 hl t ht;unfold aggB at ha;simp only[TyD]at h;split at h <;> simp_all
     cases c with
     | ag l=>exact oI rfl (this l)
     | _=>rfl
theorem zlk{w:World}{base:Nat}{l:List TypeId}(hl:zb6 P l=true)(hK:∀t∈l,∀fs:Array Field,P.underlying t=some (.struct fs)->P.cellsOf t=(fs.toList.map fun f=>P.cellsOf f.type).sum/\∀(j:Nat) f,fs.toList[j]?=some f->f.offset=((fs.toList.take j).map fun f=>P.cellsOf f.type).sum):
  ∀(ts:List TypeId) (vs:List Value) (ds:List (DataW Hh)) (ps:List MemPlace),(∀t∈ts,t∈l)->DataW.TrodAll enc P w 0 (fun _=>true) true ts vs ds ps->(∀(j:Nat) t v,ts[j]?=some t->vs[j]?=some v->Value.okWide P w .any base t v)->
  ∃ys:List T,Fits P ts ds ys/\ys.length=vs.length/\∀(i:Nat) y x,ys[i]?=some y->vs[i]?=some x->TRel (fun b _=>b<w.heap.size) w y x
 | [],vs,ds,ps,_,h,_=>by
   cases vs <;> cases ds <;> simp[DataW.TrodAll]at h
   exact⟨[],trivial,rfl,oC⟩
 | t::ts,vs,ds,ps,ht,h,hok=>by
   obtain⟨v,vs',d,ds',p,q,rfl,rfl,rfl,h1,h2⟩:=ChangeShapes.trodAll_cons h;have htl:=ht t qah;obtain⟨fuel,h1⟩:=h1;obtain⟨tr,g1,g2,g3,g4⟩:=zqN hl hK fuel t _ d p htl h1;obtain⟨ys,k1,k2,k3⟩:=zlk hl hK ts vs' ds' q (fun t h=>ht t (qai _ h)) h2 (fun j t v a b=>hok (j+1) t v (by simpa using a) (by simpa using b));have hv:=hok 0 t v rfl rfl
   have hrel:TRel (fun b _=>b<w.heap.size) w (mkT (aggB P t) tr) v/\(mkT (aggB P t) tr).cells=tr:=by
    cases ha:aggB P t with
    | true=>
      have:∃cs,v= .agg cs:=by
       unfold aggB at ha;unfold Value.okWide at hv;split at ha
       ·rename_i hu;rw[hu]at hv;obtain⟨cs,rfl,_⟩:=hv;exact⟨cs,rfl⟩
       ·cases ha
      obtain⟨cs,rfl⟩:=this;refine⟨?_,rfl⟩;exact .ag tr cs (by simpa [Value.cells]using g1.symm) (fun i y hy=>g2 i y (by simpa [Value.cells]using hy)) (fun i c y hc hy=>g3 i c y hc (by simpa [Value.cells]using hy))
    | false=>
      have hc:=zqK hv hl htl ha;have hc2:=ztK hl htl g4 (by rw[zcB hl htl ha,g1,hc];rfl);rw[ha]at hc2;refine⟨?_,hc2⟩;rw[hc]at g1 g3
      match tr,g1 with
      | [c],_=>exact g3 0 c v rfl rfl
   refine⟨mkT (aggB P t) tr::ys,⟨⟨by rw[hrel.2],fuel,by rw[hrel.2];exact g4⟩,k1⟩,by simp[k2],fun i y x hy hx=>?_⟩;cases i with
   | zero=>simp at hy hx;subst hy;subst hx;exact hrel.1
   | succ i=>exact k3 i y x (by simpa using hy) (by simpa using hx)
theorem zni{w:World}{args:Array Value}(hS:Sound P f (ys.map .t) [] fun r H'=>r= .ret (.b true)/\H'=[])(hl:ys.length=args.size)(hr:∀(i:Nat) y x,ys[i]?=some y->args[i]?=some x->TRel (fun b _=>b<w.heap.size) w y x)
  (hg:Glob (fun b _=>b<w.heap.size) w):
  Calls P f args w fun e w'=>e= .returned (.bool true)/\RowKit.Below w.heap.size w w':=by
 have hm:HRel ⟨fun b _=>b<w.heap.size,[],[],w⟩:=⟨rfl,oC,oC,fun b o _ ⟨i,p,k,h,_⟩=>by simp at h,fun b o h=>h,oC,hg⟩;refine Calls.mono (hS.2 ⟨fun b _=>b<w.heap.size,[],[],w⟩ args rfl hm ⟨by simp[hl],fun i s x hs hx=>?_⟩) ?_
 ·rw[qan]at hs;cases hy:ys[i]? with
  | none=>rw[hy]at hs;cases hs
  | some y=>rw[hy]at hs;cases hs;exact .t _ _ (hr i y x hy hx)
 ·rintro e w' ⟨m',r,rfl,s,hm',hrr,rfl,hH⟩;cases e with
  | returned x=>
    refine⟨by rw[SRel.v_eq hrr],s.os,s.tape,s.output,s.size,fun b hb=>s.block b hb fun o ⟨i,p,k,h,_⟩=>by simp at h⟩
  | _=>simp[zbZ]at hrr
section law
open RowKit WideShapes ChangeShapes
theorem zqP{f:Func}{s:ChangeSpec}{apart fresh handsOn again:Bool}{W W':World}{args:Array Value}{v:Value}{ds gs:List (DataW Hh)}{before pa pv:List MemPlace}
  (hW:DataW.Whole enc P f.params.toList s.vars apart W args.toList ds gs before)
  (hres:∀(b:Nat) (sp:Nat->Bool) (hd:Bool),DataW.TrodAll enc P W' b sp hd f.resultTypes.toList (v.resultList f.resultTypes.size) (s.fn Hh (ds++gs)).results [])
  (hargs:∀sp:Nat->Bool,(∀p∈before,sp p.block=true)->DataW.TrodAll enc P W' 0 sp true f.params.toList args.toList (s.fn Hh (ds++gs)).args pa)
  (hvars:∀sp:Nat->Bool,(∀p∈before,sp p.block=true)->DataW.TrodVars enc P W' sp s.vars (s.fn Hh (ds++gs)).vars pv)
  (hps:before=pa++pv)(hb:Below W.heap.size W W')
  (hok:∀(j:Nat) (t:TypeId) (r:Value),f.resultTypes[j]?=some t->(v.resultList f.resultTypes.size)[j]?=some r->Value.okWide P W' .any 0 t r):
  s.post enc P f apart fresh handsOn again W args v W':=by
 have hlt:∀p∈before,p.block<W.heap.size:=fun p hp=>hW.lt p hp
 have hold:∀p∈before,(fun b=>decide (b<W.heap.size)) p.block=true:=fun p hp=>by simpa using hlt p hp
 refine⟨ds,gs,before,[],pa,pv,hW,hres _ _ _,hargs _ hold,hvars _ hold,World.keptBut_mono (fun p hp=>⟨hp,?_⟩) (hb.frame (·∈before)),fun _=>?_⟩
 ·rw[hps,qbe]at hp;exact Or.inr hp
 ·obtain⟨_,_,_,_,_,hz,hn⟩:=hW;refine⟨hok,_,_,([]++pa)++pv,⟨[]++pa,pv,trodAll_append (hargs _ (fun _ _=>rfl)) (hres _ _ _),hvars _ (fun _ _=>rfl),rfl,?_,?_⟩,?_⟩
  ·intro b off hp;have hin:MemPlace.cell b off∈before:=by rw[hps];simpa using hp
   rw[hb.frozen (hlt _ hin)];exact hz b off hin
  ·intro ha
   have:=hn ha
   rw[hps]at this;simpa using this
  ·intro p hp _;rw[hps];simpa using hp
theorem zjG(hl:zb6 P l=true)(hlaid:laidOutB P=true)(hmaps:mapsRowed P=true)(hrows:∀t∈l,t<P.types.size):Kids P (·∈l):=by
 have K:=kids_rows hlaid hmaps;have hp:∀t∈l,_:=qaB.1 hl;refine⟨fun{t e} ht hu=>?_,fun{t e} ht hu=>?_,fun{t e n} ht hu=>?_,fun{t fs} ht hu=>?_,fun{t k e} ht hu=>?_⟩
 ·have:=hp t ht;simp[hu]at this
 ·have:=hp t ht
  simp only[hu,qar,qbZ]at this;exact this.1.2
 ·have:=hp t ht;simp[hu]at this
 ·obtain⟨_,k2,k3⟩:=K.struct (hrows t ht) hu;refine⟨fun f hf=>?_,k2,k3⟩
  have:=hp t ht
  simp only[hu,qaB]at this;simpa using this f hf
 ·have:=hp t ht;simp[hu]at this
theorem ziL{l:List TypeId}(hl:zb6 P l=true)(hlaid:laidOutB P=true)(hmaps:mapsRowed P=true)(hrows:∀t∈l,t<P.types.size){W W':World}(hb:Below W.heap.size W W'){sp:Nat->Bool}:
  ∀(ts:List TypeId) (vs:List Value) (ds:List (DataW Hh)) (ps:List MemPlace),(∀t∈ts,t∈l)->(∀p∈ps,p.block<W.heap.size)->(∀p∈ps,sp p.block=true)->DataW.TrodAll enc P W 0 (fun _=>true) true ts vs ds ps->DataW.TrodAll enc P W' 0 sp true ts vs ds ps
 | [],vs,ds,ps,_,_,_,h=>by
   cases vs <;> cases ds <;> simp[DataW.TrodAll]at h⊢
   exact h
 | t::ts,vs,ds,ps,ht,hlt,hsp,h=>by
   obtain⟨v,vs',d,ds',p,q,rfl,rfl,rfl,⟨fuel,h1⟩,h2⟩:=trodAll_cons h;refine trodAll_cons_mk ⟨fuel,?_⟩ (ziL hl hlaid hmaps hrows hb ts vs' ds' q (fun t h=>ht t (qai _ h)) (fun p hp=>hlt p (qb3 _ hp)) (fun p hp=>hsp p (qb3 _ hp)) h2);refine DataW.trod_stays (T:=(·∈l)) (zjG hl hlaid hmaps hrows) (fun{t e} ht hu=>?_) (fun h=>by cases h) (ht t qah) h1 (fun x hx=>hb.same (hlt x (qbG _ hx))) (fun x hx=>hsp x (qbG _ hx))
   have:=qaB.1 hl t ht
   simp only[hu,qar]at this;simpa [qbn]using this.2
theorem zl6{fn:Func}{s:ChangeSpec}{bt:TypeId}{k:List (DataW Hh)->Prop}(hvars:s.vars=[])(hres:fn.resultTypes= #[bt])(hbt:P.underlying bt=some .bool)
  (hl:zb6 P l=true)(hlaid:laidOutB P=true)(hmaps:mapsRowed P=true)(hrows:l.all (fun t=>Nat.blt t P.types.size)=true)(hin:fn.params.toList.all (fun t=>l.contains t)=true)
  (hspec:∀ds:List (DataW Hh),ds.length=fn.params.size->(s.fn Hh ds).results=[.lit (.bool true)]/\(s.fn Hh ds).args=ds/\(s.fn Hh ds).vars=[])
  (hS:∀(ds:List (DataW Hh)) ys,Fits P fn.params.toList ds ys->k ds->Sound P f (ys.map .t) [] fun r H'=>r= .ret (.b true)/\H'=[])
  (W:World)(base:Nat)(args:Array Value)(ds gs:List (DataW Hh))(before:List MemPlace)(hval:∀(j:Nat) t v,fn.params[j]?=some t->args[j]?=some v->Value.okWide P W .any base t v)
  (hW:DataW.Whole enc P fn.params.toList s.vars false W args.toList ds gs before)(hk:k (ds++gs))(hG:Glob (fun b _=>b<W.heap.size) W:=by intro b cs h;exact oI h (gtab_none b cs)):
  Calls P f args W fun e W'=>∃v,e= .returned v/\s.post enc P fn false true false false W args v W':=by
 have hW':=hW;obtain⟨p,q,hA,hV,rfl,hfz,hnd⟩:=hW;rw[hvars]at hV;obtain⟨rfl,rfl⟩:=trodVars_none hV;simp only[qaz]at hk hW';have hrows':∀t∈l,t<P.types.size:=fun t ht=>by have:=qaB.1 hrows t ht;simpa [qbn]using this
 have hin':∀t∈fn.params.toList,t∈l:=fun t ht=>by have:=qaB.1 hin t ht;simpa using this
 have K:=zjG hl hlaid hmaps hrows';obtain⟨ys,y1,y2,y3⟩:=zlk (enc:=enc) hl (fun t ht fs hu=>(K.struct ht hu).2) fn.params.toList args.toList ds p hin' hA (fun j t v a b=>hval j t v (by simpa using a) (by simpa using b))
 have hlen:ds.length=fn.params.size:=by
  have:∀(ts:List TypeId) (ds:List (DataW Hh)) (ys:List T),Fits P ts ds ys->ds.length=ts.length:=by
   intro ts
   induction ts with
   | nil=>intro ds ys h;cases ds <;> cases ys <;> simp_all [Fits]
   | cons t ts ih=>intro ds ys h;cases ds <;> cases ys <;> simp[Fits]at h⊢;exact ih _ _ h.2
  simpa using this _ _ _ y1
 obtain⟨s1,s2,s3⟩:=hspec ds hlen;refine Calls.mono (zni (hS ds ys y1 hk) (by simpa using y2) (fun i y x hy hx=>y3 i y x hy (by simpa using hx)) hG) ?_;rintro e W' ⟨rfl,hb⟩;refine⟨_,rfl,zqP (pa:=p) (pv:=[]) hW' (fun b sp hd=>?_) (fun sp hsp=>?_) (fun sp hsp=>?_) oC hb (ok_one hres rfl (okWide_bool_mk hbt _))⟩
 ·rw[qaz,s1,hres];exact trodAll_cons_mk (shut_bool hbt _) trodAll_mk0
 ·rw[qaz,s2];exact ziL hl hlaid hmaps hrows' hb _ _ _ _ hin' (fun x hx=>hW'.lt x (by simpa using hx)) (fun x hx=>hsp x (by simpa using hx)) hA
 ·rw[qaz,s3,hvars];rfl
end law
end
section rules
variable {n:Nat}{tab:Tab}{pos:String}
theorem TO.zr8{ops:List Oper}(bid j0 sz id len:Nat){bs:List SV}(hne:Nat.beq bid id=false)(hB:H[bid]?=some (.cells bs))(hj0:bs[j0]?=some (.ms sz id 0 len))(hH:H[id]?=some (.cells cs))(hcl:es.length*sz≤cs.length)(hcs:∀(j:Nat) c,((es.map T.cells).flatten.map SV.t)[j]?=some c->cs[j]?=some c)(hlen:len=es.length)(hsz:∀e∈es,e.cells.length=sz)
  (hpos:Nat.ble 1 sz=true)(hH':(H.set id .dead).set bid (.cells (bs.set j0 (.t (.sl sz es))))=H')(k:TO false P n all ops env H' K):TO false P n all ops env H K:=by
 intro φ m a h1 h2 h3 h4;have hne':bid≠id:=fun h=>by subst h;simp at hne
 have hB1:m.H[bid]?=some (.cells bs):=by rw[h1];exact hB
 obtain⟨pb,hpb⟩:∃pb,m.β[bid]?=some pb:=⟨_,qad (by have:=(qaa.1 hB1).1;have:=h2.len;omega)⟩;obtain⟨w1,w2,w3⟩:=h2.blk bid pb _ hpb hB1;obtain⟨x,hx1,hx0,hx2⟩:=w3 j0 _ hj0;obtain⟨m',e1,e2,e3,s,hm',hr⟩:=frz h2 hx2 (by rw[h1];exact hH) hcl hcs hlen hsz hpos;have hB2:m'.H[bid]?=some (.cells bs):=by rw[e2,qaW (fun h=>hne' h.symm)];exact hB1
 have hjl:=(qaa.1 hj0).1
 obtain⟨s2,hm2⟩:=upd hm' (cs':=bs.set j0 (.t (.sl sz es))) (w':=m'.w) (by rw[e3];exact hpb) hB2 rfl rfl rfl rfl (fun _ _=>rfl) (fun _ _=>rfl) (fun _=>rfl) (fun _=>rfl) (fun _ h=>h) (by rw[qcs];exact w1) oA (fun j c hc=>by
  rw[e1];by_cases hj:j=j0
  ·subst hj;rw[qaC hjl]at hc;cases hc;exact⟨_,hx1,hx0,hr⟩
  ·rw[qaW (fun h=>hj h.symm)]at hc;obtain⟨y,y1,y2,y3⟩:=w3 j c hc;exact⟨y,y1,y2,s.srel h2 y3⟩)
 have st:=s.trans s2;rw[<-e1];exact TO.zfF (m':=⟨m'.A,m'.β,m'.H.set bid (.cells (bs.set j0 (.t (.sl sz es)))),m'.w⟩) st (k φ ⟨m'.A,m'.β,m'.H.set bid (.cells (bs.set j0 (.t (.sl sz es)))),m'.w⟩ a (by show m'.H.set bid _=H';rw[<-hH',e2,h1]) hm2 (h3.step h2 st) (h4.step h2 st))
end rules
def zra(K:TK):TK:=fun e env H=>∃env1:Env,(∀i v,env1.look i=some v->∃u,env.look i=some u/\Le u v)/\K e env1 H
section rules
variable {n:Nat}
theorem Post.weak{φ:Fm}{e:Exit}{a:Act}{w:World}(h:Post φ m n (zra K) e a w):Post φ m n K e a w:=by
 obtain⟨m2,env2,te,rfl,s,hm,he,hd,hx,env1,hle,hk⟩:=h
 exact⟨m2,env1,te,rfl,s,hm,⟨he.1,fun i v hv=>by
  obtain⟨u,hu,hl⟩:=hle i v hv;obtain⟨x,x1,x2⟩:=he.2 i u hu;exact⟨x,x1,hl m2 x x2⟩⟩,hd,hx,hk⟩
theorem TR.weak{c:Code}(h:TR P n c env H (zra K)):TR P n c env H K:=
 fun φ m a h1 h2 h3 h4=>za5 (h φ m a h1 h2 h3 h4) fun _ _ _ hp=>hp.weak
theorem zra.done{e:zev}(h:K e env H):zra K e env H:=⟨env,fun _ v hv=>⟨v,hv,Le.refl v⟩,h⟩
variable {tab:Tab}{pos:String}
end rules
section rules
variable {n:Nat}{tab:Tab}
variable {pos:String}
theorem TO.zqC(hT:zas P tab){t:TypeId}{i:TyI}{b c:Nat}{y:Operand}(hd:Nat.ble (d+1) n=true)(ht:tab.get t=some i)(hk:i.k= .slice e)(he:tab.get e=some ie)(hs:ie.size=sz)(hpos:Nat.ble 1 sz=true)
  (hx:env.val x=some (.i (b:Int)))(hy:env.val y=some (.i (c:Int)))(hbc:b≤c)(h2:c≤10000000000)(hby:Nat.ble ie.bytes 4096=true)
  (k:TO false P n all rest ((d,.ms sz H.length 0 b)::env) (H++[.cells (zaK ie.zero c)]) K):TO false P n all (⟨some d,.makeSlice t x y,ty,pos,aft,none⟩::rest) env H K:=
 TO.eff hd (fun m ac g1 g2 g3=>by
  have hp':=qaj hpos;have hb':=qaj hby;obtain⟨ti,hti,hti1,hti2⟩:=(hT e ie he).info;obtain⟨z,hz1,hz2,_,_⟩:=(hT e ie he).zero;have hln:=(hT e ie he).len
  have hzl:z.cells.size=sz:=by
   exact zwfi
  have hcm:c*ie.bytes≤10000000000*4096:=qbU h2 hb';have hw:IntKind.i64.wrap (c:Int)=c:=ze2 oA oA;have hwb:IntKind.i64.wrap (b:Int)=b:=ze2 oA oA;have hbig2:¬((c:Int)<b):=oA
  have hbig:¬(281474976710656<(ti.bytes:Int)*(c:Int)):=by
   rw[hti2,<-Int.natCast_mul,qcx];omega
  have hneg:¬((c:Int)<0):=oA
  have hnegb:¬((b:Int)<0):=oA
  obtain⟨arr,harr⟩:∃arr:Array Value,arr=Builtin.zeroCells z.cells c:=⟨_,rfl⟩
  have hrun:(Instr.makeSlice t (.int .i64 (b:Int)) (.int .i64 (c:Int))).run P m.w= .ok (.slice (some ⟨m.w.heap.size,0,none⟩) b c) (m.w.alloc (.cells arr e)):=by
   by_cases h0:c*sz=0
   ·have hc0:c=0:=by rcases Nat.mul_eq_zero.1 h0 with h|h <;> omega
    subst hc0;have hb0:b=0:=oA
    subst hb0;have ha:arr= #[]:=by rw[harr];simp[Builtin.zeroCells]
    rw[ha];have hw0:IntKind.i64.wrap (0:Int)=0:=oB
    simp[Instr.makeSlice,underlying,(hT t i ht).slice hk,(hT e ie he).sizeOf,asInt,asIntOf,hw0,typeInfo,hti,newRow,askRoom,roomBytes];refine oJ (fun a=>m.w.alloc (Obj.cells a e)) ?_;simp[Array.range]
   ·have hroom:¬140737488355328<c*ti.bytes:=by rw[hti2];omega
    have hc0:¬c=0:=by rintro rfl;simp at h0
    have hs0:¬sz=0:=oA
    rw[harr];simp[Instr.makeSlice,underlying,(hT t i ht).slice hk,(hT e ie he).sizeOf,hs,asInt,asIntOf,hw,hwb,typeInfo,hti,hbig,hbig2,hneg,hnegb,hz1,newRow,askRoom,roomBytes,hroom,h0,hc0,hs0,Builtin.zeroCells,hzl]
  have hsize:arr.size=c*ie.zero.length:=by
   rw[harr,zbD,hzl,hln,hs]
  obtain⟨s,hm'⟩:=zjC g2 (ts:=ie.zero) (z:=z.cells) (e:=e) (arr:=arr) (c:=c) (N:=c) hz2 oA (qag _) hsize (fun j hj=>by
   have hzz:z.cells.size=ie.zero.length:=oA
   rw[harr,<-hzz];rw[<-hzz]at hj;exact zc3 _ _ _ oA hj)
  refine⟨.slice (some ⟨m.w.heap.size,0,none⟩) b c,⟨m.A,m.β++[⟨m.w.heap.size,0,arr.size⟩],m.H++[.cells (zaK ie.zero c)],m.w.alloc (.cells arr e)⟩,by simp[execOp,(g3.val hx).v_eq,(g3.val hy).v_eq,hrun],s,hm',by rw[<-g1],?_⟩;rw[<-g1];refine .ms sz m.H.length 0 b c ⟨m.w.heap.size,0,arr.size⟩ (by simp[g2.len]) (by intro q;simp[tlOf]) hbc ?_;show 0+0+c*sz=arr.size;rw[hsize,hln,hs];omega) k
theorem TO.makeSlice(hT:zas P tab){t e:TypeId}{i ie:TyI}{sz c:Nat}{x:Operand}(hd:Nat.ble (d+1) n=true)(ht:tab.get t=some i)(hk:i.k= .slice e)(he:tab.get e=some ie)(hs:ie.size=sz)(hpos:Nat.ble 1 sz=true)
  (hx:env.val x=some (.i (c:Int)))(h2:c≤10000000000)(hby:Nat.ble ie.bytes 4096=true)
  (k:TO false P n all rest ((d,.ms sz H.length 0 c)::env) (H++[.cells (zaK ie.zero c)]) K):TO false P n all (⟨some d,.makeSlice t x x,ty,pos,aft,none⟩::rest) env H K:=
 TO.zqC hT hd ht hk he hs hpos hx hx (qag c) h2 hby k
end rules
inductive TLs:T->T->Prop
 | refl (t:T):TLs t t
 | nil (sz:Nat):TLs (.v (.slice none 0 0)) (.sl sz [])
 | ag (cs ds:List T) (h:cs.length=ds.length) (hl:∀(i:Nat) c d,cs[i]?=some c->ds[i]?=some d->TLs c d):TLs (.ag cs) (.ag ds)
 | sl (sz:Nat) (cs ds:List T) (h:cs.length=ds.length) (hl:∀(i:Nat) c d,cs[i]?=some c->ds[i]?=some d->TLs c d):TLs (.sl sz cs) (.sl sz ds)
theorem TLs.both{A:Foot}{w:World}{a b:T}(h:TLs a b):(∀x,TRel A w a x->TRel A w b x)/\a.cells.length=b.cells.length/\∀(j:Nat) c d,a.cells[j]?=some c->b.cells[j]?=some d->∀x,TRel A w c x->TRel A w d x:=by
 have one:∀(a b:T),(∀x,TRel A w a x->TRel A w b x)->∀(j:Nat) c d,[a][j]?=some c->[b][j]?=some d->∀x,TRel A w c x->TRel A w d x:=by
  intro a b h j c d hc hd;cases j with
  | zero=>simp at hc hd;subst hc;subst hd;exact h
  | succ j=>simp at hc
 induction h with
 | refl t=>exact⟨fun _ h=>h,rfl,fun j c d hc hd=>by rw[hc]at hd;cases hd;exact fun _ h=>h⟩
 | nil sz=>
   have h1:∀x,TRel A w (.v (.slice none 0 0)) x->TRel A w (.sl sz []) x:=by intro x h;cases h;exact .nil sz
   exact⟨h1,rfl,one _ _ h1⟩
 | ag cs ds hl _ ih=>
   refine⟨?_,hl,fun j c d hc hd=>(ih j c d hc hd).1⟩;intro x h;cases h with
   | ag _ arr hs h1 hr=>
     refine .ag _ _ oA h1 fun i d y hd hy=>?_
     have hi:=(qaa.1 hd).1;have hc:cs[i]?=some (cs[i]' oA):=qad _;exact(ih i _ d hc hd).1 y (hr i _ y hc hy)
 | sl sz cs ds hl _ ih=>
   have h1:∀x,TRel A w (.sl sz cs) x->TRel A w (.sl sz ds) x:=by
    intro x h;generalize hq:T.sl sz cs=q at h;cases h with
    | v x=>cases hq
    | ag=>cases hq
    | nil sz'=>cases hq;have:ds=[]:=qaF (by simpa using hl.symm);subst this;exact .nil _
    | empty sz' a=>cases hq;have:ds=[]:=qaF (by simpa using hl.symm);subst this;exact .empty _ a
    | sl sz' es b off cap f hcap hsz hA hw h1 hr=>
      cases hq;rw[hl];refine .sl sz ds b off cap f oA (fun i d hd=>?_) (by rw[<-hl];exact hA) (by rw[<-hl];exact hw) (by rw[<-hl];exact h1) (fun i d j c' hd hc'=>?_)
      ·have hi:=(qaa.1 hd).1;have hc:cs[i]?=some (cs[i]' oA):=qad _;rw[<-(ih i _ d hc hd).2.1];exact hsz i _ hc
      ·have hi:=(qaa.1 hd).1;have hc:cs[i]?=some (cs[i]' oA):=qad _;have hj:=(qaa.1 hc').1;have hl2:=(ih i _ d hc hd).2.1;have hcc:(cs[i]' oA).cells[j]?=some ((cs[i]' oA).cells[j]' oA):=qad _;exact(ih i _ d hc hd).2.2 j _ c' hcc hc' _ (hr i _ j _ hc hcc)
   exact⟨h1,rfl,one _ _ h1⟩
theorem Le.zAh{s:SV}{t u:T}(h:s.toT=some t)(k:TLs t u):Le s (.t u):=fun _ _ hx=>.t _ _ (k.both.1 _ (hx.toT h))
def TLss:List T->List T->Prop
 | [],[]=>True
 | a::aas,b::bs=>TLs a b/\TLss aas bs
 | _,_=>False
theorem TLss.get:∀ {cs ds:List T},TLss cs ds->cs.length=ds.length/\∀(i:Nat) c d,cs[i]?=some c->ds[i]?=some d->TLs c d
 | [],[],_=>⟨rfl,oC⟩
 | a::aas,b::bs,h=>by
   have ih:=TLss.get h.2;exact⟨by simp[ih.1],fun i c d hc hd=>by cases i with|zero=>simp at hc hd;subst hc;subst hd;exact h.1|succ i=>exact ih.2 i c d (by simpa using hc) (by simpa using hd)⟩
theorem TLs.agL{cs:List T}(h:TLss cs ds):TLs (.ag cs) (.ag ds):=.ag _ _ h.get.1 h.get.2
theorem TLs.slL{cs:List T}(h:TLss cs ds):TLs (.sl sz cs) (.sl sz ds):=.sl _ _ _ h.get.1 h.get.2
theorem LeB.msN{id off len:Nat}(hH:H[id]?=some (.cells cs))(hcs:∀(j:Nat) c,((es.map T.cells).flatten)[j]?=some c->∃s,cs[off+j]?=some s/\LeB H s (.t c))(hlen:len=es.length)(hsz:∀e∈es,e.cells.length=sz):LeB H (.ms sz id off len) (.t (.sl sz es)):=fun m x hH' hm hx=>by
 subst hlen;obtain⟨l1,l2⟩:=zbR es hsz;cases hx with
 | ms _ _ _ _ cap p hp hn hc hh=>
   have hH1:m.H[id]?=some (.cells cs):=by rw[hH'];exact hH
   obtain⟨b1,b2,b3⟩:=hm.blk id p _ hp hH1
   have hex:∀j,∃y,j<es.length*sz->m.w.cell? ⟨p.b,p.lo+off+j,none⟩=some y/\y.oneCell'=true/\∀c,((es.map T.cells).flatten)[j]?=some c->TRel m.lent.A m.lent.w c y:=by
    intro j;by_cases hj:j<es.length*sz
    ·have hc':((es.map T.cells).flatten)[j]?=some (((es.map T.cells).flatten)[j]'(by rw[l1];exact hj)):=qad _;obtain⟨s,h1,h2⟩:=hcs j _ hc';obtain⟨y,y1,y0,y2⟩:=b3 (off+j) _ h1;refine⟨y,fun _=>⟨by rw[<-y1,qa1],y0,fun c2 h3=>?_⟩⟩;rw[hc']at h3;cases h3
     have:=h2 m y hH' hm y2
     cases this with
     | t _ _ h=>exact h
    ·exact⟨undef,fun h=>oI h hj⟩
   obtain⟨f,hf⟩:=qby hex
   have hlt:∀q j,q<es.length->j<sz->q*sz+j<es.length*sz:=fun q j hq hj=>by
    exact zwdq
   have hcm:es.length*sz≤cap*sz:=qaH _ hc;have hbound:∀q j,q<es.length->j<sz->p.lo+off+(q*sz+j)<p.hi:=fun q j hq hj=>by have:=hlt q j hq hj;omega
   refine .t _ _ (.sl sz es p.b (p.lo+off) cap f hc (fun j e he=>hsz e (qau he)) (fun q j hq hj=>.inr ⟨id,p,_,hp,hH1,rfl,rfl,oA,hbound q j hq hj⟩) (fun q j hq hj=>(hf _ (hlt q j hq hj)).1) (fun q j hq hj=>(hf _ (hlt q j hq hj)).2.1) (fun q e j c he hc'=>?_));have hq:=(qaa.1 he).1;have hj:=(qaa.1 hc').1;rw[hsz e (qau he)]at hj;exact(hf _ (hlt q j hq hj)).2.2 c (l2 q j e c he hc')
section rules
variable {n:Nat}{tab:Tab}
variable {pos:String}
end rules
theorem zxO(hm:HRel m)(hp:m.β[R]?=some p)(hH:m.H[R]?=some (.cells cs)):
  Step m ⟨m.A,m.β++[p],m.H.set R .dead++[.cells cs],m.w⟩/\HRel ⟨m.A,m.β++[p],m.H.set R .dead++[.cells cs],m.w⟩:=zwD hm hp hH rfl (.inl rfl)
def Elems(P:Program)(m:M)(sz n2:Nat)(y:Value)(vs:List SV):Prop:=
 (∃ad cap,y= .slice ad n2 cap)/\vs.length=n2*sz/\∃g:Nat->Value,(∀w':World,w'.heap=m.w.heap->(Builtin.firstCells sz n2 y).run P w'= .ok ((List.range (n2*sz)).map g).toArray w')/\(∀q,q<n2*sz->(g q).oneCell'=true)/\∀q c,vs[q]?=some c->SRel m c (g q)
theorem Elems.tree(hy:TRel m.A m.w (.sl sz ys) y)(hpos:0<sz):Elems P m sz ys.length y ((ys.map T.cells).flatten.map .t):=by
 obtain⟨ad,cap,rfl⟩:=hy.zca;obtain⟨g,g0,g1,g2,g3⟩:=zbA (P:=P) hy hpos;obtain⟨l1,l2⟩:=zbR ys (fun e he=>by obtain⟨j,hj⟩:=qbg he;exact g2 j e hj);refine⟨⟨ad,cap,rfl⟩,by rw[qac,l1],g,g0,g1,fun q c hc=>?_⟩;have hq:=(qaa.1 hc).1;rw[qac,l1]at hq;obtain⟨d1,d2,d3⟩:=zfU hpos hq;have hyq:ys[q / sz]?=some ys[q / sz]:=qad d1;have hcl:=g2 _ _ hyq;have hyc:(ys[q / sz]).cells[q % sz]?=some ((ys[q / sz]).cells[q % sz]' oA):=qad oA;have h1:=l2 _ _ _ _ hyq hyc;rw[d3]at h1;rw[qan,h1]at hc;cases hc;have hr:=g3 _ _ _ _ hyq hyc;rw[d3]at hr;exact .t _ _ hr
theorem Elems.ms{P:Program}{m:M}(hm:HRel m){sz id off n2:Nat}{cs:List SV}{y:Value}(hy:SRel m (.ms sz id off n2) y)(hH:m.H[id]?=some (.cells cs))(hl:off+n2*sz≤cs.length):Elems P m sz n2 y ((cs.drop off).take (n2*sz)):=by
 cases hy with
 | ms _ _ _ _ cap p hp hn hc hh=>
 obtain⟨b1,b2,b3⟩:=hm.blk id p _ hp hH
 have hex:∀j,∃v,j<n2*sz->m.w.cell? ⟨p.b,p.lo+off+j,none⟩=some v/\v.oneCell'=true/\∀c,cs[off+j]?=some c->SRel m c v:=by
  intro j;by_cases hj:j<n2*sz
  ·obtain⟨v,y1,y0,y2⟩:=b3 (off+j) cs[off+j] (qad oA);exact⟨v,fun _=>⟨by rw[<-y1,qa1],y0,fun c2 h2=>by rw[qad oA]at h2;cases h2;exact y2⟩⟩
  ·exact⟨undef,fun h=>oI h hj⟩
 obtain⟨f,hf⟩:=qby hex;refine⟨⟨_,_,rfl⟩,oF,f,fun w' hw'=>?_,fun q hq=>(hf q hq).2.1,fun q c hc=>?_⟩
 ·simp only[Builtin.firstCells]
  exact run_loadCells w' ⟨p.b,p.lo+off,none⟩ (n2*sz) f fun j hj=>by
   rw[zbh];show w'.cell? _=_;rw[show w'.cell? ⟨p.b,p.lo+off+j,none⟩=m.w.cell? ⟨p.b,p.lo+off+j,none⟩ from by simp[World.cell?,hw']];exact(hf j hj).1
 ·have hq:=(qaa.1 hc).1;have hq':q<n2*sz:=by simp at hq;omega
  rw[qa6,oG hq',qbb]at hc;exact(hf q hq').2.2 c hc
def rowV(sz n id:Nat):SV:=bif Nat.beq n 0 then .t (.v (.slice none 0 0)) else .ms sz id 0 n
def rowB(n:Nat)(cs:List SV):Blk:=bif Nat.beq n 0 then .dead else .cells cs
theorem zc0{n id:Nat}(h:0<n):rowV sz n id= .ms sz id 0 n:=by
 unfold rowV;cases n with
 | zero=>omega
 | succ n=>rfl
theorem zcb{n:Nat}(h:0<n):rowB n cs= .cells cs:=by
 unfold rowB;cases n with
 | zero=>omega
 | succ n=>rfl
theorem zs2(n:Nat)(cs:List SV):tlOf (some (rowB n cs))=none:=by
 unfold rowB;cases n <;> rfl
section rules
variable {n:Nat}{tab:Tab}
theorem zhN(hT:zas P tab)(hm:HRel m){t t':TypeId}{i i':TyI}{id len n2:Nat}{x:Value}(ht:tab.get t=some i)(hk:i.k= .slice e)(ht':tab.get t'=some i')(hk':i'.k= .slice e)(he:tab.get e=some ie)(hs:ie.size=sz)(hpos:0<sz)
  (hx:SRel m (rowV sz len id) x)(hH:m.H[id]?=some (rowB len cs))(hcs:cs.length=len*sz)(hy:Elems P m sz n2 y vs)(hn2:0<n2)(hb:(len+n2)*ie.bytes≤70368744177664)(hb1:len+n2≤70368744177664)(hby:ie.bytes≤65536):
  ∃z m',(Builtin.append_ #[t,t'] ty #[x,y]).run P m.w= .ok z m'.w/\Step m m'/\HRel m'/\m'.H=m.H.set id .dead++[.cells (cs++vs)]/\SRel m' (.ms sz m.H.length 0 (len+n2)) z:=by
 obtain⟨⟨ad2,cap2,rfl⟩,hvl,g,hg,g1,g2⟩:=hy;have hidl:=(qaa.1 hH).1;have hmul:(len+n2)*sz=len*sz+n2*sz:=qa3 _ _ _
 obtain⟨ax,cap,rfl,hcap,f,hf,hfo,hf1,hplace⟩:∃ax cap,x= .slice ax len cap/\len≤cap/\∃f:Nat->Value,(∀q c,cs[q]?=some c->SRel m c (f q))/\(∀w':World,w'.heap=m.w.heap->(Builtin.firstCells sz len (.slice ax len cap)).run P w'= .ok ((List.range (len*sz)).map f).toArray w')/\(∀q,q<len*sz->(f q).oneCell'=true)/\
   (len+n2≤cap->∃p:Place,ax=some ⟨p.b,p.lo+0,none⟩/\m.β[id]?=some p/\m.H[id]?=some (.cells cs)/\p.lo+cap*sz=p.hi):=by
  cases len with
  | zero=>
    have:=hx.v_eq
    subst this;have hcn:cs=[]:=qaF (by rw[hcs];simp);subst hcn;refine⟨none,0,rfl,qag _,fun _=>undef,fun q c h=>by simp at h,fun w' _=>by simp[Builtin.firstCells],fun q hq=>by simp at hq,fun h=>oA⟩
  | succ len=>
    rw[zcb oA]at hH;rw[zc0 oA]at hx;obtain⟨⟨ad,cp,hq⟩,_,f,f1,f2,f3⟩:=Elems.ms (P:=P) hm hx hH oA;have hdt:(cs.drop 0).take ((len+1)*sz)=cs:=by rw[qbj,qaJ oA]
    rw[hdt]at f3;cases hx with
    | ms _ _ _ _ cap p hp hn hc hh=>
    exact⟨_,cap,rfl,hc,f,f3,f1,f2,fun _=>⟨p,rfl,hp,hH,oA⟩⟩
 have hnt:tlOf m.H[id]?=none:=by rw[hH];exact zs2 _ _
 let h:Nat->Value:=fun q=>if q<len*sz then f q else g (q-len*sz)
 have hone:∀q,q<(len+n2)*sz->(h q).oneCell'=true:=fun q hq=>by
  by_cases hq1:q<len*sz
  ·simp only[h,oG hq1];exact hf1 q hq1
  ·simp only[h,oH hq1];exact g1 _ oA
 have hrel:∀(q:Nat) c,(cs++vs)[q]?=some c->SRel m c (h q):=fun q c hc=>by
  by_cases hq:q<len*sz
  ·rw[qat oA]at hc;simp only[h,oG hq];exact hf q c hc
  ·rw[qas oA,hcs]at hc;simp only[h,oH hq];exact g2 _ c hc
 have hlen:(cs++vs).length=(len+n2)*sz:=by rw[qab,hcs,hvl,hmul]
 by_cases hfit:len+n2≤cap
 ·obtain⟨p,rfl,hp,hHc,hhi⟩:=hplace hfit;obtain⟨b1,b2,b3⟩:=hm.blk id p _ hp hHc
  have hrun:(Builtin.append_ #[t,t'] ty #[.slice (some ⟨p.b,p.lo+0,none⟩) len cap,.slice ad2 n2 cap2]).run P m.w=
    ((storeCells (Addr.add ⟨p.b,p.lo+0,none⟩ (len*sz)) ((List.range (n2*sz)).map g)).run P m.w).andThen fun _ w'=>.ok (.slice (some ⟨p.b,p.lo+0,none⟩) (len+n2) cap) w':=by
   simp[Builtin.append_,underlying,(hT t i ht).slice hk,(hT t' i' ht').slice hk',(hT e ie he).sizeOf,hs,Builtin.lenOf,hfit,hg m.w rfl]
  have hcm:(len+n2)*sz≤cap*sz:=qaH _ hfit
  have hst:=run_storeCells_cells (P:=P) p.b (p.lo+len*sz) ((List.range (n2*sz)).map g) 0 m.w (fun q hq=>(b2 _ oA (by simp at hq;omega)).1) (fun q hq=>(b2 _ oA (by simp at hq;omega)).2)
   (fun v hv=>by simp at hv;obtain⟨q,hq,rfl⟩:=hv;exact g1 q hq)
  obtain⟨e1,e2,e3,e4,e5,e6⟩:=zbW p.b ((List.range (n2*sz)).map g) (p.lo+len*sz) m.w
  have hout:∀b o,¬(b=p.b/\p.lo+len*sz≤o/\o<p.lo+len*sz+n2*sz)->(m.w.setCells p.b (p.lo+len*sz) ((List.range (n2*sz)).map g)).cell? ⟨b,o,none⟩=m.w.cell? ⟨b,o,none⟩:=by
   exact zwch
  have hin:∀q,q<n2*sz->(m.w.setCells p.b (p.lo+len*sz) ((List.range (n2*sz)).map g)).cell? ⟨p.b,p.lo+len*sz+q,none⟩=some (g q):=by
   intro q hq
   have:=World.cell?_setCells_in p.b ((List.range (n2*sz)).map g) (p.lo+len*sz) m.w (fun j hj=>(b2 _ oA (by simp at hj;omega)).1) q (by simpa using hq)
   simpa using this
  have hcell:∀q,q<(len+n2)*sz->(m.w.setCells p.b (p.lo+len*sz) ((List.range (n2*sz)).map g)).cell? ⟨p.b,p.lo+q,none⟩=(if q<len*sz then m.w.cell? ⟨p.b,p.lo+q,none⟩ else some (g (q-len*sz))):=fun q hq=>by
   by_cases hq1:q<len*sz
   ·rw[oG hq1,hout _ _ oA]
   ·rw[oH hq1]
    have:=hin (q-len*sz) oA
    rw[show p.lo+len*sz+(q-len*sz)=p.lo+q by omega]at this;exact this
  obtain⟨s,hm'⟩:=zeS hm (k1:=.cells (cs++vs)) (p':=p) (A':=m.A) (w':=m.w.setCells p.b (p.lo+len*sz) ((List.range (n2*sz)).map g)) hp hHc rfl e1 e2 e3 (by rw[e4];exact qag _)
   (fun b o _ hn=>hout b o oA) (fun b o _ _ _=>World.frozen?_setCells _ _ _ _ _)
   (fun b _ hb=>by
     rcases hb with hb|hb
     ·exact e5 b hb
     ·have:n2*sz=0:=oA
      rw[this];rfl)
   (fun b o _ h=>by
     by_cases hb:b=p.b
     ·subst hb;rw[e6];exact h
     ·rw[hout b o oA];exact h)
   (fun b s hs=>by rw[zb9];exact hs) (fun _ _ h=>h) (fun b o h=>.inl h) (fun _=>.inl ⟨rfl,qag _,qag _⟩) (fun _ b o h1 h2=>oI h1 h2) (fun o q1 q2=>(b2 o q1 q2).1) ⟨rfl,fun n'=>by simp[tlOf]⟩ (fun s=>by
     refine⟨oA,fun o q1 q2=>⟨by rw[show M.w _=m.w.setCells p.b (p.lo+len*sz) ((List.range (n2*sz)).map g) from rfl,e6];exact(b2 o q1 q2).1,by rw[show M.w _=m.w.setCells p.b (p.lo+len*sz) ((List.range (n2*sz)).map g) from rfl,World.frozen?_setCells];exact(b2 o q1 q2).2⟩,fun j c hc=>?_⟩;have hj:=(qaa.1 hc).1;rw[hlen]at hj;show ∃y,(m.w.setCells p.b (p.lo+len*sz) ((List.range (n2*sz)).map g)).cell? ⟨p.b,p.lo+j,none⟩=some y/\_;rw[hcell j hj];by_cases hj1:j<len*sz
     ·rw[oG hj1];rw[qat oA]at hc;obtain⟨y,y1,y0,y2⟩:=b3 j c hc;exact⟨y,y1,y0,s.srel hm y2⟩
     ·rw[oH hj1];rw[qas oA,hcs]at hc;exact⟨_,rfl,g1 _ oA,s.srel hm (g2 _ c hc)⟩)
  have hp2:(m.β.set id p)[id]?=some p:=qaC (by rw[hm.len];exact hidl);have hH2:(m.H.set id (.cells (cs++vs)))[id]?=some (.cells (cs++vs)):=qaC hidl;obtain⟨s2,hm2⟩:=zxO hm' (R:=id) (p:=p) hp2 hH2;refine⟨.slice (some ⟨p.b,p.lo+0,none⟩) (len+n2) cap,_,?_,s.trans s2,hm2,?_,?_⟩
  ·rw[hrun,zbh,show p.lo+0+len*sz=p.lo+len*sz by omega,hst];rfl
  ·show(m.H.set id (.cells (cs++vs))).set id .dead++_=_;rw[qcV]
  ·refine .ms sz m.H.length 0 (len+n2) cap p ?_ ?_ hfit oA
   ·show(m.β.set id p++[p])[m.H.length]?=some p;rw[qas (by simp[hm.len])];simp[hm.len]
   ·intro n' hn
    have:((m.H.set id (.cells (cs++vs))).set id .dead++[Blk.cells (cs++vs)])[m.H.length]?=some (.cells (cs++vs)):=by
     rw[qas oC];simp
    rw[show(M.H ⟨m.A,m.β.set id p++[p],(m.H.set id (.cells (cs++vs))).set id .dead++[.cells (cs++vs)],_⟩)[m.H.length]?=_ from this]at hn;cases hn
 ·obtain⟨nc,zr,hnc2,hzrl,hz1,hrun⟩:=zka hT (ty:=ty) ht hk (.inr ⟨_,(hT t' i' ht').slice hk'⟩) he hs (y:=.slice ad2 n2 cap2) (fun w=>by simp[Builtin.lenOf]) (hfo m.w.drew rfl) (hg m.w.drew rfl) hfit hb hb1 hby;obtain⟨ca,hca⟩:∃ca:Array Value,ca=((List.range (len*sz)).map f).toArray++((List.range (n2*sz)).map g).toArray++zr:=⟨_,rfl⟩;rw[<-hca]at hrun
  have hcsl:ca.size=nc*sz:=by
   have h1:(len+n2)*sz+(nc-(len+n2))*sz=nc*sz:=by rw[<-qa3];congr 1;omega
   rw[hca];simp[hzrl];omega
  have hcm:(len+n2)*sz≤nc*sz:=qaH _ hnc2
  have hcg:∀q,q<(len+n2)*sz->ca[q]?=some (h q):=fun q hq=>by
   have hq':q<len*sz+n2*sz:=by rw[<-hmul];exact hq
   rw[hca,qa7 (by simpa using hq')];by_cases hq1:q<len*sz
   ·simp only[h,oG hq1];rw[qa7 (by simpa using hq1)];simp[hq1]
   ·simp only[h,oH hq1];have hq2:q-len*sz<n2*sz:=oA
    rw[qbi (by simpa using qbE hq1)];simp[hq2]
  obtain⟨s0,hm0⟩:=zpb hm
  obtain⟨s,hm'⟩:=zcw hm0 (cs++vs) ca e (by rw[hlen,hcsl];exact hcm) (fun q v hv=>by
   by_cases hq:q<(len+n2)*sz
   ·rw[hcg q hq]at hv;cases hv;exact hone q hq
   ·have hq2:=(qam.1 hv).1;rw[hcsl]at hq2;rw[hca,qbi oF]at hv;exact hz1 _ v hv) (fun q c v hc hv=>by
   have hq:=(qaa.1 hc).1;rw[hlen]at hq;rw[hcg q hq]at hv;cases hv;exact s0.srel hm (hrel q c hc))
  obtain⟨s2,hm2⟩:=zso hm' id (by
   show tlOf (m.H++[Blk.cells (cs++vs)])[id]?=none;rw[qat hidl];exact hnt)
  have hset:(m.H++[Blk.cells (cs++vs)]).set id .dead=m.H.set id .dead++[.cells (cs++vs)]:=qcR _ _ hidl;refine⟨.slice (some ⟨m.w.heap.size,0,none⟩) (len+n2) nc,_,hrun,(s0.trans s).trans s2,hm2,hset,?_⟩;have hz9:(⟨m.w.heap.size,0,none⟩:Addr)=⟨m.w.heap.size,0+0,none⟩:=rfl;rw[hz9];refine .ms sz m.H.length 0 (len+n2) nc ⟨m.w.heap.size,0,ca.size⟩ (by simp[hm.len]) ?_ hnc2 (by show 0+0+nc*sz=ca.size;omega);intro n' hn
  have:((m.H++[Blk.cells (cs++vs)]).set id .dead)[m.H.length]?=some (.cells (cs++vs)):=by
   rw[hset,qas oC];simp
  have hn':tlOf (((m.H++[Blk.cells (cs++vs)]).set id .dead)[m.H.length]?)=some n':=hn;rw[this]at hn';cases hn'
end rules
end Go.TL
