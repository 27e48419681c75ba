import Derived.Lib.Builder
import Derived.Lib.UnsafeStr
import Derived.Stop.Walk2
import Derived.Test.YthmbhfgflijapaaGreatDoorPk3
set_option linter.all false
namespace Go.TL
open Go
theorem TRel.zwX{A:Foot}{w:World}{x y:Value}(h:TRel A w (.v x) y):y=x:=by
 cases h;rfl
theorem zcJ{m:M}(h2:HRel m){w':World}(k:Keeps m.w w'):Step m ⟨m.A,m.β,m.H,w'⟩/\HRel ⟨m.A,m.β,m.H,w'⟩:=by
 have:=grow h2 (A':=m.A) (βn:=[]) (Hn:=[]) (w':=w') k.os k.tape k.output k.size k.block (fun _ _ h=>h) (fun _ _ h=>.inl h) rfl (by simp) (by simp) (fun _ _ h h'=>absurd h h') (by simp)
 simpa using this
theorem Keeps.trans{a b c:World}(h:Keeps a b)(k:Keeps b c):Keeps a c:=
 ⟨k.os.trans h.os,k.tape.trans h.tape,k.output.trans h.output,qaq h.size k.size,fun x hx=>(k.block x (qa0 hx h.size)).trans (h.block x hx)⟩
def M.lent(m:M):M:=⟨fun b o=>m.A b o\/Own m b o,[],[],m.w⟩
theorem zpR{m:M}(hm:HRel m):HRel m.lent where
 len:=rfl
 blk:=fun i p k h=>by simp[M.lent]at h
 apart:=fun i j p q k l _ h=>by simp[M.lent]at h
 still:=fun b o _ ⟨i,p,k,h,_⟩=>by simp[M.lent]at h
 inA:=fun b o h=>by
  rcases h with h|⟨i,p,k,h1,h2,h3,h4,h5,h6⟩
  ·exact hm.inA b o h
  ·rw[<-h4];exact hm.inO i p k h1 h2 h3 (by omega)
 inO:=fun i p k h=>by simp[M.lent]at h
 glob:=fun b cs h=>⟨fun o=>.inl ((hm.glob b cs h).1 o),(hm.glob b cs h).2⟩
def LeB(H:Heap)(s c:SV):Prop:=∀(m:M) (x:Value),m.H=H->HRel m->SRel m s x->SRel m.lent c x
theorem zqY{m:M}{t:T}{x:Value}(h:TRel m.A m.w t x):TRel m.lent.A m.lent.w t x:=h.mono (fun _ _ h=>.inl h) (fun _ _ _=>rfl)
theorem LeB.tree{H:Heap}{s:SV}{t u:T}(h:s.toT=some t)(k:TLe t u):LeB H s (.t u):=fun m x _ _ hx=>.t _ _ (zqY (k.rel _ (hx.toT h)))
theorem LeB.t{H:Heap}(t:T):LeB H (.t t) (.t t):=LeB.tree (t:=t) rfl (.refl t)
def LesB(H:Heap):List SV->List SV->Prop
 | [],[]=>True
 | a::aas,b::bs=>LeB H a b/\LesB H aas bs
 | _,_=>False
theorem LesB.get{H:Heap}:∀ {aas bs:List SV},LesB H aas bs->aas.length=bs.length/\∀(i:Nat) a b,aas[i]?=some a->bs[i]?=some b->LeB H a b
 | [],[],_=>by simp
 | [],_::_,h=>by cases h
 | _::_,[],h=>by cases h
 | a::aas,b::bs,h=>by
   obtain⟨g1,g2⟩:=LesB.get h.2
   exact zwby
def Rigid(v:SV):Prop:=∃x0,(∀m x,SRel m v x->x=x0)/\∀m,SRel m v x0
theorem Rigid.v(x:Value):Rigid (.t (.v x)):=⟨x,fun _ _ h=>h.v_eq,fun _=>.t _ _ (.v x)⟩
section rules
variable {P:Program}{n:Nat}{env:Env}{H:Heap}{K:TK}{all:Array Oper}{rest:List Oper}{tab:Tab}{q:Bool}
variable {d:Nat}{ty:TypeId}{pos:String}{aft:Array Edge}
theorem TO.ztF{cargs:List SV}{v:SV}{f:Operand}{fid:FuncId}{caps:List SV}{args:Array Operand}{ts:Array TypeId}{vs:List SV}(hs:Pure P fid cargs v)(hd:Nat.ble (d+1) n=true)
  (hf:env.val f=some (.fn fid caps))(ha:env.vals args.toList=some vs)(hl:LesB H (vs++caps) cargs)(hv:Rigid v)
  (k:TO q P n all rest ((d,v)::env) H K):
  TO q P n all (⟨some d,.call { callee:=.value f,args:=args,argTypes:=ts },ty,pos,aft,none⟩::rest) env H K:=by
 intro φ m ac h1 h2 h3 h4
 obtain⟨arr,hq,har⟩:=zlB h3 hf ha
 obtain⟨x0,hx1,hx2⟩:=hv
 obtain⟨g1,g2⟩:=hl.get
 have key:∀w',Keeps m.w w'->Calls P fid (args.map ac.eval++arr) w' fun e w''=>e= .returned x0/\Keeps m.w w'':=by
  intro w' kw
  obtain⟨s,hm'⟩:=zcJ h2 kw
  have harc:ARel (M.lent ⟨m.A,m.β,m.H,w'⟩) cargs (args.map ac.eval++arr):=by
   refine⟨by rw[har.1,g1],fun i c x hc hx=>?_⟩
   have hi:=(qaa.1 hc).1
   have hc0:(vs++caps)[i]?=some ((vs++caps)[i]'(by omega)):=qac _
   exact g2 i _ c hc0 hc ⟨m.A,m.β,m.H,w'⟩ x h1 hm' (s.srel h2 (har.2 i _ x hc0 hx))
  have hcall:=hs.2 (M.lent ⟨m.A,m.β,m.H,w'⟩) _ rfl (zpR hm') harc
  refine Calls.mono hcall ?_
  rintro e w'' ⟨mc',r,rfl,st,hmc,hr,hR,hH⟩
  subst hR
  cases e with
  | returned x=>
    refine⟨by rw[hx1 _ _ hr],kw.trans ⟨st.os,st.tape,st.output,st.size,fun b hb=>st.block b hb fun o ho=>?_⟩⟩
    obtain⟨i,p,k,h,_⟩:=ho
    simp[M.lent]at h
  | _=>simp[zbX]at hr
 have hk:=k φ m (ac.put (some d) x0) h1 h2 (h3.put d (qag hd) (hx2 m)) (by simpa [Act.put]using h4)
 cases q with
 | false=>
   refine wpListIn_plain rfl fun K' hK=>?_
   unfold Oper.wpIn
   refine⟨fun _ _=>trivial,?_⟩
   rw[za6 (zfh hq hs.1) (by intro d e;cases e)]
   simp only[Oper.uponIn]
   refine⟨fun h=>by simp[Fence.wide]at h,zfi (Calls.mono (key m.w ⟨rfl,rfl,rfl,qae _,fun _ _=>rfl⟩) ?_)⟩
   rintro e w'' ⟨rfl,kw⟩
   obtain⟨s,hm'⟩:=zcJ h2 kw
   exact hK _ _ (TO.zeM (m':=⟨m.A,m.β,m.H,w''⟩) s (k φ _ _ h1 hm' ((h3.step h2 s).put d (qag hd) (hx2 _)) (by simpa [Act.put]using h4.step h2 s)))
 | true=>
   simp only at hk⊢
   unfold wpQuiet
   simp only[Region.wanted,if_true]
   refine⟨x0,fun w' hw'=>?_,hk⟩
   unfold Oper.quietAt
   rw[zfh hq hs.1]
   exact⟨rfl,key w' hw'⟩
theorem zm6{sz:Nat}(pl:Nat->Option (Nat×Nat))(hpl:∀i,pl i=some (i*sz,sz)):∀(vals:List (Nat×Value)) (k:Nat) (arr:Array Value),(∀(i:Nat) p,vals[i]?=some p->p.1=k+i/\p.2.cells.size=sz)->(k+vals.length)*sz≤arr.size->
  ∃arr',Instr.fill pl arr vals=some arr'/\arr'.size=arr.size/\(∀q,q<k*sz->arr'[q]?=arr[q]?)/\∀(i:Nat) p,vals[i]?=some p->∀j,j<sz->arr'[(k+i)*sz+j]?=p.2.cells[j]?
 | [],k,arr,_,_=>⟨arr,rfl,rfl,fun _ _=>rfl,by simp⟩
 | (i0,x)::vals,k,arr,hv,hl=>by
   obtain⟨h0,hx⟩:=hv 0 _ rfl
   simp only[qcc]at h0
   simp only at hx
   subst h0
   simp only[qal]at hl
   have hle:(i0+1)*sz≤(i0+(vals.length+1))*sz:=qaD _ (by omega)
   rw[qaX]at hle
   have hfold:=znb x.cells.toList (i0*sz) 0 arr (by simp;omega)
   have hstep:Instr.fill pl arr ((i0,x)::vals)=Instr.fill pl ((x.cells.toList.zipIdx 0).foldl (fun cs (x:Value×Nat)=>cs.setIfInBounds (i0*sz+x.2) x.1) arr) vals:=by
    rw[Instr.fill,hpl]
    simp only
    rw[if_neg (by simp[hx];omega),<-Array.foldl_toList,Array.toList_zipIdx]
   obtain⟨arr',g1,g2,g3,g4⟩:=zm6 pl hpl vals (i0+1) _ (fun i p hp=>by
    obtain⟨e1,e2⟩:=hv (i+1) p (by simpa using hp)
    exact⟨by omega,e2⟩) (by rw[hfold.1,show i0+1+vals.length=i0+(vals.length+1) from by omega];exact hl)
   refine⟨arr',by rw[hstep];exact g1,by rw[g2,hfold.1],fun q hq=>?_,fun i p hp j hj=>?_⟩
   ·have h2:q<(i0+1)*sz:=by rw[qaX];omega
    rw[g3 q h2,hfold.2 q,if_neg (by simp;omega)]
   ·cases i with
    | zero=>
      simp at hp;subst hp
      have h2:(i0+0)*sz+j<(i0+1)*sz:=by
       have:(i0+1)*sz=i0*sz+sz:=by rw[qaX,Nat.one_mul]
       rw[this,qcc];omega
      rw[g3 _ h2,hfold.2,if_pos (by simp;omega)]
      simp
    | succ i=>
      have:=g4 i p (by simpa using hp) j hj
      rw[show i0+(i+1)=i0+1+i from by omega];exact this
def zef(sz:Nat):Nat->List (Nat×SV)->Option (List T)
 | _,[]=>some []
 | k,(i,v)::r=>match v.toT,zef sz (k+1) r with
   | some t,some l=>bif Nat.beq i k && v.solid && t.solid then some (t::l) else none
   | _,_=>none
theorem zho{sz:Nat}:∀ {k:Nat} {l:List (Nat×SV)} {es:List T},zef sz k l=some es->es.length=l.length/\∀(i:Nat) p,l[i]?=some p->∃t,es[i]?=some t/\p.1=k+i/\p.2.toT=some t/\p.2.solid=true/\t.solid=true
 | k,[],es,h=>by simp[zef]at h;subst h;simp
 | k,(i0,v)::r,es,h=>by
   simp only[zef]at h
   cases h1:v.toT with
   | none=>rw[h1]at h;cases h
   | some t=>
     rw[h1]at h
     cases h2:zef sz (k+1) r with
     | none=>rw[h2]at h;cases h
     | some l=>
       rw[h2]at h
       simp only at h
       cases h3:(Nat.beq i0 k && v.solid && t.solid) with
       | false=>rw[h3]at h;cases h
       | true=>
         rw[h3]at h;cases h
         simp only[qau]at h3
         obtain⟨⟨e1,e2⟩,e3⟩:=h3
         have e1':=qbf e1
         obtain⟨g1,g2⟩:=zho h2
         refine⟨by simp[g1],fun i p hp=>?_⟩
         cases i with
         | zero=>simp at hp;subst hp;exact⟨t,rfl,by simpa using e1',h1,e2,e3⟩
         | succ i=>
           obtain⟨t',q1,q2,q3⟩:=g2 i p (by simpa using hp)
           exact⟨t',by simpa using q1,by omega,q3⟩
theorem TO.buildSlice(hT:zaw P tab){t e:TypeId}{i ie:TyI}{len sz:Nat}{parts:Array (Nat×Operand)}{ps:List (Nat×SV)}{es:List T}(hd:Nat.ble (d+1) n=true)(ht:tab.get t=some i)(hk:i.k= .slice e)(he:tab.get e=some ie)(hs:ie.size=sz)
  (hp:env.parts parts.toList=some ps)(hes:zef sz 0 ps=some es)(hlen:Nat.beq len es.length=true)(hsz:∀t∈es,t.cells.length=sz)(hsm:Nat.ble (len*sz) 16777216=true)
  (k:TO false P n all rest ((d,.t (.sl sz es))::env) H K):TO false P n all (⟨some d,.buildSlice t len parts,ty,pos,aft,none⟩::rest) env H K:=
 TO.eff hd (fun m ac h1 h2 h3=>by
  subst h1
  have hlen':=qbf hlen
  have hsm':=qag hsm
  obtain⟨e1,e2⟩:=zho hes
  obtain⟨p1,p2⟩:=h3.parts parts.toList ps hp
  obtain⟨z,hz1,hz2,_,_⟩:=(hT e ie he).zero
  have hzl:z.cells.size=sz:=by
   exact zwdx
  have hval:∀(i:Nat) p,(parts.toList.map fun x=>(x.1,ac.eval x.2))[i]?=some p->∃t,es[i]?=some t/\p.1=0+i/\p.2.cells.size=sz/\(∀(j:Nat) y,p.2.cells[j]?=some y->y.oneCell'=true)/\∀(j:Nat) c y,t.cells[j]?=some c->p.2.cells[j]?=some y->TRel m.A m.w c y:=by
   intro i p hpi
   have hi:=(qaa.1 hpi).1
   have hps:ps[i]?=some (ps[i]'(by omega)):=qac _
   obtain⟨t,q1,q2,q3,q4,q5⟩:=e2 i _ hps
   obtain⟨r1,r2⟩:=p2 i _ p hps hpi
   obtain⟨c1,c2,c3⟩:=(r2.toT q3).cells q5
   exact⟨t,q1,by rw[<-r1];exact q2,by rw[c1];exact hsz t (qas q1),c2,c3⟩
  obtain⟨z0,hz0⟩:∃z0:Array Value,z0=if len*sz=0 then #[] else z.cells:=⟨_,rfl⟩
  obtain⟨arr,g1,g2,_,g4⟩:=zm6 (sz:=sz) (fun i=>some (i*sz,sz)) (fun _=>rfl) (parts.toList.map fun x=>(x.1,ac.eval x.2)) 0 ((Array.range (len*sz)).map (fun j=>z0[j % z0.size]!)) (fun i p hpi=>by
   obtain⟨t,_,h5,h6,_⟩:=hval i p hpi
   exact⟨h5,h6⟩) (by
   simp
   have h1:parts.size=len:=by simp at p1;omega
   rw[h1];exact qae _)
  have g2':arr.size=len*sz:=by rw[g2];simp
  have hcell:∀o,(m.w.alloc (.cells arr e)).cell? ⟨m.w.heap.size,o,none⟩=arr[o]? :=fun o=>World.cell?_alloc_new ..
  obtain⟨s,hm'⟩:=grow h2 (A':=fun b o=>m.A b o\/(b=m.w.heap.size/\o<arr.size)) (βn:=[]) (Hn:=[]) (w':=m.w.alloc (.cells arr e)) rfl rfl rfl (by simp) (fun b hb=>RowKit.Below.heap_alloc _ _ _ hb) (fun _ _ h=>.inl h) (fun b o h=>by
   rcases h with h|h
   ·exact .inl h
   ·exact .inr ⟨by omega,by simp;omega⟩) rfl (by simp) (by simp) (by simp) (by simp)
  refine⟨.slice (some ⟨m.w.heap.size,0,none⟩) len len,⟨fun b o=>m.A b o\/(b=m.w.heap.size/\o<arr.size),m.β,m.H,m.w.alloc (.cells arr e)⟩,?_,by simpa using s,by simpa using hm',rfl,?_⟩
  ·have hrun:(Instr.buildSlice t len (parts.map fun(i,x)=>(i,ac.eval x))).run P m.w= .ok (.slice (some ⟨m.w.heap.size,0,none⟩) len len) (m.w.alloc (.cells arr e)):=by
    have hbig:¬len*sz > 2 ^ 24:=by omega
    have hfl:(parts.map fun(x:Nat×Operand)=>(x.1,ac.eval x.2)).toList=parts.toList.map fun x=>(x.1,ac.eval x.2):=by simp
    unfold Instr.buildSlice
    by_cases h0:len*sz=0
    ·simp only[h0,if_true]at hz0
     subst hz0
     simp only[Sem.run_bind,underlying,run_program,Result.andThen_ok,(hT t i ht).slice hk,Sem.run_pure,(hT e ie he).sizeOf,hs,if_neg hbig,if_pos h0]
     rw[h0]at g1⊢
     rw[hfl,g1]
     simp[newRow]
    ·simp only[if_neg h0]at hz0
     subst hz0
     simp only[Sem.run_bind,underlying,run_program,Result.andThen_ok,(hT t i ht).slice hk,Sem.run_pure,(hT e ie he).sizeOf,hs,if_neg hbig,if_neg h0,hz1]
     rw[hfl,g1]
     simp[newRow]
   simp only[execOp,Sem.run_bind,hrun];rfl
  ·have s':Step m ⟨fun b o=>m.A b o\/(b=m.w.heap.size/\o<arr.size),m.β,m.H,m.w.alloc (.cells arr e)⟩:=by simpa using s
   refine .t _ _ ?_
   rw[hlen']
   have bnd:∀i j,i<es.length->j<sz->i*sz+j<len*sz:=by
    intro i j hi hj
    have:(i+1)*sz≤len*sz:=qaD _ (by omega)
    rw[qaX]at this;omega
   have getp:∀i,i<es.length->∃p,(parts.toList.map fun x=>(x.1,ac.eval x.2))[i]?=some p:=fun i hi=>⟨_,qac (by omega)⟩
   refine .sl sz es m.w.heap.size 0 es.length (fun q=>(arr[q]?).getD undef) (qae _) (fun i t ht=>hsz t (qas ht)) (fun i j hi hj=>.inr ⟨rfl,by have:=bnd i j hi hj;omega⟩) (fun i j hi hj=>?_) (fun i j hi hj=>?_) (fun i t j c ht hc=>?_)
   ·have:=bnd i j hi hj
    rw[qaU]
    show(m.w.alloc (.cells arr e)).cell? _=_
    rw[hcell,qam (by omega)];rfl
   ·obtain⟨p,hpi⟩:=getp i hi
    obtain⟨t,_,_,h6,h7,_⟩:=hval i p hpi
    have:=g4 i p hpi j hj
    rw[qaU]at this
    simp only[this]
    rw[qam (by omega)]
    exact h7 j _ (qam (by omega))
   ·have hi:=(qaa.1 ht).1
    have hjl:=(qaa.1 hc).1
    have hjs:j<sz:=by rw[<-hsz t (qas ht)];exact hjl
    obtain⟨p,hpi⟩:=getp i hi
    obtain⟨t',h4,_,h6,_,h8⟩:=hval i p hpi
    rw[ht]at h4;cases h4
    have:=g4 i p hpi j hjs
    rw[qaU]at this
    simp only[this]
    rw[qam (by omega)]
    exact s'.trel h2 (h8 j c _ hc (qam (by omega)))) k
end rules
section rules
variable {P:Program}{n:Nat}{env:Env}{H:Heap}{K:TK}{all:Array Oper}{rest:List Oper}{tab:Tab}{q:Bool}
variable {d:Nat}{ty:TypeId}{pos:String}{aft:Array Edge}
theorem Then.normal{y:Code}(h:TR P n y env H K):Then P n y K .normal env H:=h
theorem Then.exit{y:Code}{i:Nat}(h:K (.exit i) env H):Then P n y K (.exit i) env H:=h
theorem Then.ret{y:Code}(h:K .ret env H):Then P n y K .ret env H:=h
theorem zag.normal{i:Nat}(h:K .normal env H):zag i K .normal env H:=h
theorem zag.ret{i:Nat}(h:K .ret env H):zag i K .ret env H:=h
theorem zag.same{i j:Nat}(e:Nat.beq j i=true)(h:K .normal env H):zag i K (.exit j) env H:=by
 have:=qbf e
 subst this
 show(if j=j then K .normal env H else _)
 rw[if_pos rfl];exact h
theorem zag.other{i j:Nat}(e:Nat.beq j i=false)(h:K (.exit j) env H):zag i K (.exit j) env H:=by
 have:j≠i:=fun e'=>by subst e';simp at e
 show(if j=i then _ else _)
 rw[if_neg this];exact h
theorem TR.zva{c:Operand}{x y:Code}(hc:env.val c=some (.t (.v (.bool true))))(h:TR P n x env H K):TR P n (.cond c x y) env H K:=TR.cond hc (fun _=>h) (fun e=>by cases e)
theorem TR.zu9{c:Operand}{x y:Code}(hc:env.val c=some (.t (.v (.bool false))))(h:TR P n y env H K):TR P n (.cond c x y) env H K:=TR.cond hc (fun e=>by cases e) (fun _=>h)
theorem TO.cmp{op:BinOp}{t t':TypeId}{x y:Operand}{a b:Value}{c:Bool}(hd:Nat.ble (d+1) n=true)(hx:env.val x=some (.t (.v a)))(hy:env.val y=some (.t (.v b)))
  (hz:zbG op a b=some (.bool c))(ht:c=true->TO q P n all rest ((d,.t (.v (.bool true)))::env) H K)(hf:c=false->TO q P n all rest ((d,.t (.v (.bool false)))::env) H K):
  TO q P n all (⟨some d,.binOp op t x y t',ty,pos,aft,none⟩::rest) env H K:=by
 cases c
 ·exact TO.bin hd hx hy hz (hf rfl)
 ·exact TO.bin hd hx hy hz (ht rfl)
theorem TO.zd4{cargs:List SV}{b:Bool}{f:Operand}{fid:FuncId}{caps:List SV}{args:Array Operand}{ts:Array TypeId}{vs:List SV}(hs:Pure P fid cargs (.t (.v (.bool b))))(hd:Nat.ble (d+1) n=true)
  (hf:env.val f=some (.fn fid caps))(ha:env.vals args.toList=some vs)(hl:LesB H (vs++caps) cargs)
  (kt:b=true->TO q P n all rest ((d,.t (.v (.bool true)))::env) H K)(kf:b=false->TO q P n all rest ((d,.t (.v (.bool false)))::env) H K):
  TO q P n all (⟨some d,.call { callee:=.value f,args:=args,argTypes:=ts },ty,pos,aft,none⟩::rest) env H K:=by
 cases b
 ·exact TO.ztF hs hd hf ha hl (.v _) (kf rfl)
 ·exact TO.ztF hs hd hf ha hl (.v _) (kt rfl)
theorem Le.of_eq{a b:SV}(h:a=b):Le a b:=h ▸ Le.refl a
theorem RetK.pure{rs:List ResultVar}{vs:List SV}{v:SV}(hr:zb1 tab env H rs=some vs)(hl:Le (pack vs) v)(hu:v.under 0=true):RetK tab rs 0 (fun r H'=>r= .ret v/\H'=[]) .ret env H:=
 ⟨vs,v,0,hr,hl,qae _,qaJ _,hu,rfl,rfl,rfl⟩
theorem TO.eqs{t t':TypeId}{x y:Operand}{a b:Str}(hd:Nat.ble (d+1) n=true)(hx:env.val x=some (.t (.v (str a))))(hy:env.val y=some (.t (.v (str b))))
  (ht:(a == b)=true->TO q P n all rest ((d,.t (.v (.bool true)))::env) H K)(hf:(a == b)=false->TO q P n all rest ((d,.t (.v (.bool false)))::env) H K):
  TO q P n all (⟨some d,.binOp .eql t x y t',ty,pos,aft,none⟩::rest) env H K:=
 TO.cmp (c:=(a == b)) hd hx hy rfl ht hf
theorem TO.nes{t t':TypeId}{x y:Operand}{a b:Str}(hd:Nat.ble (d+1) n=true)(hx:env.val x=some (.t (.v (str a))))(hy:env.val y=some (.t (.v (str b))))
  (ht:(a == b)=true->TO q P n all rest ((d,.t (.v (.bool false)))::env) H K)(hf:(a == b)=false->TO q P n all rest ((d,.t (.v (.bool true)))::env) H K):
  TO q P n all (⟨some d,.binOp .neq t x y t',ty,pos,aft,none⟩::rest) env H K:=
 TO.cmp (c:=!(a == b)) hd hx hy rfl (fun h=>hf (by simpa using h)) (fun h=>ht (by simpa using h))
theorem TO.zkE(hT:zaw P tab){t:TypeId}{i:TyI}{x y:Operand}{l:Str}{ik:IntKind}{j:Nat}{c:UInt8}(hd:Nat.ble (d+1) n=true)(ht:tab.get t=some i)(hk:i.k= .str)(hx:env.val x=some (.t (.v (str l))))
  (hy:env.val y=some (.t (.v (.int ik (j:Int)))))(hc:l[j]?=some c)(k:TO q P n all rest ((d,.t (.v (.int .u8 c.toNat)))::env) H K):TO q P n all (⟨some d,.index t x y,ty,pos,aft,none⟩::rest) env H K:=
 TO.zfx hT hd ht hk hx hy (by omega) (by simpa using hc) k
theorem TO.zey(hT:zaw P tab){t e:TypeId}{i ie:TyI}{x y:Operand}{v:SV}{sz:Nat}{es:List T}{ik:IntKind}{j:Nat}{el:T}{cs:List T}(hd:Nat.ble (d+1) n=true)(ht:tab.get t=some i)(hk:i.k= .slice e)
  (he:tab.get e=some ie)(hs:ie.size=sz)(hx:env.val x=some v)(hv:v.elems sz=some es)(hy:env.val y=some (.t (.v (.int ik (j:Int)))))(hj:es[j]?=some el)(hcs:el.cells=cs)
  (k:TO q P n all rest ((d,.cp cs 0)::env) H K):TO q P n all (⟨some d,.indexAddr t x y,ty,pos,aft,none⟩::rest) env H K:=
 TO.indexAddr hT hd ht hk he hs hx hv hy (by omega) (by simpa using hj) (by rw[hcs];exact k)
theorem TO.ztd(hT:zaw P tab){t:TypeId}{i:TyI}{x y z:Operand}{l:Str}{a b:Nat}{ik ik':IntKind}(hd:Nat.ble (d+1) n=true)(ht:tab.get t=some i)(hk:i.k= .str)
  (hx:env.val x=some (.t (.v (str l))))(hy:env.val y=some (.t (.v (.int ik (a:Int)))))(hz:env.val z=some (.t (.v (.int ik' (b:Int)))))(h1:a≤b)(h2:b≤l.length)
  (k:TO q P n all rest ((d,.t (.v (str ((l.take b).drop a))))::env) H K):TO q P n all (⟨some d,.slice t x (some y) (some z) none,ty,pos,aft,none⟩::rest) env H K:=
 TO.zhY hT hd ht hk hx (.inr ⟨y,ik,rfl,hy⟩) (.inr ⟨z,ik',rfl,hz⟩) h1 h2 k
theorem TO.zgX(hT:zaw P tab){t:TypeId}{i:TyI}{x y:Operand}{l:Str}{a:Nat}{ik:IntKind}(hd:Nat.ble (d+1) n=true)(ht:tab.get t=some i)(hk:i.k= .str)
  (hx:env.val x=some (.t (.v (str l))))(hy:env.val y=some (.t (.v (.int ik (a:Int)))))(h1:a≤l.length)
  (k:TO q P n all rest ((d,.t (.v (str (l.drop a))))::env) H K):TO q P n all (⟨some d,.slice t x (some y) none none,ty,pos,aft,none⟩::rest) env H K:=
 TO.zhY hT hd ht hk hx (.inr ⟨y,ik,rfl,hy⟩) (.inl ⟨rfl,rfl⟩) h1 (qae _) (by rw[qap];exact k)
theorem TO.zfH(hT:zaw P tab){t:TypeId}{i:TyI}{x z:Operand}{l:Str}{b:Nat}{ik':IntKind}(hd:Nat.ble (d+1) n=true)(ht:tab.get t=some i)(hk:i.k= .str)
  (hx:env.val x=some (.t (.v (str l))))(hz:env.val z=some (.t (.v (.int ik' (b:Int)))))(h2:b≤l.length)
  (k:TO q P n all rest ((d,.t (.v (str (l.take b))))::env) H K):TO q P n all (⟨some d,.slice t x none (some z) none,ty,pos,aft,none⟩::rest) env H K:=
 TO.zhY hT hd ht hk hx (.inl ⟨rfl,rfl⟩) (.inr ⟨z,ik',rfl,hz⟩) (qaJ _) h2 (by simpa using k)
theorem Hands.one{G:Heap}{i:Nat}{b:Blk}(h:G[i]?=some (b.ren (names [i] G.length)))(hb:b.under 1=true):Hands G [i] [b] where
 nodup:=by simp
 lt:=fun x hx=>by
  have:x=i:=by simpa using hx
  subst this
  exact(qaa.1 h).1
 len:=rfl
 H:=fun j k c h1 h2=>by
  cases j with
  | zero=>simp at h1 h2;subst h1;subst h2;exact h
  | succ j=>simp at h1
 under:=fun j c h2=>by
  cases j with
  | zero=>simp at h2;subst h2;exact hb
  | succ j=>simp at h2
theorem TO.zds(l:List Nat){Hc Hc1 H':Heap}{cargs:List SV}{v v':SV}{f:Operand}{fid:FuncId}{caps:List SV}{args:Array Operand}{ts:Array TypeId}{vs:List SV}(hs:Sound P fid cargs Hc fun r H'=>r= .ret v/\H'=Hc1)(hd:Nat.ble (d+1) n=true)
  (hf:env.val f=some (.fn fid caps))(ha:env.vals args.toList=some vs)(hl:Les (vs++caps) (rens (names l H.length) cargs))(hu:unders Hc.length cargs=true)(hh:Hands H l Hc)
  (hv:v.ren (names l H.length)=v')(hH:patch H l (Hc1.map (Blk.ren (names l H.length)))=H')(k:TO false P n all rest ((d,v')::env) H' K):
  TO false P n all (⟨some d,.call { callee:=.value f,args:=args,argTypes:=ts },ty,pos,aft,none⟩::rest) env H K:=
 TO.call l hs hd hf ha hl hu hh (fun u Hc' h=>by
  obtain⟨h1,rfl⟩:=h
  cases h1
  rw[hv,hH];exact k) (fun u Hc' h=>by cases h.1)
def Env.under(k:Nat)(env:Env):Bool:=env.all fun x=>x.2.under k
theorem Env.zi3{k:Nat}:∀ {env:Env},env.under k=true->∀i v,env.look i=some v->v.under k=true
 | [],_,i,v,h=>by simp[Env.look]at h
 | (j,u)::r,hs,i,v,h=>by
   simp only[Env.under,qbF,qau]at hs
   by_cases hi:j=i
   ·subst hi
    rw[Env.zat]at h
    cases h
    exact hs.1
   ·rw[Env.zak _ _ hi]at h
    exact Env.zi3 (env:=r) hs.2 i v h
def zab{ι:Type}(I:ι->Prop)(μ:ι->Nat)(E:ι->Env)(G:ι->Heap)(x:ι)(K:TK):TK
 | .normal,env,H=>∃y,I y/\μ y<μ x/\env.sub (E y)/\(H=G y\/∃j,Nat.ble (G x).length j=true/\Nat.ble j H.length=true/\zaa j (H.take j)=true/\(E y).under j=true/\H.take j=G y)
 | e,env,H=>K e env H
theorem TR.zcS{ι:Type}(I:ι->Prop)(μ:ι->Nat)(E:ι->Env)(G:ι->Heap)(x0:ι){c:Code}(hI:I x0)(h0:env.sub (E x0))(hH:H=G x0)
  (step:∀x,I x->TR P n c (E x) (G x) (zab I μ E G x K)):TR P n (.loop c) env H K:=by
 have key:∀m x,μ x=m->I x->TR P n (.loop c) (E x) (G x) K:=by
  intro m
  induction m using Nat.strongRecOn with
  | _ m ih=>
    intro x hm hx
    refine TR.loop ?_
    intro φ m0 a h1 h2 h3 h4
    refine zbk (step x hx φ m0 a h1 h2 h3 h4) ?_
    rintro e a' w ⟨m',env',te,rfl,s,hm',he,hd,hx',hk⟩
    cases te with
    | normal=>
      obtain⟨y,hy,hlt,hs,hc⟩:=hk
      have hl:=ih (μ y) (by omega) y rfl hy
      rcases hc with hc|⟨j,b1,b2,b3,b4,b5⟩
      ·exact⟨m',env',.normal,rfl,s,hm',he,hd,hx',by rw[hc];exact TR.sub (E y) hs hl⟩
      ·have hbl:=qag b1
       obtain⟨s1,hm1,hr⟩:=zgo hm' s (qag b2) (by rw[h2.len,h1];exact hbl) b3
       refine⟨m'.cut j,E y,.normal,rfl,s1,hm1,⟨he.1,fun i v hv=>?_⟩,hd,by cases e <;> first|exact hx'|exact trivial,?_⟩
       ·obtain⟨z,g1,g2⟩:=he.2 i v (Env.zg0 hs i v hv)
        exact⟨z,g1,hr v z (Env.zi3 b4 i v hv) g2⟩
       ·show TR P n (.loop c) (E y) (m'.H.take j) K
        rw[b5];exact hl
    | exit i=>exact⟨m',env',.exit i,rfl,s,hm',he,hd,hx',hk⟩
    | ret=>exact⟨m',env',.ret,rfl,s,hm',he,hd,hx',hk⟩
    | panic v=>
      cases e with
      | panic ch=>
        obtain⟨z,q1,q2⟩:=hx'
        exact⟨m',env',.panic v,rfl,s,hm',he,hd,⟨z,q1,q2⟩,hk⟩
      | _=>exact absurd hx' (by simp[zbu])
 subst hH
 exact TR.sub (E x0) h0 (key _ x0 rfl hI)
section loopk
variable {ι:Type}{I:ι->Prop}{μ:ι->Nat}{E:ι->Env}{G:ι->Heap}{x:ι}
theorem zab.next(y:ι)(hI:I y)(hm:μ y<μ x)(hs:env.sub (E y))(hH:H=G y):zab I μ E G x K .normal env H:=⟨y,hI,hm,hs,.inl hH⟩
theorem zab.cut(j:Nat)(y:ι)(hI:I y)(hm:μ y<μ x)(hs:env.sub (E y))(h1:Nat.ble (G x).length j=true)(h2:Nat.ble j H.length=true)(hH:H.take j=G y)(h3:zaa j (G y)=true)(h4:(E y).under j=true):zab I μ E G x K .normal env H:=⟨y,hI,hm,hs,.inr ⟨j,h1,h2,by rw[hH];exact h3,h4,hH⟩⟩
theorem zab.exit{i:Nat}(h:K (.exit i) env H):zab I μ E G x K (.exit i) env H:=h
theorem zab.ret(h:K .ret env H):zab I μ E G x K .ret env H:=h
theorem zab.panic{v:SV}(h:K (.panic v) env H):zab I μ E G x K (.panic v) env H:=h
end loopk
theorem TO.zhg(hT:zaw P tab){t e:TypeId}{i ie:TyI}{len sz:Nat}{parts:Array (Nat×Operand)}{ps:List (Nat×SV)}{es:List T}(hd:Nat.ble (d+1) n=true)(ht:tab.get t=some i)(hk:i.k= .slice e)(he:tab.get e=some ie)(hs:ie.size=sz)
  (hp:env.parts parts.toList=some ps)(hes:zef sz 0 ps=some es)(hlen:Nat.beq len es.length=true)(hsz:(es.all fun t=>Nat.beq t.cells.length sz)=true)(hsm:Nat.ble (len*sz) 16777216=true)
  (k:TO false P n all rest ((d,.t (.sl sz es))::env) H K):TO false P n all (⟨some d,.buildSlice t len parts,ty,pos,aft,none⟩::rest) env H K:=
 TO.buildSlice hT hd ht hk he hs hp hes hlen (fun t h=>qbf (qaw.1 hsz t h)) hsm k
theorem TO.zoZ(hT:zaw P tab){t t' e:TypeId}{i i' ie:TyI}{sz id:Nat}{es ys:List T}{x y:Operand}{vy:SV}{H':Heap}(hd:Nat.ble (d+1) n=true)(ht:tab.get t=some i)(hk:i.k= .slice e)(ht':tab.get t'=some i')(hk':i'.k= .slice e)
  (he:tab.get e=some ie)(hs:ie.size=sz)(hpos:Nat.ble 1 sz=true)(hx:env.val x=some (.sl sz es id))(hH:H[id]?=some (.tail es.length))(hy:env.val y=some vy)(hvy:vy.elems sz=some ys)
  (hby:Nat.ble ie.bytes 4096=true)(hb1:es.length+ys.length≤10000000000)(hH':H.set id (.tail (es.length+ys.length))=H')
  (k:TO false P n all rest ((d,.sl sz (es++ys) id)::env) H' K):TO false P n all (⟨some d,.call { callee:=.builtin .append,args:=#[x,y],argTypes:=#[t,t'] },ty,pos,aft,none⟩::rest) env H K:=by
 have h1:=qag hby
 have h2:(es.length+ys.length)*ie.bytes≤10000000000*4096:=qb2 hb1 h1
 exact TO.append hT hd ht hk ht' hk' he hs (qag hpos) hx hH hy hvy (by omega) (by omega) (by omega) hH' k
theorem RetK.keep(k:Nat){rs:List ResultVar}{N:Nat}{R:Res->Heap->Prop}{vs:List SV}{v:SV}{H':Heap}(hr:zb1 tab env H rs=some vs)(hl:Le (pack vs) v)(hN:Nat.ble N k=true)(hk:Nat.ble k H.length=true)(hu:v.under k=true)(hH:H.take k=H')
  (hb:zaa k H'=true)(hR:R (.ret v) H'):RetK tab rs N R .ret env H:=
 ⟨vs,v,k,hr,hl,qag hN,qag hk,hu,by rw[hH];exact hb,by rw[hH];exact hR⟩
theorem RetK.zkG(k:Nat){rs:List ResultVar}{N:Nat}{R:Res->Heap->Prop}{vs:List SV}{v:SV}{H':Heap}(hr:zb1 tab env H rs=some vs)(hl:Le (pack vs) v)(hN:Nat.ble N k=true)(hk:Nat.ble k H.length=true)(hu:v.under k=true)(hH:H.take k=H')
  (hb:zaa k H'=true)(hR:R (.ret v) H'):RetK tab rs N R .normal env H:=
 ⟨vs,v,k,hr,hl,qag hN,qag hk,hu,by rw[hH];exact hb,by rw[hH];exact hR⟩
end rules
section rules
variable {P:Program}{n:Nat}{env:Env}{H:Heap}{K:TK}{all:Array Oper}{rest:List Oper}{tab:Tab}{q:Bool}
variable {d:Nat}{ty:TypeId}{pos:String}{aft:Array Edge}
theorem zut{t:TypeId}(hu:P.underlying t=some .bool)(a b:Bool)(w:World):(Go.binOp .neq t (.bool a) (.bool b)).run P w= .ok (.bool (!(a == b))) w:=by
 have h:∀d:Nat,(Op.equalIn (d+1) t (.bool a) (.bool b)).run P w= .ok (a == b) w:=fun d=>by
  simp[Op.equalIn,run_underlying hu]
 simp only[Go.binOp]
 simp[Op.equal,Op.maxDepth,h 9999]
theorem TO.neb{t t':TypeId}{x y:Operand}{a b:Bool}(hd:Nat.ble (d+1) n=true)(hx:env.val x=some (.t (.v (.bool a))))(hy:env.val y=some (.t (.v (.bool b))))(hu:P.underlying t=some .bool)
  (k:TO q P n all rest ((d,.t (.v (.bool (!(a == b)))))::env) H K):TO q P n all (⟨some d,.binOp .neq t x y t',ty,pos,aft,none⟩::rest) env H K:=
 TO.op hd (fun m ac h1 h2 h3=>⟨.bool (!(a == b)),fun w' hw'=>by
  have ex:=(h3.val hx).v_eq
  have ey:=(h3.val hy).v_eq
  simp[execOp,ex,ey,eqGuard,zut hu],.t _ _ (.v _)⟩) k
end rules
theorem ze4{m:M}(hm:HRel m){id:Nat}{k0 k1:Blk}{p p':Place}{A':Foot}{w':World}(hp:m.β[id]?=some p)(hH:m.H[id]?=some k0)(hlive:k0.live=true)(hos:w'.os=m.w.os)(htp:w'.tape=m.w.tape)(hou:w'.output=m.w.output)
  (hsz:m.w.heap.size≤w'.heap.size)(hcell:∀b o,b<m.w.heap.size->¬(b=p.b/\p.lo≤o/\o<p.hi)->w'.cell? ⟨b,o,none⟩=m.w.cell? ⟨b,o,none⟩)(hfr:∀b o,b<m.w.heap.size->¬(b=p.b/\p.lo≤o/\o<p.hi)->(m.w.cell? ⟨b,o,none⟩).isSome=true->w'.frozen? ⟨b,o,none⟩=m.w.frozen? ⟨b,o,none⟩)
  (hblk:∀b,b<m.w.heap.size->(b≠p.b\/p.hi≤p.lo)->w'.heap[b]?=m.w.heap[b]?)(hsm:∀b o,b<m.w.heap.size->(m.w.cell? ⟨b,o,none⟩).isSome=true->(w'.cell? ⟨b,o,none⟩).isSome=true)(hshp:∀b s,m.w.shape? b=some s->w'.shape? b=some s)
  (hA:∀b o,m.A b o->A' b o)(hA':∀b o,A' b o->m.A b o\/(b=p.b/\p.lo≤o/\o<p.hi)\/(m.w.heap.size≤b/\b<w'.heap.size))
  (hp':k1.live=true->(p'.b=p.b/\p.lo≤p'.lo/\p'.hi≤p.hi)\/(m.w.heap.size≤p'.b/\p'.b<w'.heap.size)\/p'.hi≤p'.lo)(hdis:k1.live=true->∀b o,A' b o->¬m.A b o->¬(b=p'.b/\p'.lo≤o/\o<p'.hi))
  (hthere:∀o,p.lo≤o->o<p.hi->(m.w.cell? ⟨p.b,o,none⟩).isSome=true)(hid':zaZ (some k0) (some k1) p p')
  (hnew:Step m ⟨A',m.β.set id p',m.H.set id k1,w'⟩->zi5 ⟨A',m.β.set id p',m.H.set id k1,w'⟩ p' k1):
  Step m ⟨A',m.β.set id p',m.H.set id k1,w'⟩/\HRel ⟨A',m.β.set id p',m.H.set id k1,w'⟩:=by
 have hid:=(qaa.1 hH).1
 have hidβ:=(qaa.1 hp).1
 have pick:∀(i:Nat) q k,(m.β.set id p')[i]?=some q->(m.H.set id k1)[i]?=some k->(i=id/\q=p'/\k=k1)\/(i≠id/\m.β[i]?=some q/\m.H[i]?=some k):=by
  exact zwbd
 have ownp:∀o,p.lo≤o->o<p.hi->Own m p.b o:=fun o h1 h2=>⟨id,p,_,hp,hH,hlive,rfl,h1,h2⟩
 have hpin:p.lo<p.hi->p.b<m.w.heap.size:=fun h=>hm.inO id p _ hp hH hlive h
 have s:Step m ⟨A',m.β.set id p',m.H.set id k1,w'⟩:=by
  refine⟨hos,htp,hou,hsz,hA,fun b o h=>?_,fun b o h=>?_,fun b o hb hno=>hcell b o hb fun h=>hno (by rw[h.1];exact ownp o h.2.1 h.2.2),fun b o hb hno hc=>hfr b o hb (fun h=>hno (by rw[h.1];exact ownp o h.2.1 h.2.2)) hc,fun b hb hno=>hblk b hb ?_,hshp,fun b L hL=>⟨L,(hblk b (qaj.1 hL).1 ?_).trans hL⟩,fun b o hb h=>hsm b o hb h,fun i q hq=>?_⟩
  ·exact zwcx
  ·obtain⟨i,q,k,h1,h2,h3,h4,h5,h6⟩:=h
   rcases pick i q k h1 h2 with ⟨rfl,rfl,rfl⟩|⟨_,g1,g2⟩
   ·rcases hp' h3 with g|g|g
    ·exact zwfq
    ·exact .inr (by rw[<-h4];exact g.1)
    ·omega
   ·exact .inl ⟨i,q,k,g1,g2,h3,h4,h5,h6⟩
  ·exact zwce
  ·by_cases hb':b=p.b
   ·by_cases hl:p.lo<p.hi
    ·exfalso
     have:=hthere p.lo (qae _) hl
     rw[<-hb']at this
     simp[World.cell?,hL]at this
    ·exact .inr (by omega)
   ·exact .inl hb'
  ·by_cases hi:i=id
   ·subst hi
    have:q=p:=by rw[hp]at hq;cases hq;rfl
    subst this
    refine⟨p',by show(m.β.set i p')[i]?=_;rw[qav hidβ],?_⟩
    show zaZ m.H[i]? (m.H.set i k1)[i]? q p'
    rw[qav hid,hH]
    exact hid'
   ·refine⟨q,by show(m.β.set id p')[i]?=_;rw[qaF (by omega)];exact hq,zb4 ?_⟩
    show(m.H.set id k1)[i]?=m.H[i]?
    rw[qaF (by omega)]
 refine⟨s,by simpa using hm.len,fun i q k h1 h2=>?_,fun i j q r k l hij h1 h2 h3 h4 hk hl=>?_,fun b o h=>?_,fun b o h=>?_,fun i q k h1 h2 hk hq=>?_,s.glob hm⟩
 ·rcases pick i q k h1 h2 with ⟨rfl,rfl,rfl⟩|⟨hi,g1,g2⟩
  ·exact hnew s
  ·cases hlv:k.live with
   | false=>cases k <;> simp[Blk.live]at hlv;trivial
   | true=>
     have hb:=hm.blk i q k g1 g2
     have hap:=hm.apart i id q p k _ hi g1 g2 hp hH hlv hlive
     refine hb.step hm s (fun o ho ho'=>?_) (fun e=>?_)
     ·have hqs:=hm.inO i q k g1 g2 hlv (by omega)
      have hne:¬(q.b=p.b/\p.lo≤o/\o<p.hi):=fun h=>by have:=hap h.1;omega
      exact⟨hcell _ _ hqs hne,fun hc=>hfr _ _ hqs hne hc⟩
     ·obtain⟨e1,e2,e3⟩:=hb.zc1 e
      have hqs:=hm.inO i q _ g1 g2 hlv (by omega)
      refine hblk _ hqs ?_
      by_cases hqb:q.b=p.b
      ·by_cases hl:p.lo<p.hi
       ·have:=hthere p.lo (qae _) hl
        rw[<-hqb,e3]at this
        cases this
       ·exact .inr (by omega)
      ·exact .inl hqb
 ·have inP:∀(i:Nat) r l,k1.live=true->i≠id->m.β[i]?=some r->m.H[i]?=some l->l.live=true->p'.apart r:=by
   intro i r l hl1 hi h1 h2 hl e
   by_cases hlt:r.lo<r.hi
   ·have hrs:=hm.inO i r l h1 h2 hl hlt
    rcases hp' hl1 with g|g|g
    ·have:=hm.apart i id r p l _ hi h1 h2 hp hH hl hlive (by rw[<-e,g.1])
     omega
    ·omega
    ·omega
   ·omega
  rcases pick i q k h1 h2 with ⟨rfl,rfl,rfl⟩|⟨hi,g1,g2⟩ <;> rcases pick j r l h3 h4 with ⟨rfl,rfl,rfl⟩|⟨hj,g3,g4⟩
  ·exact absurd rfl hij
  ·exact inP j r l hk hj g3 g4 hl
  ·intro e;have:=inP i q k hl hi g1 g2 hk e.symm;omega
  ·exact hm.apart i j q r k l hij g1 g2 g3 g4 hk hl
 ·rintro⟨i,q,k,h1,h2,h3,h4,h5,h6⟩
  rcases pick i q k h1 h2 with ⟨rfl,rfl,rfl⟩|⟨hi,g1,g2⟩
  ·by_cases ha:m.A b o
   ·rcases hp' h3 with g|g|g
    ·exact zwes
    ·have:=hm.inA b o ha;omega
    ·omega
   ·exact hdis h3 b o h ha ⟨h4.symm,h5,h6⟩
  ·rcases hA' b o h with h|h|h
   ·exact hm.still b o h ⟨i,q,k,g1,g2,h3,h4,h5,h6⟩
   ·have:=hm.apart i id q p k _ hi g1 g2 hp hH h3 hlive (by rw[h4,h.1])
    omega
   ·have:=hm.inO i q k g1 g2 h3 (by omega);omega
 ·exact zwcq
 ·rcases pick i q k h1 h2 with ⟨rfl,rfl,rfl⟩|⟨hi,g1,g2⟩
  ·rcases hp' hk with g|g|g
   ·rw[g.1];exact qa0 (hpin (by omega)) hsz
   ·exact g.2
   ·omega
  ·exact qa0 (hm.inO i q k g1 g2 hk hq) hsz
set_option maxHeartbeats 1000000 in
theorem zeS {P:Program} {tab:Tab} (hT:zaw P tab) {m:M} (hm:HRel m) {t t' e:TypeId} {i ie:TyI} {id len:Nat} {cs ns:List T} {x y:Value} {vs:List Value} {ty:TypeId} (ht:tab.get t=some i) (hk:i.k= .slice e) (he:tab.get e=some ie) (hs:ie.size=1)
  (hx:SRel m (.rw id len) x) (hH:m.H[id]?=some (.row e cs)) (hlen:len=cs.length) (hvl:vs.length=ns.length) (hu:P.underlying t'=some .string\/∃e',P.underlying t'=some (.slice e')) (hlo:∀w,(Builtin.lenOf y).run P w= .ok vs.length w)
  (hfc:∀w':World,w'.heap=m.w.heap->(Builtin.firstCells 1 vs.length y).run P w'= .ok vs.toArray w') (h1:∀v∈vs,v.oneCell'=true) (hr:∀(i:Nat) c v,ns[i]?=some c->vs[i]?=some v->TRel m.A m.w c v)
  (hb:(cs.length+vs.length)*ie.bytes≤70368744177664) (hb1:cs.length+vs.length≤70368744177664) (hby:ie.bytes≤65536):
  ∃z m',(Builtin.append_ #[t,t'] ty #[x,y]).run P m.w= .ok z m'.w/\Step m m'/\HRel m'/\m'.H=m.H.set id (.row e (cs++ns))/\SRel m' (.rw id (cs++ns).length) z:=by
 subst hlen
 cases hx with
 | rw _ _ _ p hp hx ho=>
 obtain⟨_,ho2⟩:=ho _ (by rw[hH];rfl)
 obtain⟨ad,cap,rfl,hlc,hlo0,hhi,hown⟩:=ho2 rfl
 obtain⟨⟨b1,b2,b3⟩,b4,b5⟩:=hm.blk id p _ hp hH
 obtain⟨ti,hti,hti1,hti2⟩:=(hT e ie he).info
 obtain⟨z,hz1,hz2,_,_⟩:=(hT e ie he).zero
 have hzl:z.cells.size=1:=by
  exact zwdx
 have hidβ:=(qaa.1 hp).1
 have hidH:=(qaa.1 hH).1
 have hset:(m.H.set id (.row e (cs++ns)))[id]?=some (.row e (cs++ns)):=qav hidH
 have hex:∀j,∃y,j<cs.length->m.w.cell? ⟨p.b,j,none⟩=some y/\y.oneCell'=true/\∀c,cs[j]?=some c->TRel m.A m.w c y:=by
  intro j
  by_cases hj:j<cs.length
  ·obtain⟨y,hy1,hy0,hy2⟩:=b5 j cs[j] (qac hj)
   rw[b1,qaU]at hy1
   exact⟨y,fun _=>⟨hy1,hy0,fun c hc=>by rw[qac hj]at hc;cases hc;exact hy2⟩⟩
  ·exact⟨undef,fun h=>absurd h hj⟩
 obtain⟨f,hf⟩:=qbJ hex
 by_cases hfit:cs.length+vs.length≤cap
 ·have hrun:(Builtin.append_ #[t,t'] ty #[.slice ad cs.length cap,y]).run P m.w=
    (match ad with
      | none=>.ok (.slice none (cs.length+vs.length) cap) m.w
      | some a=>((storeCells (a.add (cs.length*1)) vs).run P m.w).andThen fun _ w'=>.ok (.slice (some a) (cs.length+vs.length) cap) w'):=by
   simp only[Builtin.append_]
   rcases hu with hdd|⟨e',hdd⟩ <;> (simp[underlying,hdd,(hT t i ht).slice hk,(hT e ie he).sizeOf,hs,hlo,hfit,hfc m.w rfl];cases ad <;> simp)
  cases ad with
  | none=>
    subst hown
    have hcs:cs=[]:=qaM (by omega)
    have hvs:vs=[]:=qaM (by omega)
    have hns:ns=[]:=qaM (by rw[<-hvl,hvs];rfl)
    subst hcs;subst hvs;subst hns
    obtain⟨s,hm'⟩:=ze4 hm (k1:=.row e ([]++[])) (p':=p) (A':=m.A) (w':=m.w) hp hH rfl rfl rfl rfl (qae _) (fun _ _ _ _=>rfl) (fun _ _ _ _ _=>rfl) (fun _ _ _=>rfl) (fun _ _ _ h=>h) (fun _ _ h=>h) (fun _ _ h=>h) (fun _ _ h=>.inl h)
     (fun _=>.inr (.inr (by omega))) (fun _ _ _ h h'=>absurd h h') (fun o q1 q2=>by omega) (zaZ.refl _ _) (fun _=>⟨⟨b1,by simp,fun h=>by omega⟩,fun o _ h=>by omega,by simp⟩)
    refine⟨_,⟨m.A,m.β.set id p,m.H.set id (.row e ([]++[])),m.w⟩,hrun,s,hm',rfl,.rw _ _ _ p (by show(m.β.set id p)[id]?=_;rw[qav hidβ]) ⟨_,_,_,rfl⟩ fun k hk=>?_⟩
    have hk':tlOf (m.H.set id (.row e ([]++[])))[id]?=some k:=hk
    rw[qav hidH]at hk'
    cases hk'
    exact⟨qae _,fun _=>⟨none,0,rfl,qae _,hlo0,hhi,rfl⟩⟩
  | some a=>
    simp only at hown
    obtain⟨rfl,hcap0⟩:=hown
    have hst:=run_storeCells_cells (P:=P) p.b (0+cs.length*1) vs 0 m.w (fun q hq=>(b4 _ (by omega) (by omega)).1) (fun q hq=>(b4 _ (by omega) (by omega)).2) h1
    obtain⟨e1,e2,e3,e4,e5,e6⟩:=zbV p.b vs (0+cs.length*1) m.w
    have hout:∀b o,¬(b=p.b/\cs.length≤o/\o<cs.length+vs.length)->(m.w.setCells p.b (0+cs.length*1) vs).cell? ⟨b,o,none⟩=m.w.cell? ⟨b,o,none⟩:=by
     intro b o hn
     exact World.cell?_setCells_out _ _ _ _ _ fun q1 _=>by simp only at *;omega
    have hin:∀q (hq:q<vs.length),(m.w.setCells p.b (0+cs.length*1) vs).cell? ⟨p.b,cs.length+q,none⟩=some vs[q]:=by
     intro q hq
     have:=World.cell?_setCells_in p.b vs (0+cs.length*1) m.w (fun j hj=>(b4 _ (by omega) (by omega)).1) q hq
     simpa using this
    obtain⟨s,hm'⟩:=ze4 hm (k1:=.row e (cs++ns)) (p':=p) (A':=m.A) (w':=m.w.setCells p.b (0+cs.length*1) vs) hp hH rfl e1 e2 e3 (by rw[e4];exact qae _) (fun b o _ hn=>hout b o (by omega)) (fun b o _ _ _=>World.frozen?_setCells _ _ _ _ _)
     (fun b _ hb=>by
       rcases hb with hb|hb
       ·exact e5 b hb
       ·have:vs=[]:=qaM (by omega)
        rw[this];rfl)
     (fun b o _ h=>by
       by_cases hb:b=p.b
       ·subst hb;rw[e6];exact h
       ·rw[hout b o (by omega)];exact h)
     (fun b s hs=>by rw[zcC];exact hs) (fun _ _ h=>h) (fun _ _ h=>.inl h) (fun _=>.inl ⟨rfl,qae _,qae _⟩) (fun _ _ _ h h'=>absurd h h') (fun o q1 q2=>(b4 o q1 q2).1)
     (fun n' hn'=>by
       simp only[tlOf,qaE]at hn'
       subst hn'
       exact⟨by simp,fun _=>rfl⟩)
     (fun s=>⟨⟨b1,by simp;omega,fun h=>s.shape _ _ (b3 h)⟩,fun o q1 q2=>by
       have:=b4 o q1 q2
       unfold Free at this⊢
       refine⟨?_,?_⟩
       ·show((m.w.setCells p.b (0+cs.length*1) vs).cell? ⟨p.b,o,none⟩).isSome=true
        rw[e6];exact this.1
       ·show(m.w.setCells p.b (0+cs.length*1) vs).frozen? ⟨p.b,o,none⟩=false
        rw[World.frozen?_setCells];exact this.2,fun j c hc=>by
       rw[b1,qaU (j)]
       show ∃y,(m.w.setCells p.b (0+cs.length*1) vs).cell? ⟨p.b,j,none⟩=some y/\_
       by_cases hj:j<cs.length
       ·rw[qat hj]at hc
        exact⟨f j,by rw[hout _ _ (by omega)];exact(hf j hj).1,(hf j hj).2.1,s.trel hm ((hf j hj).2.2 c hc)⟩
       ·rw[qaA (by omega)]at hc
        have hjl:=(qaa.1 hc).1
        have:=hin (j-cs.length) (by omega)
        rw[show cs.length+(j-cs.length)=j from by omega]at this
        exact⟨_,this,h1 _ (qaf _),s.trel hm (hr _ c _ hc (qac (by omega)))⟩⟩)
    refine⟨.slice (some ⟨p.b,0,none⟩) (cs.length+vs.length) cap,_,?_,s,hm',rfl,.rw _ _ _ p (by show(m.β.set id p)[id]?=_;rw[qav hidβ]) ⟨_,_,_,rfl⟩ fun k hk=>?_⟩
    ·rw[hrun]
     simp only[zbv]
     rw[hst];rfl
    ·have hk':tlOf (m.H.set id (.row e (cs++ns)))[id]?=some k:=hk
     rw[hset]at hk'
     cases hk'
     refine⟨qae _,fun _=>⟨some ⟨p.b,0,none⟩,cap,by rw[qad,hvl],by simp;omega,hlo0,hhi,rfl,hcap0⟩⟩
 ·have hbound:¬Builtin.nextslicecap (cs.length+vs.length) cap*ti.bytes > 2 ^ 48:=by
   have h1:=nextslicecap_le (cs.length+vs.length) cap (by omega)
   have h2:Builtin.nextslicecap (cs.length+vs.length) cap≤2*(cs.length+vs.length)+512:=by omega
   exact zwdq
  have hmax:¬(((cs.length+vs.length:Nat):Int) > IntKind.i64.max/\(False\/ti.bytes=0)):=by
   exact zwey
  obtain⟨nc,hnc⟩:∃nc,nc=(Question.appendCap (cs.length+vs.length) cap e).cut (m.w.tape m.w.drawn (.appendCap (cs.length+vs.length) cap e)):=⟨_,rfl⟩
  have hnc2:cs.length+vs.length≤nc:=by rw[hnc];simp[Question.cut]
  obtain⟨zr,hzr⟩:∃zr,zr=Builtin.zeroCells z.cells (nc-(cs.length+vs.length)):=⟨_,rfl⟩
  have hzrl:zr.size=nc-(cs.length+vs.length):=by rw[hzr];simp[Builtin.zeroCells,hzl]
  have hold:∀w':World,w'.heap=m.w.heap->(Builtin.firstCells 1 cs.length (.slice ad cs.length cap)).run P w'= .ok ((List.range cs.length).map f).toArray w':=by
   intro w' hw'
   cases ad with
   | none=>
     subst hown
     have:cs.length=0:=by omega
     simp[Builtin.firstCells,this]
   | some a=>
     simp only at hown
     obtain⟨rfl,_⟩:=hown
     simp only[Builtin.firstCells]
     have:=run_loadCells (P:=P) w' ⟨p.b,0,none⟩ (cs.length*1) f fun j hj=>by
      rw[zbv,qaU]
      rw[show w'.cell? ⟨p.b,j,none⟩=m.w.cell? ⟨p.b,j,none⟩ from by simp[World.cell?,hw']]
      exact(hf j (by omega)).1
     rw[Nat.mul_one]at this⊢
     exact this
  obtain⟨arr,harr⟩:∃arr:Array Value,arr=((List.range cs.length).map f).toArray++vs.toArray++zr:=⟨_,rfl⟩
  have hrun:(Builtin.append_ #[t,t'] ty #[.slice ad cs.length cap,y]).run P m.w=
    .ok (.slice (some ⟨m.w.heap.size,0,none⟩) (cs.length+vs.length) nc) (({ m.w with drawn:=m.w.drawn+1 }:World).alloc (.cells arr e)):=by
   have hfo:(Question.appendCap (cs.length+vs.length) cap e).forced=false:=rfl
   have hadd:(Builtin.append_ #[t,t'] ty #[.slice ad cs.length cap,y]).run P m.w=(((do
     let old <-Builtin.firstCells 1 cs.length (.slice ad cs.length cap)
     let new <-Builtin.firstCells 1 vs.length y
     pure (.slice (some (<-newRow e (old++new++zr))) (cs.length+vs.length) nc)):Sem Value).run P { m.w with drawn:=m.w.drawn+1 }):=by
    simp only[Builtin.append_]
    rcases hu with hdd|⟨e',hdd⟩ <;> (simp[underlying,hdd,(hT t i ht).slice hk,(hT e ie he).sizeOf,hs,hlo,hfit,typeInfo,hti,hbound,hmax,hfo,<-hnc,hz1,<-hzr];try(intro h;exfalso;omega))
   rw[hadd]
   simp[hold m.w.drew rfl,hfc m.w.drew rfl,newRow]
   rw[harr]
   congr 2
   rw[<-qbE]
  have harrl:arr.size=nc:=by rw[harr];simp[hzrl];omega
  have hcell:∀o,(m.w.drew.alloc (.cells arr e)).cell? ⟨m.w.heap.size,o,none⟩=arr[o]? :=fun o=>World.cell?_alloc_new (w:=m.w.drew) ..
  have hkeep:∀b,b<m.w.heap.size->(m.w.drew.alloc (.cells arr e)).heap[b]?=m.w.heap[b]? :=fun b hb=>RowKit.Below.heap_alloc m.w.drew _ _ hb
  have hsize:(m.w.drew.alloc (.cells arr e)).heap.size=m.w.heap.size+1:=by simp
  have hcf:∀q,q<cs.length->arr[q]?=some (f q):=fun q hq=>by
   rw[harr,qbE,qa1 (by simpa using hq)];simp[hq]
  have hcg:∀q (hq:q<vs.length),arr[cs.length+q]?=some vs[q]:=fun q hq=>by
   rw[harr,qbE,qbd (by simp),qa1 (by simpa using hq)];simp[hq]
  have hns:0<vs.length:=by omega
  obtain⟨s,hm'⟩:=ze4 hm (k1:=.row e (cs++ns)) (p':=⟨m.w.heap.size,0,nc⟩) (A':=m.A) (w':=m.w.drew.alloc (.cells arr e)) hp hH rfl rfl rfl rfl (by rw[hsize];omega)
   (fun b o hb _=>zaO (hkeep b hb)) (fun b o hb _ _=>zaY (hkeep b hb)) (fun b hb _=>hkeep b hb) (fun b o hb h=>by rw[zaO (hkeep b hb)];exact h) (fun b s hs=>by rw[zbE (hkeep b (zgW hs))];exact hs) (fun _ _ h=>h) (fun _ _ h=>.inl h)
   (fun _=>.inr (.inl (by rw[hsize];exact⟨qae _,qbD _⟩))) (fun _ _ _ h h'=>absurd h h') (fun o q1 q2=>(b4 o q1 q2).1)
   (fun n' hn'=>by
     simp only[tlOf,qaE]at hn'
     subst hn'
     exact⟨by simp,fun h=>by rw[qad]at h;omega⟩)
   (fun s=>⟨⟨rfl,by simp;omega,fun _=>by
     show(m.w.drew.alloc (.cells arr e)).shape? m.w.heap.size=some (e,nc)
     rw[<-harrl]
     exact World.shape?_alloc_at _ _ _ rfl⟩,fun o q1 q2=>by
      refine⟨?_,World.frozen?_alloc_new (w:=m.w.drew) ..⟩
      show((m.w.drew.alloc (.cells arr e)).cell? ⟨m.w.heap.size,o,none⟩).isSome=true
      have q3:o<nc:=q2
      rw[hcell,qam (by omega)];rfl,fun j c hc=>by
      show ∃y,(m.w.drew.alloc (.cells arr e)).cell? ⟨m.w.heap.size,0+j,none⟩=some y/\_
      rw[qaU,hcell]
      by_cases hj:j<cs.length
      ·rw[qat hj]at hc
       exact⟨f j,hcf j hj,(hf j hj).2.1,s.trel hm ((hf j hj).2.2 c hc)⟩
      ·rw[qaA (by omega)]at hc
       have hjl:=(qaa.1 hc).1
       have:=hcg (j-cs.length) (by omega)
       rw[show cs.length+(j-cs.length)=j from by omega]at this
       exact⟨_,this,h1 _ (qaf _),s.trel hm (hr _ c _ hc (qac (by omega)))⟩⟩)
  refine⟨.slice (some ⟨m.w.heap.size,0,none⟩) (cs.length+vs.length) nc,_,hrun,s,hm',rfl,.rw _ _ _ ⟨m.w.heap.size,0,nc⟩ (by show(m.β.set id _)[id]?=_;rw[qav hidβ]) ⟨_,_,_,rfl⟩ fun k hk=>?_⟩
  have hk':tlOf (m.H.set id (.row e (cs++ns)))[id]?=some k:=hk
  rw[hset]at hk'
  cases hk'
  exact⟨qae _,fun _=>⟨some ⟨m.w.heap.size,0,none⟩,nc,by rw[qad,hvl],by simp;omega,rfl,rfl,rfl,by omega⟩⟩
section rules
variable {P:Program}{n:Nat}{env:Env}{H:Heap}{K:TK}{all:Array Oper}{rest:List Oper}{tab:Tab}{q:Bool}
variable {d:Nat}{ty:TypeId}{pos:String}{aft:Array Edge}
theorem eval_const(ac:Act)(v:Value):ac.eval (.const v)=v:=rfl
theorem eval_func(ac:Act)(f:FuncId):ac.eval (.func f)= .func (.func f) #[] #[]:=rfl
theorem SRel.znJ{m:M}{e:TypeId}{k id off:Nat}{x:Value}(h:SRel m (.tref e k id off) x):SRel m (.ref id off) x:=by
 cases h with
 | tref _ _ _ _ p hp hn h0 hs=>exact .ref _ _ p hp hn
theorem Le.tref(e:TypeId)(k id off:Nat):Le (.tref e k id off) (.ref id off):=fun _ _ h=>h.znJ
theorem TO.zeQ(hT:zaw P tab){t:TypeId}{i it:TyI}{fs:List (Nat×TypeId)}{x:Operand}{e:TypeId}{k' id off fi o:Nat}{ft:TypeId}(hd:Nat.ble (d+1) n=true)(ht:tab.get t=some i)(hk:i.k= .struct fs)
  (hf:fs[fi]?=some (o,ft))(hft:tab.get ft=some it)(hz:it.size≠0)(hx:env.val x=some (.tref e k' id off))(k:TO q P n all rest ((d,.ref id (off+o))::env) H K):TO q P n all (⟨some d,.fieldAddr t x fi,ty,pos,aft,none⟩::rest) env H K:=
 TO.op hd (fun m ac h1 h2 h3=>by
  have h:=(h3.val hx).znJ
  generalize hq:ac.eval x=z at h
  cases h with
  | ref _ _ p hp hn=>
    refine⟨.pointer (some ⟨p.b,p.lo+(off+o),none⟩),fun w' hw'=>?_,.ref _ _ p hp hn⟩
    have:=zdP hT ht hk hf hft hz p.b (p.lo+off) w'
    simp[execOp,hq,this,qa4]) k
theorem TO.zhq(hT:zaw P tab){t:TypeId}{i it:TyI}{fs:List (Nat×TypeId)}{x:Operand}{e:TypeId}{k' id off fi o:Nat}{ft:TypeId}(hd:Nat.ble (d+1) n=true)(ht:tab.get t=some i)(hk:i.k= .struct fs)
  (hf:fs[fi]?=some (o,ft))(hft:tab.get ft=some it)(hz:it.size≠0)(hx:env.val x=some (.tref e k' id off))(k:TO q P n all rest ((d,.tref e k' id (off+o))::env) H K):TO q P n all (⟨some d,.fieldAddr t x fi,ty,pos,aft,none⟩::rest) env H K:=
 TO.op hd (fun m ac h1 h2 h3=>by
  have h:=(h3.val hx)
  generalize hq:ac.eval x=z at h
  cases h with
  | tref _ _ _ _ p hp hn h0 hs=>
    refine⟨.pointer (some ⟨p.b,p.lo+(off+o),none⟩),fun w' hw'=>?_,.tref _ _ _ _ p hp hn h0 hs⟩
    have:=zdP hT ht hk hf hft hz p.b (p.lo+off) w'
    simp[execOp,hq,this,qa4]) k
theorem zd6{t e:TypeId}(h:P.underlying t=some (.pointer e))(p:Option Addr)(w:World):(Go.binOp .eql t (.pointer p) (.pointer none)).run P w= .ok (.bool p.isNone) w:=by
 exact zwbk
theorem zd7{t e:TypeId}(h:P.underlying t=some (.pointer e))(p:Option Addr)(w:World):(Go.binOp .neq t (.pointer p) (.pointer none)).run P w= .ok (.bool (!p.isNone)) w:=by
 exact zwbk
theorem Fit.ptr{t e:TypeId}{i:TyI}(h:Fit P t i)(hk:i.k= .ptr e):P.underlying t=some (.pointer e):=by
 exact zwdt
theorem TO.zn6(hT:zaw P tab){t t' e:TypeId}{i:TyI}{x:Operand}{v:SV}(hd:Nat.ble (d+1) n=true)(ht:tab.get t=some i)(hk:i.k= .ptr e)(hx:env.val x=some v)(hv:v.zmb=true)
  (k:TO q P n all rest ((d,.t (.v (.bool false)))::env) H K):TO q P n all (⟨some d,.binOp .eql t x (.const (.pointer none)) t',ty,pos,aft,none⟩::rest) env H K:=
 TO.op hd (fun m ac h1 h2 h3=>⟨.bool false,fun w' hw'=>by
  have h:=h3.val hx
  generalize hq:ac.eval x=z at h
  cases v <;> simp[SV.zmb]at hv <;> cases h <;> simp[execOp,eval_const,hq,eqGuard,zd6 ((hT t i ht).ptr hk)],.t _ _ (.v _)⟩) k
theorem TO.zn5(hT:zaw P tab){t t' e:TypeId}{i:TyI}{x:Operand}(hd:Nat.ble (d+1) n=true)(ht:tab.get t=some i)(hk:i.k= .ptr e)(hx:env.val x=some (.t (.v (.pointer none))))
  (k:TO q P n all rest ((d,.t (.v (.bool true)))::env) H K):TO q P n all (⟨some d,.binOp .eql t x (.const (.pointer none)) t',ty,pos,aft,none⟩::rest) env H K:=
 TO.op hd (fun m ac h1 h2 h3=>⟨.bool true,fun w' hw'=>by
  simp[execOp,eval_const,(h3.val hx).v_eq,eqGuard,zd6 ((hT t i ht).ptr hk)],.t _ _ (.v _)⟩) k
theorem TO.zf4(hT:zaw P tab){t t' e:TypeId}{i:TyI}{x:Operand}{v:SV}(hd:Nat.ble (d+1) n=true)(ht:tab.get t=some i)(hk:i.k= .ptr e)(hx:env.val x=some v)(hv:v.zmb=true)
  (k:TO q P n all rest ((d,.t (.v (.bool true)))::env) H K):TO q P n all (⟨some d,.binOp .neq t x (.const (.pointer none)) t',ty,pos,aft,none⟩::rest) env H K:=
 TO.op hd (fun m ac h1 h2 h3=>⟨.bool true,fun w' hw'=>by
  have h:=h3.val hx
  generalize hq:ac.eval x=z at h
  cases v <;> simp[SV.zmb]at hv <;> cases h <;> simp[execOp,eval_const,hq,eqGuard,zd7 ((hT t i ht).ptr hk)],.t _ _ (.v _)⟩) k
theorem TO.zf3(hT:zaw P tab){t t' e:TypeId}{i:TyI}{x:Operand}(hd:Nat.ble (d+1) n=true)(ht:tab.get t=some i)(hk:i.k= .ptr e)(hx:env.val x=some (.t (.v (.pointer none))))
  (k:TO q P n all rest ((d,.t (.v (.bool false)))::env) H K):TO q P n all (⟨some d,.binOp .neq t x (.const (.pointer none)) t',ty,pos,aft,none⟩::rest) env H K:=
 TO.op hd (fun m ac h1 h2 h3=>⟨.bool false,fun w' hw'=>by
  simp[execOp,eval_const,(h3.val hx).v_eq,eqGuard,zd7 ((hT t i ht).ptr hk)],.t _ _ (.v _)⟩) k
theorem TO.zmj(hT:zaw P tab){t t' e:TypeId}{i ie:TyI}{x y:Operand}{vx vy:SV}{id off:Nat}(hd:Nat.ble (d+1) n=true)(ht:tab.get t=some i)(hk:i.k= .ptr e)(he:tab.get e=some ie)(hx:env.val x=some vx)(hy:env.val y=some vy)
  (hvx:Le vx (.ref id off))(hvy:Le vy (.ref id off))
  (k:TO q P n all rest ((d,.t (.v (.bool false)))::env) H K):TO q P n all (⟨some d,.binOp .neq t x y t',ty,pos,aft,none⟩::rest) env H K:=
 TO.op hd (fun m ac h1 h2 h3=>⟨.bool false,fun w' hw'=>by
  have h:=hvx _ _ (h3.val hx)
  have h':=hvy _ _ (h3.val hy)
  obtain⟨j,hj,_⟩:=(hT e ie he).info
  generalize hq:ac.eval x=z at h
  generalize hq':ac.eval y=z' at h'
  cases h with
  | ref _ _ p hp hn=>
    cases h' with
    | ref _ _ p' hp' hn'=>
      have:p'=p:=by rw[hp]at hp';cases hp';rfl
      subst this
      simp[execOp,hq,hq',eqGuard,Lib.run_neq_ptr_same w' _ ((hT t i ht).ptr hk) hj],.t _ _ (.v _)⟩) k
theorem TO.zst(hT:zaw P tab){t t' u e:TypeId}{i iu:TyI}{x:Operand}{k' id off:Nat}(hd:Nat.ble (d+1) n=true)(ht:tab.get t=some i)(hk:i.k= .ptr u)(hu:tab.get u=some iu)(hz:iu.size≠0)(ht':P.underlying t'=some .unsafePointer)
  (hx:env.val x=some (.tref e k' id off))(hoff:Nat.ble (off+1) k'=true)(k:TO q P n all rest ((d,.tref e k' id off)::env) H K):TO q P n all (⟨some d,.convert t t' x,ty,pos,aft,none⟩::rest) env H K:=
 TO.op hd (fun m ac h1 h2 h3=>by
  have h:=h3.val hx
  obtain⟨j,hj,hj2,_⟩:=(hT u iu hu).info
  generalize hq:ac.eval x=z at h
  cases h with
  | tref _ _ _ _ p hp hn h0 hs=>
    refine⟨_,fun w' hw'=>?_,.tref _ _ _ _ p hp hn h0 hs⟩
    have hb:=qag hoff
    have:=Lib.run_to_unsafe w' ⟨p.b,p.lo+off,none⟩ ((hT t i ht).ptr hk) ht' hj (by omega) (zeF hw' hs) (by simp only[];omega)
    simp[execOp,hq,this]) k
theorem TO.zn9(hT:zaw P tab){t t' u e:TypeId}{i iu:TyI}{x:Operand}{k' id off:Nat}(hd:Nat.ble (d+1) n=true)(ht:tab.get t'=some i)(hk:i.k= .ptr u)(hu:tab.get u=some iu)(ht':P.underlying t=some .unsafePointer)
  (hx:env.val x=some (.tref e k' id off))(hl:liesAt P P.depth e (k' / P.cellsOf e) off u 1=true)(k:TO q P n all rest ((d,.tref e k' id off)::env) H K):TO q P n all (⟨some d,.convert t t' x,ty,pos,aft,none⟩::rest) env H K:=
 TO.op hd (fun m ac h1 h2 h3=>by
  have h:=h3.val hx
  obtain⟨j,hj,hj2,_⟩:=(hT u iu hu).info
  generalize hq:ac.eval x=z at h
  cases h with
  | tref _ _ _ _ p hp hn h0 hs=>
    refine⟨_,fun w' hw'=>?_,.tref _ _ _ _ p hp hn h0 hs⟩
    have:=Lib.run_from_unsafe w' ⟨p.b,p.lo+off,none⟩ ht' ((hT t' i ht).ptr hk) hj (zeF hw' hs) (by simp only[h0,qaU];exact hl)
    simp[execOp,hq,this]) k
theorem TO.zl2{f:FuncId}{fn:Func}{x:Operand}{ts:Array TypeId}{v:SV}(hd:Nat.ble (d+1) n=true)(hf:P.funcs[f]?=some fn)(hname:(fn.name == "runtime.NumGoroutine")=false)(hb:fn.body.isNone=true)(hn:Extern.findNext fn=none)
  (he:Extern.find fn=some Extern.AbiNoEscape.same)(hx:env.val x=some v)(k:TO q P n all rest ((d,v)::env) H K):
  TO q P n all (⟨some d,.call { callee:=.value (.func f),args:=#[x],argTypes:=ts },ty,pos,aft,none⟩::rest) env H K:=
 TO.op hd (fun m ac h1 h2 h3=>⟨_,fun w' hw'=>by
  have:=run_callFunc_extern hf hname hb hn he #[ac.eval x] w'
  rw[Lib.run_noEscape]at this
  simp only[Result.andThen]at this
  simp[execOp,resolve,eval_func,Deferred.ofValue,invoke,this],h3.val hx⟩) k
def T.one:T->Bool
 | .ag _=>false
 | _=>true
theorem TO.zix(hT:zaw P tab){t t' e:TypeId}{i i' ie:TyI}{id len:Nat}{cs:List T}{ys:List T}{x y:Operand}{vy:SV}{H':Heap}(hd:Nat.ble (d+1) n=true)(ht:tab.get t=some i)(hk:i.k= .slice e)(ht':tab.get t'=some i')(hk':i'.k= .slice e)
  (he:tab.get e=some ie)(hs:ie.size=1)(hx:env.val x=some (.rw id len))(hH:H[id]?=some (.row e cs))(hlen:Nat.beq len cs.length=true)(hy:env.val y=some vy)(hvy:vy.elems 1=some ys)(hsy:ys.all T.one=true)
  (hby:Nat.ble ie.bytes 4096=true)(hb1:cs.length+ys.length≤10000000000)(hH':H.set id (.row e (cs++ys))=H')
  (k:TO false P n all rest ((d,.rw id (cs++ys).length)::env) H' K):TO false P n all (⟨some d,.call { callee:=.builtin .append,args:=#[x,y],argTypes:=#[t,t'] },ty,pos,aft,none⟩::rest) env H K:=
 TO.eff hd (fun m ac h1 h2 h3=>by
  have hy':=(h3.val hy).elems hvy
  obtain⟨ad,cap,hq⟩:=hy'.zcf
  rw[hq]at hy'
  obtain⟨g,g0,g1,g2,g3⟩:=zbZ (P:=P) hy' (by omega)
  have h1':=qag hby
  have h2':(cs.length+ys.length)*ie.bytes≤10000000000*4096:=qb2 hb1 h1'
  obtain⟨z,m',r1,s,hm',hHm,hr⟩:=zeS (P:=P) hT h2 (ty:=ty) (y:=ac.eval y) (vs:=(List.range ys.length).map g) (ns:=ys) ht hk he hs (h3.val hx) (by rw[h1];exact hH) (qbf hlen) (by simp) (.inr ⟨_,(hT t' i' ht').slice hk'⟩)
   (fun w=>by rw[hq];simp[Builtin.lenOf]) (fun w' hw'=>by have:=g0 w' hw';rw[hq];simpa using this) (fun v hv=>by simp at hv;obtain⟨q,hq,rfl⟩:=hv;exact g1 q (by omega)) (fun j c v hc hv=>by
     have hjl:=(qaa.1 hc).1
     simp[hjl]at hv
     subst hv
     have hc1:c.cells=[c]:=by
      have hso:=qaw.1 hsy c (qas hc)
      cases c with
      | ag l=>simp[T.one]at hso
      | _=>rfl
     have:=g3 j c 0 c hc (by rw[hc1];rfl)
     simp at this
     exact this) (by simp;omega) (by simp;omega) (by omega)
  refine⟨z,m',by simp[execOp,resolve,invoke,builtin,r1],s,hm',by rw[hHm,h1];exact hH',hr⟩) k
end rules
end Go.TL
