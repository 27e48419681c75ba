import Derived.Test.YtpnnpgbaiobbjaaGreatDoorPz
import Derived.Test.YtpnnpgbaiobbjaaGreatDoorPk4
set_option linter.unusedSimpArgs false
set_option linter.unusedVariables false
namespace Go.TL
open Go
theorem TRel.zuN{A:Foot}{w:World}{x y:Value}(h:TRel A w (.v x) y):y=x:=by
 cases h;rfl
theorem zcD{m:M}(h2:HRel m){w':World}(k:Keeps m.w w'):Step m ⟨m.A,m.β,m.H,w'⟩/\HRel ⟨m.A,m.β,m.H,w'⟩:=by
 have:=grow h2 (A':=m.A) (βn:=[]) (Hn:=[]) (w':=w') k.os k.tape k.output k.size k.block (fun _ _ h=>h) (fun _ _ h=>.inl h) rfl (by simp) (by simp) (fun _ _ h h'=>absurd h h') (by simp)
 simpa using this
theorem Keeps.trans{a b c:World}(h:Keeps a b)(k:Keeps b c):Keeps a c:=
 ⟨k.os.trans h.os,k.tape.trans h.tape,k.output.trans h.output,qaF h.size k.size,fun x hx=>(k.block x (qaW hx h.size)).trans (h.block x hx)⟩
def M.lent(m:M):M:=⟨fun b o=>m.A b o\/Own m b o,[],[],m.w⟩
theorem zpy{m:M}(hm:HRel m):HRel m.lent where
 len:=rfl
 blk:=fun i p k h=>by simp[M.lent]at h
 apart:=fun i j p q k l _ h=>by simp[M.lent]at h
 still:=fun b o _ ⟨i,p,k,h,_⟩=>by simp[M.lent]at h
 inA:=fun b o h=>by
  rcases h with h|⟨i,p,k,h1,h2,h3,h4,h5,h6⟩
  ·exact hm.inA b o h
  ·rw[<-h4];exact hm.inO i p k h1 h2 h3 (by omega)
 inO:=fun i p k h=>by simp[M.lent]at h
 glob:=fun b cs h=>⟨fun o=>.inl ((hm.glob b cs h).1 o),(hm.glob b cs h).2⟩
def LeB(H:Heap)(s c:SV):Prop:=∀(m:M) (x:Value),m.H=H->HRel m->SRel m s x->SRel m.lent c x
theorem zfG{m:M}{t:T}{x:Value}(h:TRel m.A m.w t x):TRel m.lent.A m.lent.w t x:=h.mono (fun _ _ h=>.inl h) (fun _ _ _=>rfl)
theorem LeB.tree{H:Heap}{s:SV}{t u:T}(h:s.toT=some t)(k:TLe t u):LeB H s (.t u):=fun m x _ _ hx=>.t _ _ (zfG (k.rel _ (hx.toT h)))
theorem LeB.t{H:Heap}(t:T):LeB H (.t t) (.t t):=LeB.tree (t:=t) rfl (.refl t)
theorem LeB.any{H:Heap}(s:SV):LeB H s .any:=fun _ x _ _ _=>.any x
theorem LeB.cp{H:Heap}(cs:List T)(off:Nat):LeB H (.cp cs off) (.cp cs off):=fun m x _ _ hx=>by
 cases hx with
 | cp _ _ b o f h1 hA hw h=>exact .cp _ _ b o f h1 (fun j hj=>.inl (hA j hj)) hw (fun j c hc=>zfG (h j c hc))
theorem LeB.fn0{H:Heap}(f:FuncId):LeB H (.fn f []) (.fn f []):=fun m x _ _ hx=>by
 cases hx with
 | fn _ _ arr hs h=>exact .fn _ _ _ hs (fun i c y hc=>by simp at hc)
theorem LeB.fn{H:Heap}(f:FuncId){cs ds:List SV}(hl:cs.length=ds.length)(h:∀(i:Nat) c d,cs[i]?=some c->ds[i]?=some d->LeB H c d):LeB H (.fn f cs) (.fn f ds):=fun m x hH hm hx=>by
 cases hx with
 | fn _ _ arr hs hr=>
   refine .fn _ _ _ (by omega) fun i d y hd hy=>?_
   have hi:=(qab.1 hd).1
   have hc:cs[i]?=some (cs[i]'(by omega)):=qac _
   exact h i _ d hc hd m y hH hm (hr i _ y hc hy)
theorem LeB.ref{H:Heap}{id:Nat}{cs:List SV}{ts us:List T}(off:Nat)(hH:H[id]?=some (.cells cs))(ht:allT cs=some ts)(hl:ts.length=us.length)(hu:∀(i:Nat) t u,ts[i]?=some t->us[i]?=some u->TLe t u):LeB H (.ref id off) (.cp us off):=fun m x hH' hm hx=>by
 cases hx with
 | ref _ _ p hp hn=>
   have hH1:m.H[id]?=some (.cells cs):=by rw[hH'];exact hH
   obtain⟨b1,b2,b3⟩:=hm.blk id p _ hp hH1
   obtain⟨a1,a2⟩:=zdr (m:=m) ht
   have hex:∀j,∃y,j<us.length->m.w.cell? ⟨p.b,p.lo+j,none⟩=some y/\y.oneCell'=true/\∀c,us[j]?=some c->TRel m.A m.w c y:=by
    intro j
    by_cases hj:j<us.length
    ·have hj2:j<ts.length:=by omega
     obtain⟨c,hc1,hc2⟩:=a2 j ts[j] (qac hj2)
     obtain⟨y,y1,y0,y2⟩:=b3 j c hc1
     exact⟨y,fun _=>⟨y1,y0,fun u hu'=>(hu j _ u (qac hj2) hu').rel _ (hc2 y y2)⟩⟩
    ·exact⟨undef,fun h=>absurd h hj⟩
   obtain⟨f,hf⟩:=qbn hex
   refine .cp us off p.b p.lo f (fun j hj=>(hf j hj).2.1) (fun j hj=>.inr ⟨id,p,_,hp,hH1,rfl,rfl,by omega,by omega⟩) (fun j hj=>(hf j hj).1) (fun j c hc=>?_)
   have hj:=(qab.1 hc).1
   exact zfG ((hf j hj).2.2 c hc)
def LesB(H:Heap):List SV->List SV->Prop
 | [],[]=>True
 | a::aas,b::bs=>LeB H a b/\LesB H aas bs
 | _,_=>False
theorem LesB.get{H:Heap}:∀ {aas bs:List SV},LesB H aas bs->aas.length=bs.length/\∀(i:Nat) a b,aas[i]?=some a->bs[i]?=some b->LeB H a b
 | [],[],_=>by simp
 | [],_::_,h=>by cases h
 | _::_,[],h=>by cases h
 | a::aas,b::bs,h=>by
   obtain⟨g1,g2⟩:=LesB.get h.2
   exact zwcc
def Rigid(v:SV):Prop:=∃x0,(∀m x,SRel m v x->x=x0)/\∀m,SRel m v x0
theorem Rigid.v(x:Value):Rigid (.t (.v x)):=⟨x,fun _ _ h=>h.v_eq,fun _=>.t _ _ (.v x)⟩
theorem Rigid.tup{vs:List SV}(h:∀v∈vs,Rigid v):Rigid (.tup vs):=by
 have:∃xs:List Value,xs.length=vs.length/\∀(i:Nat) v x,vs[i]?=some v->xs[i]?=some x->(∀m y,SRel m v y->y=x)/\∀m,SRel m v x:=by
  induction vs with
  | nil=>exact⟨[],rfl,by simp⟩
  | cons v vs ih=>
    obtain⟨xs,g1,g2⟩:=ih fun u hu=>h u (qaA _ hu)
    obtain⟨x,hx⟩:=h v qaD
    refine⟨x::xs,by simp[g1],fun i u y hu hy=>?_⟩
    cases i with
    | zero=>simp at hu hy;subst hu;subst hy;exact hx
    | succ i=>exact g2 i u y (by simpa using hu) (by simpa using hy)
 obtain⟨xs,g1,g2⟩:=this
 refine⟨.tuple xs.toArray,fun m x hx=>?_,fun m=>.tup _ _ (by simp[g1]) fun i c y hc hy=>(g2 i c y hc (by simpa using hy)).2 m⟩
 cases hx with
 | tup _ arr hs hr=>
   congr 1
   apply Array.ext
   ·simp[g1,hs]
   ·intro i h1 h2
    have hi:i<vs.length:=by omega
    exact(g2 i vs[i] _ (qac hi) (qac (by omega))).1 m _ (hr i _ _ (qac hi) (qal h1))
theorem Rigid.ag{ts:List Value}(h:∀x∈ts,x.oneCell'=true):Rigid (.t (.ag (ts.map .v))):=by
 refine⟨.agg ts.toArray,fun m x hx=>?_,fun m=>.t _ _ (.ag _ _ (by simp) (fun i y hy=>?_) fun i c y hc hy=>?_)⟩
 ·cases hx with
  | t _ _ hx=>
    cases hx with
    | ag _ arr hs h1 hr=>
      congr 1
      apply Array.ext
      ·simpa using hs
      ·intro i g1 g2
       have hi:i<ts.length:=by simpa using g2
       have:=TRel.zuN (hr i (.v ts[i]) arr[i] (by simp[hi]) (qal g1))
       simpa using this
 ·have hy':ts[i]?=some y:=by simpa using hy
  exact h y (qas hy')
 ·have hy':ts[i]?=some y:=by simpa using hy
  rw[qaq,hy']at hc
  cases hc
  exact .v y
section rules
variable {P:Program}{n:Nat}{env:Env}{H:Heap}{K:TK}{all:Array Oper}{rest:List Oper}{tab:Tab}{q:Bool}
variable {d:Nat}{ty:TypeId}{pos:String}{aft:Array Edge}
theorem TO.zsK{cargs:List SV}{v:SV}{f:Operand}{fid:FuncId}{caps:List SV}{args:Array Operand}{ts:Array TypeId}{vs:List SV}(hs:Pure P fid cargs v)(hd:Nat.ble (d+1) n=true)
  (hf:env.val f=some (.fn fid caps))(ha:env.vals args.toList=some vs)(hl:LesB H (vs++caps) cargs)(hv:Rigid v)
  (k:TO q P n all rest ((d,v)::env) H K):
  TO q P n all (⟨some d,.call { callee:=.value f,args:=args,argTypes:=ts },ty,pos,aft,none⟩::rest) env H K:=by
 intro φ m ac h1 h2 h3 h4
 obtain⟨arr,hq,har⟩:=zlx h3 hf ha
 obtain⟨x0,hx1,hx2⟩:=hv
 obtain⟨g1,g2⟩:=hl.get
 have key:∀w',Keeps m.w w'->Calls P fid (args.map ac.eval++arr) w' fun e w''=>e= .returned x0/\Keeps m.w w'':=by
  intro w' kw
  obtain⟨s,hm'⟩:=zcD h2 kw
  have harc:ARel (M.lent ⟨m.A,m.β,m.H,w'⟩) cargs (args.map ac.eval++arr):=by
   refine⟨by rw[har.1,g1],fun i c x hc hx=>?_⟩
   have hi:=(qab.1 hc).1
   have hc0:(vs++caps)[i]?=some ((vs++caps)[i]'(by omega)):=qac _
   exact g2 i _ c hc0 hc ⟨m.A,m.β,m.H,w'⟩ x h1 hm' (s.srel h2 (har.2 i _ x hc0 hx))
  have hcall:=hs.2 (M.lent ⟨m.A,m.β,m.H,w'⟩) _ rfl (zpy hm') harc
  refine Calls.mono hcall ?_
  rintro e w'' ⟨mc',r,rfl,st,hmc,hr,hR,hH⟩
  subst hR
  cases e with
  | returned x=>
    refine⟨by rw[hx1 _ _ hr],kw.trans ⟨st.os,st.tape,st.output,st.size,fun b hb=>st.block b hb fun o ho=>?_⟩⟩
    obtain⟨i,p,k,h,_⟩:=ho
    simp[M.lent]at h
  | _=>simp[zbF]at hr
 have hk:=k φ m (ac.put (some d) x0) h1 h2 (h3.put d (qah hd) (hx2 m)) (by simpa [Act.put]using h4)
 cases q with
 | false=>
   refine wpListIn_plain rfl fun K' hK=>?_
   unfold Oper.wpIn
   refine⟨fun _ _=>trivial,?_⟩
   rw[zaW (zeZ hq hs.1) (by intro d e;cases e)]
   simp only[Oper.uponIn]
   refine⟨fun h=>by simp[Fence.wide]at h,zen (Calls.mono (key m.w ⟨rfl,rfl,rfl,qae _,fun _ _=>rfl⟩) ?_)⟩
   rintro e w'' ⟨rfl,kw⟩
   obtain⟨s,hm'⟩:=zcD h2 kw
   exact hK _ _ (TO.zee (m':=⟨m.A,m.β,m.H,w''⟩) s (k φ _ _ h1 hm' ((h3.step h2 s).put d (qah hd) (hx2 _)) (by simpa [Act.put]using h4.step h2 s)))
 | true=>
   simp only at hk⊢
   unfold wpQuiet
   simp only[Region.wanted,if_true]
   refine⟨x0,fun w' hw'=>?_,hk⟩
   unfold Oper.quietAt
   rw[zeZ hq hs.1]
   exact⟨rfl,key w' hw'⟩
theorem znf{sz:Nat}(pl:Nat->Option (Nat×Nat))(hpl:∀i,pl i=some (i*sz,sz)):∀(vals:List (Nat×Value)) (k:Nat) (arr:Array Value),(∀(i:Nat) p,vals[i]?=some p->p.1=k+i/\p.2.cells.size=sz)->(k+vals.length)*sz≤arr.size->
  ∃arr',Instr.fill pl arr vals=some arr'/\arr'.size=arr.size/\(∀q,q<k*sz->arr'[q]?=arr[q]?)/\∀(i:Nat) p,vals[i]?=some p->∀j,j<sz->arr'[(k+i)*sz+j]?=p.2.cells[j]?
 | [],k,arr,_,_=>⟨arr,rfl,rfl,fun _ _=>rfl,by simp⟩
 | (i0,x)::vals,k,arr,hv,hl=>by
   obtain⟨h0,hx⟩:=hv 0 _ rfl
   simp only[qb3]at h0
   simp only at hx
   subst h0
   simp only[qap]at hl
   have hle:(i0+1)*sz≤(i0+(vals.length+1))*sz:=qaJ _ (by omega)
   rw[qaX]at hle
   have hfold:=znj x.cells.toList (i0*sz) 0 arr (by simp;omega)
   have hstep:Instr.fill pl arr ((i0,x)::vals)=Instr.fill pl ((x.cells.toList.zipIdx 0).foldl (fun cs (x:Value×Nat)=>cs.setIfInBounds (i0*sz+x.2) x.1) arr) vals:=by
    rw[Instr.fill,hpl]
    simp only
    rw[if_neg (by simp[hx];omega),<-Array.foldl_toList,Array.toList_zipIdx]
   obtain⟨arr',g1,g2,g3,g4⟩:=znf pl hpl vals (i0+1) _ (fun i p hp=>by
    obtain⟨e1,e2⟩:=hv (i+1) p (by simpa using hp)
    exact⟨by omega,e2⟩) (by rw[hfold.1,show i0+1+vals.length=i0+(vals.length+1) from by omega];exact hl)
   refine⟨arr',by rw[hstep];exact g1,by rw[g2,hfold.1],fun q hq=>?_,fun i p hp j hj=>?_⟩
   ·have h2:q<(i0+1)*sz:=by rw[qaX];omega
    rw[g3 q h2,hfold.2 q,if_neg (by simp;omega)]
   ·cases i with
    | zero=>
      simp at hp;subst hp
      have h2:(i0+0)*sz+j<(i0+1)*sz:=by
       have:(i0+1)*sz=i0*sz+sz:=by rw[qaX,Nat.one_mul]
       rw[this,qb3];omega
      rw[g3 _ h2,hfold.2,if_pos (by simp;omega)]
      simp
    | succ i=>
      have:=g4 i p (by simpa using hp) j hj
      rw[show i0+(i+1)=i0+1+i from by omega];exact this
def zdU(sz:Nat):Nat->List (Nat×SV)->Option (List T)
 | _,[]=>some []
 | k,(i,v)::r=>match v.toT,zdU sz (k+1) r with
   | some t,some l=>bif Nat.beq i k && v.solid && t.solid then some (t::l) else none
   | _,_=>none
theorem zhi{sz:Nat}:∀ {k:Nat} {l:List (Nat×SV)} {es:List T},zdU sz k l=some es->es.length=l.length/\∀(i:Nat) p,l[i]?=some p->∃t,es[i]?=some t/\p.1=k+i/\p.2.toT=some t/\p.2.solid=true/\t.solid=true
 | k,[],es,h=>by simp[zdU]at h;subst h;simp
 | k,(i0,v)::r,es,h=>by
   simp only[zdU]at h
   cases h1:v.toT with
   | none=>rw[h1]at h;cases h
   | some t=>
     rw[h1]at h
     cases h2:zdU sz (k+1) r with
     | none=>rw[h2]at h;cases h
     | some l=>
       rw[h2]at h
       simp only at h
       cases h3:(Nat.beq i0 k && v.solid && t.solid) with
       | false=>rw[h3]at h;cases h
       | true=>
         rw[h3]at h;cases h
         simp only[qav]at h3
         obtain⟨⟨e1,e2⟩,e3⟩:=h3
         have e1':=qaP e1
         obtain⟨g1,g2⟩:=zhi h2
         refine⟨by simp[g1],fun i p hp=>?_⟩
         cases i with
         | zero=>simp at hp;subst hp;exact⟨t,rfl,by simpa using e1',h1,e2,e3⟩
         | succ i=>
           obtain⟨t',q1,q2,q3⟩:=g2 i p (by simpa using hp)
           exact⟨t',by simpa using q1,by omega,q3⟩
theorem TO.buildSlice(hT:zau P tab){t e:TypeId}{i ie:TyI}{len sz:Nat}{parts:Array (Nat×Operand)}{ps:List (Nat×SV)}{es:List T}(hd:Nat.ble (d+1) n=true)(ht:tab.get t=some i)(hk:i.k= .slice e)(he:tab.get e=some ie)(hs:ie.size=sz)
  (hp:env.parts parts.toList=some ps)(hes:zdU sz 0 ps=some es)(hlen:Nat.beq len es.length=true)(hsz:∀t∈es,t.cells.length=sz)(hsm:Nat.ble (len*sz) 16777216=true)
  (k:TO false P n all rest ((d,.t (.sl sz es))::env) H K):TO false P n all (⟨some d,.buildSlice t len parts,ty,pos,aft,none⟩::rest) env H K:=
 TO.eff hd (fun m ac h1 h2 h3=>by
  subst h1
  have hlen':=qaP hlen
  have hsm':=qah hsm
  obtain⟨e1,e2⟩:=zhi hes
  obtain⟨p1,p2⟩:=h3.parts parts.toList ps hp
  obtain⟨z,hz1,hz2,_,_⟩:=(hT e ie he).zero
  have hzl:z.cells.size=sz:=by
   exact zweh
  have hval:∀(i:Nat) p,(parts.toList.map fun x=>(x.1,ac.eval x.2))[i]?=some p->∃t,es[i]?=some t/\p.1=0+i/\p.2.cells.size=sz/\(∀(j:Nat) y,p.2.cells[j]?=some y->y.oneCell'=true)/\∀(j:Nat) c y,t.cells[j]?=some c->p.2.cells[j]?=some y->TRel m.A m.w c y:=by
   intro i p hpi
   have hi:=(qab.1 hpi).1
   have hps:ps[i]?=some (ps[i]'(by omega)):=qac _
   obtain⟨t,q1,q2,q3,q4,q5⟩:=e2 i _ hps
   obtain⟨r1,r2⟩:=p2 i _ p hps hpi
   obtain⟨c1,c2,c3⟩:=(r2.toT q3).cells q5
   exact⟨t,q1,by rw[<-r1];exact q2,by rw[c1];exact hsz t (qas q1),c2,c3⟩
  obtain⟨z0,hz0⟩:∃z0:Array Value,z0=if len*sz=0 then #[] else z.cells:=⟨_,rfl⟩
  obtain⟨arr,g1,g2,_,g4⟩:=znf (sz:=sz) (fun i=>some (i*sz,sz)) (fun _=>rfl) (parts.toList.map fun x=>(x.1,ac.eval x.2)) 0 ((Array.range (len*sz)).map (fun j=>z0[j % z0.size]!)) (fun i p hpi=>by
   obtain⟨t,_,h5,h6,_⟩:=hval i p hpi
   exact⟨h5,h6⟩) (by
   simp
   have h1:parts.size=len:=by simp at p1;omega
   rw[h1];exact qae _)
  have g2':arr.size=len*sz:=by rw[g2];simp
  have hcell:∀o,(m.w.alloc (.cells arr e)).cell? ⟨m.w.heap.size,o,none⟩=arr[o]? :=fun o=>World.cell?_alloc_new ..
  obtain⟨s,hm'⟩:=grow h2 (A':=fun b o=>m.A b o\/(b=m.w.heap.size/\o<arr.size)) (βn:=[]) (Hn:=[]) (w':=m.w.alloc (.cells arr e)) rfl rfl rfl (by simp) (fun b hb=>RowKit.Below.heap_alloc _ _ _ hb) (fun _ _ h=>.inl h) (fun b o h=>by
   rcases h with h|h
   ·exact .inl h
   ·exact .inr ⟨by omega,by simp;omega⟩) rfl (by simp) (by simp) (by simp) (by simp)
  refine⟨.slice (some ⟨m.w.heap.size,0,none⟩) len len,⟨fun b o=>m.A b o\/(b=m.w.heap.size/\o<arr.size),m.β,m.H,m.w.alloc (.cells arr e)⟩,?_,by simpa using s,by simpa using hm',rfl,?_⟩
  ·have hrun:(Instr.buildSlice t len (parts.map fun(i,x)=>(i,ac.eval x))).run P m.w= .ok (.slice (some ⟨m.w.heap.size,0,none⟩) len len) (m.w.alloc (.cells arr e)):=by
    have hbig:¬len*sz > 2 ^ 24:=by omega
    have hfl:(parts.map fun(x:Nat×Operand)=>(x.1,ac.eval x.2)).toList=parts.toList.map fun x=>(x.1,ac.eval x.2):=by simp
    unfold Instr.buildSlice
    by_cases h0:len*sz=0
    ·simp only[h0,if_true]at hz0
     subst hz0
     simp only[Sem.run_bind,underlying,run_program,Result.andThen_ok,(hT t i ht).slice hk,Sem.run_pure,(hT e ie he).sizeOf,hs,if_neg hbig,if_pos h0]
     rw[h0]at g1⊢
     rw[hfl,g1]
     simp[newRow]
    ·simp only[if_neg h0]at hz0
     subst hz0
     simp only[Sem.run_bind,underlying,run_program,Result.andThen_ok,(hT t i ht).slice hk,Sem.run_pure,(hT e ie he).sizeOf,hs,if_neg hbig,if_neg h0,hz1]
     rw[hfl,g1]
     simp[newRow]
   simp only[execOp,Sem.run_bind,hrun];rfl
  ·have s':Step m ⟨fun b o=>m.A b o\/(b=m.w.heap.size/\o<arr.size),m.β,m.H,m.w.alloc (.cells arr e)⟩:=by simpa using s
   refine .t _ _ ?_
   rw[hlen']
   have bnd:∀i j,i<es.length->j<sz->i*sz+j<len*sz:=by
    intro i j hi hj
    have:(i+1)*sz≤len*sz:=qaJ _ (by omega)
    rw[qaX]at this;omega
   have getp:∀i,i<es.length->∃p,(parts.toList.map fun x=>(x.1,ac.eval x.2))[i]?=some p:=fun i hi=>⟨_,qac (by omega)⟩
   refine .sl sz es m.w.heap.size 0 es.length (fun q=>(arr[q]?).getD undef) (qae _) (fun i t ht=>hsz t (qas ht)) (fun i j hi hj=>.inr ⟨rfl,by have:=bnd i j hi hj;omega⟩) (fun i j hi hj=>?_) (fun i j hi hj=>?_) (fun i t j c ht hc=>?_)
   ·have:=bnd i j hi hj
    rw[qaN]
    show(m.w.alloc (.cells arr e)).cell? _=_
    rw[hcell,qal (by omega)];rfl
   ·obtain⟨p,hpi⟩:=getp i hi
    obtain⟨t,_,_,h6,h7,_⟩:=hval i p hpi
    have:=g4 i p hpi j hj
    rw[qaN]at this
    simp only[this]
    rw[qal (by omega)]
    exact h7 j _ (qal (by omega))
   ·have hi:=(qab.1 ht).1
    have hjl:=(qab.1 hc).1
    have hjs:j<sz:=by rw[<-hsz t (qas ht)];exact hjl
    obtain⟨p,hpi⟩:=getp i hi
    obtain⟨t',h4,_,h6,_,h8⟩:=hval i p hpi
    rw[ht]at h4;cases h4
    have:=g4 i p hpi j hjs
    rw[qaN]at this
    simp only[this]
    rw[qal (by omega)]
    exact s'.trel h2 (h8 j c _ hc (qal (by omega)))) k
end rules
section rules
variable {P:Program}{n:Nat}{env:Env}{H:Heap}{K:TK}{all:Array Oper}{rest:List Oper}{tab:Tab}{q:Bool}
variable {d:Nat}{ty:TypeId}{pos:String}{aft:Array Edge}
theorem Then.normal{y:Code}(h:TR P n y env H K):Then P n y K .normal env H:=h
theorem Then.exit{y:Code}{i:Nat}(h:K (.exit i) env H):Then P n y K (.exit i) env H:=h
theorem Then.ret{y:Code}(h:K .ret env H):Then P n y K .ret env H:=h
theorem Then.panic{y:Code}{v:SV}(h:K (.panic v) env H):Then P n y K (.panic v) env H:=h
theorem zam.normal{i:Nat}(h:K .normal env H):zam i K .normal env H:=h
theorem zam.ret{i:Nat}(h:K .ret env H):zam i K .ret env H:=h
theorem zam.panic{i:Nat}{v:SV}(h:K (.panic v) env H):zam i K (.panic v) env H:=h
theorem zam.same{i j:Nat}(e:Nat.beq j i=true)(h:K .normal env H):zam i K (.exit j) env H:=by
 have:=qaP e
 subst this
 show(if j=j then K .normal env H else _)
 rw[if_pos rfl];exact h
theorem zam.other{i j:Nat}(e:Nat.beq j i=false)(h:K (.exit j) env H):zam i K (.exit j) env H:=by
 have:j≠i:=fun e'=>by subst e';simp at e
 show(if j=i then _ else _)
 rw[if_neg this];exact h
theorem TR.zcl{c:Operand}{x y:Code}(hc:env.val c=some (.t (.v (.bool true))))(h:TR P n x env H K):TR P n (.cond c x y) env H K:=TR.cond hc (fun _=>h) (fun e=>by cases e)
theorem TR.zsR{c:Operand}{x y:Code}(hc:env.val c=some (.t (.v (.bool false))))(h:TR P n y env H K):TR P n (.cond c x y) env H K:=TR.cond hc (fun e=>by cases e) (fun _=>h)
theorem TO.cmp{op:BinOp}{t t':TypeId}{x y:Operand}{a b:Value}{c:Bool}(hd:Nat.ble (d+1) n=true)(hx:env.val x=some (.t (.v a)))(hy:env.val y=some (.t (.v b)))
  (hz:zbi op a b=some (.bool c))(ht:c=true->TO q P n all rest ((d,.t (.v (.bool true)))::env) H K)(hf:c=false->TO q P n all rest ((d,.t (.v (.bool false)))::env) H K):
  TO q P n all (⟨some d,.binOp op t x y t',ty,pos,aft,none⟩::rest) env H K:=by
 cases c
 ·exact TO.bin hd hx hy hz (hf rfl)
 ·exact TO.bin hd hx hy hz (ht rfl)
theorem TO.ztM{cargs:List SV}{b:Bool}{f:Operand}{fid:FuncId}{caps:List SV}{args:Array Operand}{ts:Array TypeId}{vs:List SV}(hs:Pure P fid cargs (.t (.v (.bool b))))(hd:Nat.ble (d+1) n=true)
  (hf:env.val f=some (.fn fid caps))(ha:env.vals args.toList=some vs)(hl:LesB H (vs++caps) cargs)
  (kt:b=true->TO q P n all rest ((d,.t (.v (.bool true)))::env) H K)(kf:b=false->TO q P n all rest ((d,.t (.v (.bool false)))::env) H K):
  TO q P n all (⟨some d,.call { callee:=.value f,args:=args,argTypes:=ts },ty,pos,aft,none⟩::rest) env H K:=by
 cases b
 ·exact TO.zsK hs hd hf ha hl (.v _) (kf rfl)
 ·exact TO.zsK hs hd hf ha hl (.v _) (kt rfl)
theorem Le.of_eq{a b:SV}(h:a=b):Le a b:=h ▸ Le.refl a
theorem RetK.pure{rs:List ResultVar}{vs:List SV}{v:SV}(hr:zbU tab env H rs=some vs)(hl:Le (pack vs) v)(hu:v.under 0=true):RetK tab rs 0 (fun r H'=>r= .ret v/\H'=[]) .ret env H:=
 ⟨vs,v,0,hr,hl,qae _,qaU _,hu,rfl,rfl,rfl⟩
theorem RetK.zub{rs:List ResultVar}{vs:List SV}{v:SV}(hr:zbU tab env H rs=some vs)(hl:Le (pack vs) v)(hu:v.under 0=true):RetK tab rs 0 (fun r H'=>r= .ret v/\H'=[]) .normal env H:=
 ⟨vs,v,0,hr,hl,qae _,qaU _,hu,rfl,rfl,rfl⟩
theorem TO.eqs{t t':TypeId}{x y:Operand}{a b:Str}(hd:Nat.ble (d+1) n=true)(hx:env.val x=some (.t (.v (str a))))(hy:env.val y=some (.t (.v (str b))))
  (ht:(a == b)=true->TO q P n all rest ((d,.t (.v (.bool true)))::env) H K)(hf:(a == b)=false->TO q P n all rest ((d,.t (.v (.bool false)))::env) H K):
  TO q P n all (⟨some d,.binOp .eql t x y t',ty,pos,aft,none⟩::rest) env H K:=
 TO.cmp (c:=(a == b)) hd hx hy rfl ht hf
theorem TO.nes{t t':TypeId}{x y:Operand}{a b:Str}(hd:Nat.ble (d+1) n=true)(hx:env.val x=some (.t (.v (str a))))(hy:env.val y=some (.t (.v (str b))))
  (ht:(a == b)=true->TO q P n all rest ((d,.t (.v (.bool false)))::env) H K)(hf:(a == b)=false->TO q P n all rest ((d,.t (.v (.bool true)))::env) H K):
  TO q P n all (⟨some d,.binOp .neq t x y t',ty,pos,aft,none⟩::rest) env H K:=
 TO.cmp (c:=!(a == b)) hd hx hy rfl (fun h=>hf (by simpa using h)) (fun h=>ht (by simpa using h))
theorem TO.zhs(hT:zau P tab){t:TypeId}{i:TyI}{x y:Operand}{l:Str}{ik:IntKind}{j:Nat}{c:UInt8}(hd:Nat.ble (d+1) n=true)(ht:tab.get t=some i)(hk:i.k= .str)(hx:env.val x=some (.t (.v (str l))))
  (hy:env.val y=some (.t (.v (.int ik (j:Int)))))(hc:l[j]?=some c)(k:TO q P n all rest ((d,.t (.v (.int .u8 c.toNat)))::env) H K):TO q P n all (⟨some d,.index t x y,ty,pos,aft,none⟩::rest) env H K:=
 TO.zd7 hT hd ht hk hx hy (by omega) (by simpa using hc) k
theorem TO.zdu(hT:zau P tab){t e:TypeId}{i ie:TyI}{x y:Operand}{v:SV}{sz:Nat}{es:List T}{ik:IntKind}{j:Nat}{el:T}{cs:List T}(hd:Nat.ble (d+1) n=true)(ht:tab.get t=some i)(hk:i.k= .slice e)
  (he:tab.get e=some ie)(hs:ie.size=sz)(hx:env.val x=some v)(hv:v.elems sz=some es)(hy:env.val y=some (.t (.v (.int ik (j:Int)))))(hj:es[j]?=some el)(hcs:el.cells=cs)
  (k:TO q P n all rest ((d,.cp cs 0)::env) H K):TO q P n all (⟨some d,.indexAddr t x y,ty,pos,aft,none⟩::rest) env H K:=
 TO.indexAddr hT hd ht hk he hs hx hv hy (by omega) (by simpa using hj) (by rw[hcs];exact k)
theorem TO.zp3(hT:zau P tab){t:TypeId}{i:TyI}{x y z:Operand}{l:Str}{a b:Nat}{ik ik':IntKind}(hd:Nat.ble (d+1) n=true)(ht:tab.get t=some i)(hk:i.k= .str)
  (hx:env.val x=some (.t (.v (str l))))(hy:env.val y=some (.t (.v (.int ik (a:Int)))))(hz:env.val z=some (.t (.v (.int ik' (b:Int)))))(h1:a≤b)(h2:b≤l.length)
  (k:TO q P n all rest ((d,.t (.v (str ((l.take b).drop a))))::env) H K):TO q P n all (⟨some d,.slice t x (some y) (some z) none,ty,pos,aft,none⟩::rest) env H K:=
 TO.zhW hT hd ht hk hx (.inr ⟨y,ik,rfl,hy⟩) (.inr ⟨z,ik',rfl,hz⟩) h1 h2 k
theorem TO.zfz(hT:zau P tab){t:TypeId}{i:TyI}{x y:Operand}{l:Str}{a:Nat}{ik:IntKind}(hd:Nat.ble (d+1) n=true)(ht:tab.get t=some i)(hk:i.k= .str)
  (hx:env.val x=some (.t (.v (str l))))(hy:env.val y=some (.t (.v (.int ik (a:Int)))))(h1:a≤l.length)
  (k:TO q P n all rest ((d,.t (.v (str (l.drop a))))::env) H K):TO q P n all (⟨some d,.slice t x (some y) none none,ty,pos,aft,none⟩::rest) env H K:=
 TO.zhW hT hd ht hk hx (.inr ⟨y,ik,rfl,hy⟩) (.inl ⟨rfl,rfl⟩) h1 (qae _) (by rw[qag];exact k)
theorem TO.zew(hT:zau P tab){t:TypeId}{i:TyI}{x z:Operand}{l:Str}{b:Nat}{ik':IntKind}(hd:Nat.ble (d+1) n=true)(ht:tab.get t=some i)(hk:i.k= .str)
  (hx:env.val x=some (.t (.v (str l))))(hz:env.val z=some (.t (.v (.int ik' (b:Int)))))(h2:b≤l.length)
  (k:TO q P n all rest ((d,.t (.v (str (l.take b))))::env) H K):TO q P n all (⟨some d,.slice t x none (some z) none,ty,pos,aft,none⟩::rest) env H K:=
 TO.zhW hT hd ht hk hx (.inl ⟨rfl,rfl⟩) (.inr ⟨z,ik',rfl,hz⟩) (qaU _) h2 (by simpa using k)
theorem Hands.one{G:Heap}{i:Nat}{b:Blk}(h:G[i]?=some (b.ren (names [i] G.length)))(hb:b.under 1=true):Hands G [i] [b] where
 nodup:=by simp
 lt:=fun x hx=>by
  have:x=i:=by simpa using hx
  subst this
  exact(qab.1 h).1
 len:=rfl
 H:=fun j k c h1 h2=>by
  cases j with
  | zero=>simp at h1 h2;subst h1;subst h2;exact h
  | succ j=>simp at h1
 under:=fun j c h2=>by
  cases j with
  | zero=>simp at h2;subst h2;exact hb
  | succ j=>simp at h2
theorem TO.zoV(l:List Nat){Hc Hc1 H':Heap}{cargs:List SV}{v v':SV}{f:Operand}{fid:FuncId}{caps:List SV}{args:Array Operand}{ts:Array TypeId}{vs:List SV}(hs:Sound P fid cargs Hc fun r H'=>r= .ret v/\H'=Hc1)(hd:Nat.ble (d+1) n=true)
  (hf:env.val f=some (.fn fid caps))(ha:env.vals args.toList=some vs)(hl:Les (vs++caps) (rens (names l H.length) cargs))(hu:unders Hc.length cargs=true)(hh:Hands H l Hc)
  (hv:v.ren (names l H.length)=v')(hH:patch H l (Hc1.map (Blk.ren (names l H.length)))=H')(k:TO false P n all rest ((d,v')::env) H' K):
  TO false P n all (⟨some d,.call { callee:=.value f,args:=args,argTypes:=ts },ty,pos,aft,none⟩::rest) env H K:=
 TO.call l hs hd hf ha hl hu hh (fun u Hc' h=>by
  obtain⟨h1,rfl⟩:=h
  cases h1
  rw[hv,hH];exact k) (fun u Hc' h=>by cases h.1)
def Env.under(k:Nat)(env:Env):Bool:=env.all fun x=>x.2.under k
theorem Env.zi1{k:Nat}:∀ {env:Env},env.under k=true->∀i v,env.look i=some v->v.under k=true
 | [],_,i,v,h=>by simp[Env.look]at h
 | (j,u)::r,hs,i,v,h=>by
   simp only[Env.under,qbw,qav]at hs
   by_cases hi:j=i
   ·subst hi
    rw[Env.zal]at h
    cases h
    exact hs.1
   ·rw[Env.zaj _ _ hi]at h
    exact Env.zi1 (env:=r) hs.2 i v h
def zab{ι:Type}(I:ι->Prop)(μ:ι->Nat)(E:ι->Env)(G:ι->Heap)(x:ι)(K:TK):TK
 | .normal,env,H=>∃y,I y/\μ y<μ x/\env.sub (E y)/\(H=G y\/∃j,Nat.ble (G x).length j=true/\Nat.ble j H.length=true/\zac j (H.take j)=true/\(E y).under j=true/\H.take j=G y)
 | e,env,H=>K e env H
theorem TR.znn{ι:Type}(I:ι->Prop)(μ:ι->Nat)(E:ι->Env)(G:ι->Heap)(x0:ι){c:Code}(hI:I x0)(h0:env.sub (E x0))(hH:H=G x0)
  (step:∀x,I x->TR P n c (E x) (G x) (zab I μ E G x K)):TR P n (.loop c) env H K:=by
 have key:∀m x,μ x=m->I x->TR P n (.loop c) (E x) (G x) K:=by
  intro m
  induction m using Nat.strongRecOn with
  | _ m ih=>
    intro x hm hx
    refine TR.loop ?_
    intro φ m0 a h1 h2 h3 h4
    refine zaY (step x hx φ m0 a h1 h2 h3 h4) ?_
    rintro e a' w ⟨m',env',te,rfl,s,hm',he,hd,hx',hk⟩
    cases te with
    | normal=>
      obtain⟨y,hy,hlt,hs,hc⟩:=hk
      have hl:=ih (μ y) (by omega) y rfl hy
      rcases hc with hc|⟨j,b1,b2,b3,b4,b5⟩
      ·exact⟨m',env',.normal,rfl,s,hm',he,hd,hx',by rw[hc];exact TR.sub (E y) hs hl⟩
      ·have hbl:=qah b1
       obtain⟨s1,hm1,hr⟩:=ze3 hm' s (qah b2) (by rw[h2.len,h1];exact hbl) b3
       refine⟨m'.cut j,E y,.normal,rfl,s1,hm1,⟨he.1,fun i v hv=>?_⟩,hd,by cases e <;> first|exact hx'|exact trivial,?_⟩
       ·obtain⟨z,g1,g2⟩:=he.2 i v (Env.zfD hs i v hv)
        exact⟨z,g1,hr v z (Env.zi1 b4 i v hv) g2⟩
       ·show TR P n (.loop c) (E y) (m'.H.take j) K
        rw[b5];exact hl
    | exit i=>exact⟨m',env',.exit i,rfl,s,hm',he,hd,hx',hk⟩
    | ret=>exact⟨m',env',.ret,rfl,s,hm',he,hd,hx',hk⟩
    | panic v=>
      cases e with
      | panic ch=>
        obtain⟨z,q1,q2⟩:=hx'
        exact⟨m',env',.panic v,rfl,s,hm',he,hd,⟨z,q1,q2⟩,hk⟩
      | _=>exact absurd hx' (by simp[zbg])
 subst hH
 exact TR.sub (E x0) h0 (key _ x0 rfl hI)
section loopk
variable {ι:Type}{I:ι->Prop}{μ:ι->Nat}{E:ι->Env}{G:ι->Heap}{x:ι}
theorem zab.next(y:ι)(hI:I y)(hm:μ y<μ x)(hs:env.sub (E y))(hH:H=G y):zab I μ E G x K .normal env H:=⟨y,hI,hm,hs,.inl hH⟩
theorem zab.cut(j:Nat)(y:ι)(hI:I y)(hm:μ y<μ x)(hs:env.sub (E y))(h1:Nat.ble (G x).length j=true)(h2:Nat.ble j H.length=true)(hH:H.take j=G y)(h3:zac j (G y)=true)(h4:(E y).under j=true):zab I μ E G x K .normal env H:=⟨y,hI,hm,hs,.inr ⟨j,h1,h2,by rw[hH];exact h3,h4,hH⟩⟩
theorem zab.exit{i:Nat}(h:K (.exit i) env H):zab I μ E G x K (.exit i) env H:=h
theorem zab.ret(h:K .ret env H):zab I μ E G x K .ret env H:=h
theorem zab.panic{v:SV}(h:K (.panic v) env H):zab I μ E G x K (.panic v) env H:=h
end loopk
theorem TO.zg9(hT:zau P tab){t e:TypeId}{i ie:TyI}{len sz:Nat}{parts:Array (Nat×Operand)}{ps:List (Nat×SV)}{es:List T}(hd:Nat.ble (d+1) n=true)(ht:tab.get t=some i)(hk:i.k= .slice e)(he:tab.get e=some ie)(hs:ie.size=sz)
  (hp:env.parts parts.toList=some ps)(hes:zdU sz 0 ps=some es)(hlen:Nat.beq len es.length=true)(hsz:(es.all fun t=>Nat.beq t.cells.length sz)=true)(hsm:Nat.ble (len*sz) 16777216=true)
  (k:TO false P n all rest ((d,.t (.sl sz es))::env) H K):TO false P n all (⟨some d,.buildSlice t len parts,ty,pos,aft,none⟩::rest) env H K:=
 TO.buildSlice hT hd ht hk he hs hp hes hlen (fun t h=>qaP (qaw.1 hsz t h)) hsm k
theorem TO.zg2(hT:zau P tab){t t' e:TypeId}{i i' ie:TyI}{sz id:Nat}{es ys:List T}{x y:Operand}{vy:SV}{H':Heap}(hd:Nat.ble (d+1) n=true)(ht:tab.get t=some i)(hk:i.k= .slice e)(ht':tab.get t'=some i')(hk':i'.k= .slice e)
  (he:tab.get e=some ie)(hs:ie.size=sz)(hpos:Nat.ble 1 sz=true)(hx:env.val x=some (.sl sz es id))(hH:H[id]?=some (.tail es.length))(hy:env.val y=some vy)(hvy:vy.elems sz=some ys)
  (hby:Nat.ble ie.bytes 4096=true)(hb1:es.length+ys.length≤10000000000)(hH':H.set id (.tail (es.length+ys.length))=H')
  (k:TO false P n all rest ((d,.sl sz (es++ys) id)::env) H' K):TO false P n all (⟨some d,.call { callee:=.builtin .append,args:=#[x,y],argTypes:=#[t,t'] },ty,pos,aft,none⟩::rest) env H K:=by
 have h1:=qah hby
 have h2:(es.length+ys.length)*ie.bytes≤10000000000*4096:=qbZ hb1 h1
 exact TO.append hT hd ht hk ht' hk' he hs (qah hpos) hx hH hy hvy (by omega) (by omega) (by omega) hH' k
theorem RetK.keep(k:Nat){rs:List ResultVar}{N:Nat}{R:Res->Heap->Prop}{vs:List SV}{v:SV}{H':Heap}(hr:zbU tab env H rs=some vs)(hl:Le (pack vs) v)(hN:Nat.ble N k=true)(hk:Nat.ble k H.length=true)(hu:v.under k=true)(hH:H.take k=H')
  (hb:zac k H'=true)(hR:R (.ret v) H'):RetK tab rs N R .ret env H:=
 ⟨vs,v,k,hr,hl,qah hN,qah hk,hu,by rw[hH];exact hb,by rw[hH];exact hR⟩
theorem RetK.zih(k:Nat){rs:List ResultVar}{N:Nat}{R:Res->Heap->Prop}{vs:List SV}{v:SV}{H':Heap}(hr:zbU tab env H rs=some vs)(hl:Le (pack vs) v)(hN:Nat.ble N k=true)(hk:Nat.ble k H.length=true)(hu:v.under k=true)(hH:H.take k=H')
  (hb:zac k H'=true)(hR:R (.ret v) H'):RetK tab rs N R .normal env H:=
 ⟨vs,v,k,hr,hl,qah hN,qah hk,hu,by rw[hH];exact hb,by rw[hH];exact hR⟩
end rules
section rules
variable {P:Program}{n:Nat}{env:Env}{H:Heap}{K:TK}{all:Array Oper}{rest:List Oper}{tab:Tab}{q:Bool}
variable {d:Nat}{ty:TypeId}{pos:String}{aft:Array Edge}
theorem TO.zfN{t t':TypeId}{x:Operand}{c:UInt8}(hd:Nat.ble (d+1) n=true)(hu:(P.underlying t).isSome=true)(hu':P.underlying t'=some (.int .i64))(hx:env.val x=some (.t (.v (.int .u8 (c.toNat:Int)))))
  (k:TO q P n all rest ((d,.t (.v (.int .i64 (c.toNat:Int))))::env) H K):TO q P n all (⟨some d,.convert t t' x,ty,pos,aft,none⟩::rest) env H K:=by
 refine TO.zlQ hd hu hu' hx ?_
 have hc:=c.toNat_lt
 rw[zem (by omega) (by omega)]
 exact k
theorem ztn{t:TypeId}(hu:P.underlying t=some .bool)(a b:Bool)(w:World):(Go.binOp .eql t (.bool a) (.bool b)).run P w= .ok (.bool (a == b)) w:=by
 exact zwby
theorem zto{t:TypeId}(hu:P.underlying t=some .bool)(a b:Bool)(w:World):(Go.binOp .neq t (.bool a) (.bool b)).run P w= .ok (.bool (!(a == b))) w:=by
 exact zwby
theorem TO.eqb{t t':TypeId}{x y:Operand}{a b:Bool}(hd:Nat.ble (d+1) n=true)(hx:env.val x=some (.t (.v (.bool a))))(hy:env.val y=some (.t (.v (.bool b))))(hu:P.underlying t=some .bool)
  (k:TO q P n all rest ((d,.t (.v (.bool (a == b))))::env) H K):TO q P n all (⟨some d,.binOp .eql t x y t',ty,pos,aft,none⟩::rest) env H K:=
 TO.op hd (fun m ac h1 h2 h3=>⟨.bool (a == b),fun w' hw'=>by
  have ex:=(h3.val hx).v_eq
  have ey:=(h3.val hy).v_eq
  simp[execOp,ex,ey,eqGuard,ztn hu],.t _ _ (.v _)⟩) k
theorem TO.neb{t t':TypeId}{x y:Operand}{a b:Bool}(hd:Nat.ble (d+1) n=true)(hx:env.val x=some (.t (.v (.bool a))))(hy:env.val y=some (.t (.v (.bool b))))(hu:P.underlying t=some .bool)
  (k:TO q P n all rest ((d,.t (.v (.bool (!(a == b)))))::env) H K):TO q P n all (⟨some d,.binOp .neq t x y t',ty,pos,aft,none⟩::rest) env H K:=
 TO.op hd (fun m ac h1 h2 h3=>⟨.bool (!(a == b)),fun w' hw'=>by
  have ex:=(h3.val hx).v_eq
  have ey:=(h3.val hy).v_eq
  simp[execOp,ex,ey,eqGuard,zto hu],.t _ _ (.v _)⟩) k
end rules
end Go.TL
