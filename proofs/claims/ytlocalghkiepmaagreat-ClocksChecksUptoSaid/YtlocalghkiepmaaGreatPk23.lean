import Derived.Lib.SliceRun
import Derived.Test.YtlocalghkiepmaaGreatPk6
import Derived.Test.YtlocalghkiepmaaGreatPk10
import Derived.Test.YtlocalghkiepmaaGreatPk12
import Derived.Test.YtlocalghkiepmaaGreatPk18
set_option linter.unusedSimpArgs false
set_option linter.unusedVariables false
namespace Go.TL
open Go
theorem fix_ok{m:M}(hm:HRel m){R:Nat}{e:TypeId}{ts:List T}{p:Place}(hp:m.β[R]?=some p)(hH:m.H[R]?=some (.row e ts)):
  Step m ⟨m.A,m.β++[p],m.H.set R .dead++[.cells (ts.map .t)],m.w⟩/\HRel ⟨m.A,m.β++[p],m.H.set R .dead++[.cells (ts.map .t)],m.w⟩:=by
 have hR:=(List.getElem?_eq_some_iff.1 hH).1
 have hlen:=hm.len
 have pick:∀(i:Nat) q c,(m.β++[p])[i]?=some q->(m.H.set R .dead++[Blk.cells (ts.map .t)])[i]?=some c->c.live=true->(i=m.H.length/\q=p/\c= .cells (ts.map .t))\/(i≠R/\i<m.H.length/\m.β[i]?=some q/\m.H[i]?=some c):=by
  intro i q c h1 h2 hl
  by_cases hi:i<m.H.length
  ·rw[List.getElem?_append_left (by rw[hlen];exact hi)]at h1
   rw[List.getElem?_append_left (by simpa using hi)]at h2
   by_cases hir:i=R
   ·subst hir
    rw[List.getElem?_set_self hR]at h2
    cases h2;cases hl
   ·rw[List.getElem?_set_ne (by omega)]at h2
    exact .inr ⟨hir,hi,h1,h2⟩
  ·rw[List.getElem?_append_right (by rw[hlen];omega)]at h1
   rw[List.getElem?_append_right (by simp;omega)]at h2
   have:i=m.H.length:=by
    have:=(List.getElem?_eq_some_iff.1 h2).1
    simp at this;omega
   subst this
   simp[hlen]at h1 h2
   exact .inl ⟨rfl,h1.symm,h2.symm⟩
 have own:∀b o,Own ⟨m.A,m.β++[p],m.H.set R .dead++[.cells (ts.map .t)],m.w⟩ b o->Own m b o:=by
  rintro b o ⟨i,q,c,h1,h2,h3,h4⟩
  rcases pick i q c h1 h2 h3 with ⟨rfl,rfl,rfl⟩|⟨_,_,g1,g2⟩
  ·exact⟨R,q,_,hp,hH,rfl,h4⟩
  ·exact⟨i,q,c,g1,g2,h3,h4⟩
 have s:Step m ⟨m.A,m.β++[p],m.H.set R .dead++[.cells (ts.map .t)],m.w⟩:=by
  refine⟨rfl,rfl,rfl,Nat.le_refl _,fun _ _ h=>h,fun _ _ h=>.inl h,fun b o h=>.inl (own b o h),fun _ _ _ _=>rfl,fun _ _ _ _ _=>rfl,fun _ _ _=>rfl,fun _ _ h=>h,fun _ L h=>⟨L,h⟩,fun _ _ _ h=>h,fun i q hq=>⟨q,?_,?_⟩⟩
  ·show(m.β++[p])[i]?=some q
   rw[List.getElem?_append_left (List.getElem?_eq_some_iff.1 hq).1];exact hq
  ·have hi:i<m.H.length:=by rw[<-hlen];exact(List.getElem?_eq_some_iff.1 hq).1
   show IdStep m.H[i]? (m.H.set R .dead++[Blk.cells (ts.map .t)])[i]? q q
   rw[List.getElem?_append_left (by simpa using hi)]
   by_cases hir:i=R
   ·subst hir
    rw[List.getElem?_set_self hR,hH]
    intro n' h
    cases h
   ·rw[List.getElem?_set_ne (by omega)]
    exact IdStep.refl _ _
 obtain⟨⟨r1,r2,r3⟩,r4,r5⟩:=hm.blk R p _ hp hH
 refine⟨s,by simp[hlen],fun i q c h1 h2=>?_,fun i j q q' c c' hij h1 h2 h3 h4 hc hc'=>?_,fun b o h hn=>hm.still b o h (own b o hn),hm.inA,fun i q c h1 h2 hc hq=>?_⟩
 ·cases hlv:c.live with
  | false=>cases c <;> simp[Blk.live]at hlv;trivial
  | true=>
    rcases pick i q c h1 h2 hlv with ⟨rfl,rfl,rfl⟩|⟨_,_,g1,g2⟩
    ·refine⟨by simp[r1];exact r2,r4,fun j c hc=>?_⟩
     rw[List.getElem?_map]at hc
     cases ht:ts[j]? with
     | none=>rw[ht]at hc;cases hc
     | some t=>
       rw[ht]at hc;cases hc
       obtain⟨y,y1,y2,y3⟩:=r5 j t ht
       exact⟨y,y1,y2,.t _ _ y3⟩
    ·exact(hm.blk i q c g1 g2).step hm s (fun o _ _=>⟨rfl,fun _=>rfl⟩) (fun _=>rfl)
 ·rcases pick i q c h1 h2 hc with ⟨rfl,rfl,rfl⟩|⟨a0,a1,a2,a3⟩
  ·rcases pick j q' c' h3 h4 hc' with ⟨rfl,rfl,rfl⟩|⟨b0,b1,b2,b3⟩
   ·exact absurd rfl hij
   ·exact hm.apart R j _ _ _ _ (fun e=>b0 e.symm) hp hH b2 b3 rfl hc'
  ·rcases pick j q' c' h3 h4 hc' with ⟨rfl,rfl,rfl⟩|⟨b0,b1,b2,b3⟩
   ·exact hm.apart i R _ _ _ _ a0 a2 a3 hp hH hc rfl
   ·exact hm.apart i j _ _ _ _ hij a2 a3 b2 b3 hc hc'
 ·rcases pick i q c h1 h2 hc with ⟨rfl,rfl,rfl⟩|⟨a0,a1,a2,a3⟩
  ·exact hm.inO R _ _ hp hH rfl hq
  ·exact hm.inO i q c a2 a3 hc hq
section rules
variable {P:Program}{n:Nat}{env:Env}{H:Heap}{K:TK}{all:Array Oper}{rest:List Oper}{tab:Tab}
variable {d:Nat}{ty:TypeId}{pos:String}{aft:Array Edge}{q:Bool}
theorem TO.fix(x:Nat){R len:Nat}{e:TypeId}{ts:List T}{H':Heap}{ops:List Oper}(hx:env.look x=some (.rw R len))(hH:H[R]?=some (.row e ts))(hl:len=ts.length)(hpos:0<ts.length)(hH':H.set R .dead++[.cells (ts.map .t)]=H')
  (k:TO false P n all ops ((x,.ms 1 H.length 0 len)::env) H' K):TO false P n all ops env H K:=by
 intro φ m a h1 h2 h3 h4
 obtain⟨y,y1,y2⟩:=h3.2 x _ hx
 cases y2 with
 | rw _ _ _ p hp hxs ho=>
   have hH1:m.H[R]?=some (.row e ts):=by rw[h1];exact hH
   obtain⟨s,hm'⟩:=fix_ok h2 hp hH1
   have hho:=(ho ts.length (by rw[hH1];rfl)).2 (by rw[hl])
   obtain⟨ad,cap,hyq,hc1,hc2,hc3,hc4⟩:=hho
   have hE:ERel ⟨m.A,m.β++[p],m.H.set R .dead++[.cells (ts.map .t)],m.w⟩ n ((x,.ms 1 H.length 0 len)::env) a.tmps:=by
    refine⟨h3.1,fun i v hv=>?_⟩
    by_cases hi:x=i
    ·subst hi
     rw[Env.look_cons_same]at hv
     cases hv
     refine⟨y,y1,?_⟩
     cases ad with
     | none=>simp only at hc4;omega
     | some a0=>
       obtain⟨hc4,hc5⟩:=hc4
       subst hyq hc4
       have hz:(⟨p.b,0,none⟩:Addr)=⟨p.b,p.lo+0,none⟩:=by rw[hc2]
       rw[hz]
       refine .ms 1 H.length 0 len cap p ?_ ?_ hc1 (by omega)
       ·show(m.β++[p])[H.length]?=some p
        rw[<-h1,<-h2.len,List.getElem?_append_right (Nat.le_refl _)];simp
       ·intro n' hn
        have:(m.H.set R .dead++[Blk.cells (ts.map .t)])[H.length]?=some (.cells (ts.map .t)):=by
         rw[<-h1,List.getElem?_append_right (by simp)];simp
        rw[show(M.H ⟨m.A,m.β++[p],m.H.set R .dead++[.cells (ts.map .t)],m.w⟩)[H.length]?=_ from this]at hn
        cases hn
    ·rw[Env.look_cons_other _ _ hi]at hv
     exact(h3.step h2 s).2 i v hv
   exact TO.step' (m':=⟨m.A,m.β++[p],m.H.set R .dead++[.cells (ts.map .t)],m.w⟩) s (k φ ⟨m.A,m.β++[p],m.H.set R .dead++[.cells (ts.map .t)],m.w⟩ a (by show m.H.set R .dead++_=H';rw[h1];exact hH') hm' hE (h4.step h2 s))
theorem TO.effV{op:Op}{H':Heap}
  (h:∀(m:M) (a:Act),m.H=H->HRel m->ERel m n env a.tmps->∃x m',(execOp a.eval ⟨none,op,ty,pos,aft,none⟩).run P m.w= .ok (.value x) m'.w/\Step m m'/\HRel m'/\m'.H=H')
  (k:TO false P n all rest env H' K):TO false P n all (⟨none,op,ty,pos,aft,none⟩::rest) env H K:=by
 intro φ m a h1 h2 h3 h4
 obtain⟨x,m',hx,s,hm',hH'⟩:=h m a h1 h2 h3
 refine wpListIn_plain rfl fun K' hK=>?_
 unfold Oper.wpIn
 refine⟨fun _ _=>trivial,?_⟩
 rw[semAt_val hx (by intro d e;cases e)]
 simp only[Oper.uponIn]
 exact hK _ _ (TO.step' s (k φ m' _ hH' hm' (by simpa [Act.put]using h3.step h2 s) (by simpa [Act.put]using h4.step h2 s)))
theorem TO.clear1(hT:TabOk P tab){t e:TypeId}{i ie:TyI}{z:T}{x:Operand}{id off len:Nat}{cs:List SV}{H':Heap}(ht:tab.get t=some i)(hk:i.k= .slice e)(he:tab.get e=some ie)(hz:ie.zero=[z])(hag:ie.k.agg=false)
  (hx:env.val x=some (.ms 1 id off len))(hH:H[id]?=some (.cells cs))(hpos:0<len)(hl:off+len≤cs.length)(hH':H.set id (.cells (splice cs off (List.replicate len (.t z))))=H')
  (k:TO false P n all rest env H' K):TO false P n all (⟨none,.call { callee:=.builtin .clear,args:=#[x],argTypes:=#[t] },ty,pos,aft,none⟩::rest) env H K:=
 TO.effV (fun m ac h1 h2 h3=>by
  obtain⟨zz,hz1,hz2,_,hz4⟩:=(hT e ie he).zero
  obtain⟨g1,g0,g2⟩:=zero_rel (A:=m.A) (w:=m.w) _ _ hz2
  have hzz:zz.cells= #[zz]:=by
   have:=hz4 hag
   cases zz <;> simp[Value.oneCell']at this <;> rfl
  have h:=h3.val hx
  generalize hq:ac.eval x=u at h
  cases h with
  | ms _ _ _ _ cap p hp hn hc hh=>
    have hH1:m.H[id]?=some (.cells cs):=by rw[h1];exact hH
    obtain⟨b1,b2,b3⟩:=h2.blk id p _ hp hH1
    have hzr:TRel m.A m.w z zz:=g2 0 z zz (by rw[hz];rfl) (by rw[hzz];rfl)
    obtain⟨s,hm'⟩:=upd_cells h2 (off:=off) (vs:=List.replicate len (.t z)) (ys:=List.replicate len zz) hp hH1 (by simpa using hl) (by simpa using hpos) (by simp) (fun u hu=>by rw[List.eq_of_mem_replicate hu];exact hz4 hag)
     (fun j c y hc hy=>by
       rw[List.getElem?_replicate]at hc hy
       split at hc
       ·rename_i hj
        rw[if_pos hj]at hy
        cases hc;cases hy
        exact .t _ _ hzr
       ·cases hc)
    refine⟨.tuple #[],_,?_,s,hm',by rw[h1];exact hH'⟩
    have hun:=(hT t i ht).slice hk
    have hrun:=Go.Lib.run_clear_slice (P:=P) m.w t e ty zz hun (fun w=>hz1 w) hzz (hz4 hag) p.b (p.lo+off) len cap hpos (fun j hj=>(b2 _ (by omega) (by omega)).1) (fun j hj=>(b2 _ (by omega) (by omega)).2)
    simp[execOp,resolve,invoke,hq,builtin,hrun]) k
theorem TO.slice_mslo(hT:TabOk P tab){t e:TypeId}{i ie:TyI}{x z:Operand}{sz id off len b:Nat}{ik:IntKind}(hd:Nat.ble (d+1) n=true)(ht:tab.get t=some i)(hk:i.k= .slice e)(he:tab.get e=some ie)(hsz:ie.size=sz)
  (hx:env.val x=some (.ms sz id off len))(hz:env.val z=some (.t (.v (.int ik (b:Int)))))(h2:b<len)
  (k:TO q P n all rest ((d,.ms sz id (off+b*sz) (len-b))::env) H K):TO q P n all (⟨some d,.slice t x (some z) none none,ty,pos,aft,none⟩::rest) env H K:=
 TO.op hd (fun m ac g1 g2 g3=>by
  have h:=g3.val hx
  generalize hq:ac.eval x=v at h
  cases h with
  | ms _ _ _ _ cap p hp hn hc hh=>
    refine⟨.slice (some ⟨p.b,p.lo+(off+b*sz),none⟩) (len-b) (cap-b),fun w' hw'=>?_,.ms sz id (off+b*sz) (len-b) (cap-b) p hp hn (by omega) ?_⟩
    ·have:=slice_sl_run (P:=P) hT ht hk he (some ⟨p.b,p.lo+off,none⟩) len cap (some (ac.eval z)) none b len w' (.inr ⟨ik,by rw[(g3.val hz).v_eq]⟩) (.inl ⟨rfl,rfl⟩) (by omega) (by omega)
     rw[if_neg (by omega),hsz]at this
     simp only[Option.map_some,addr_add,Nat.add_assoc]at this
     simp[execOp,hq,this]
    ·have:b*sz+(cap-b)*sz=cap*sz:=by rw[<-Nat.add_mul];congr 1;omega
     omega) k
theorem TO.freezeP{ops:List Oper}(i sz id len:Nat){cs:List SV}{es:List T}{H':Heap}(hi:env.look i=some (.ms sz id 0 len))(hH:H[id]?=some (.cells cs))(hcl:es.length*sz≤cs.length)(hcs:∀(j:Nat) c,((es.map T.cells).flatten.map SV.t)[j]?=some c->cs[j]?=some c)(hlen:len=es.length)(hsz:∀e∈es,e.cells.length=sz)
  (hpos:Nat.ble 1 sz=true)(hH':H.set id .dead=H')(k:TO false P n all ops ((i,.t (.sl sz es))::env) H' K):TO false P n all ops env H K:=by
 intro φ m a h1 h2 h3 h4
 have hp':=Nat.le_of_ble_eq_true hpos
 obtain⟨x,hx1,hx2⟩:=h3.2 i _ hi
 subst hlen
 obtain⟨l1,l2⟩:=flat_cells es hsz
 cases hx2 with
 | ms _ _ _ _ cap p hp hn hc hh=>
   have hH1:m.H[id]?=some (.cells cs):=by rw[h1];exact hH
   obtain⟨b1,b2,b3⟩:=h2.blk id p _ hp hH1
   have hex:∀j,∃y,j<cs.length->m.w.cell? ⟨p.b,p.lo+j,none⟩=some y/\y.oneCell'=true/\∀c,cs[j]?=some c->SRel m c y:=by
    intro j
    by_cases hj:j<cs.length
    ·obtain⟨y,hy1,hy0,hy2⟩:=b3 j cs[j] (List.getElem?_eq_getElem hj)
     exact⟨y,fun _=>⟨hy1,hy0,fun c hc=>by rw[List.getElem?_eq_getElem hj]at hc;cases hc;exact hy2⟩⟩
    ·exact⟨undef,fun h=>absurd h hj⟩
   let f:Nat->Value:=fun j=>Classical.choose (hex j)
   have hf:=fun j=>Classical.choose_spec (hex j)
   obtain⟨s,hm'⟩:=mv_step h2 (k1:=.dead) (p':=p) (A':=fun b o=>m.A b o\/(b=p.b/\p.lo≤o/\o<p.lo+cs.length)) (w':=m.w) hp hH1 rfl rfl rfl rfl (Nat.le_refl _) (fun _ _ _ _=>rfl) (fun _ _ _ _ _=>rfl) (fun _ _ _=>rfl) (fun _ _ _ h=>h) (fun _ _ h=>h)
    (fun _ _ h=>.inl h) (fun b o h=>by
      rcases h with h|h
      ·exact .inl h
      ·exact .inr (.inl (by omega))) (fun h=>by cases h) (fun h=>by cases h) (fun o q1 q2=>(b2 o q1 q2).1) ⟨rfl,fun n'=>by simp[tlOf]⟩ (fun _=>trivial)
   have hlt:∀q j,q<es.length->j<sz->q*sz+j<cs.length:=fun q j hq hj=>by
    have:=Nat.mul_le_mul_right sz (show q+1≤es.length from hq)
    rw[Nat.succ_mul]at this
    omega
   have hr:SRel ⟨fun b o=>m.A b o\/(b=p.b/\p.lo≤o/\o<p.lo+cs.length),m.β.set id p,m.H.set id .dead,m.w⟩ (.t (.sl sz es)) (.slice (some ⟨p.b,p.lo+0,none⟩) es.length cap):=by
    refine .t _ _ (.sl sz es p.b (p.lo+0) cap f hc (fun j e he=>hsz e (List.mem_of_getElem? he)) (fun q j hq hj=>.inr ⟨rfl,by omega,by have:=hlt q j hq hj;omega⟩) (fun q j hq hj=>(hf _ (hlt q j hq hj)).1) (fun q j hq hj=>(hf _ (hlt q j hq hj)).2.1) (fun q e j c he hc'=>?_))
    have hq:=(List.getElem?_eq_some_iff.1 he).1
    have hj:=(List.getElem?_eq_some_iff.1 hc').1
    rw[hsz e (List.mem_of_getElem? he)]at hj
    have hcc:cs[q*sz+j]?=some (.t c):=hcs _ _ (by rw[List.getElem?_map,l2 q j e c he hc'];rfl)
    have:=(hf _ (hlt q j hq hj)).2.2 _ hcc
    cases this with
    | t _ _ h=>exact s.trel h2 h
   refine TO.step' (m':=⟨fun b o=>m.A b o\/(b=p.b/\p.lo≤o/\o<p.lo+cs.length),m.β.set id p,m.H.set id .dead,m.w⟩) s (k φ ⟨fun b o=>m.A b o\/(b=p.b/\p.lo≤o/\o<p.lo+cs.length),m.β.set id p,m.H.set id .dead,m.w⟩ a (by rw[h1];exact hH') hm' ⟨h3.1,fun j v hv=>?_⟩ (h4.step h2 s))
   by_cases hj:i=j
   ·subst hj
    rw[Env.look_cons_same]at hv
    cases hv
    exact⟨_,hx1,hr⟩
   ·rw[Env.look_cons_other _ _ hj]at hv
    exact(h3.step h2 s).2 j v hv
end rules
section rules
variable {P:Program}{n:Nat}{env:Env}{H:Heap}{K:TK}{all:Array Oper}{rest:List Oper}{tab:Tab}
variable {d:Nat}{ty:TypeId}{pos:String}{aft:Array Edge}{q:Bool}
theorem TR.less{c:Code}(i:Nat){v v':SV}(hi:env.look i=some v)(hl:Le v v')(k:TR P n c ((i,v')::env) H K):TR P n c env H K:=by
 intro φ m a h1 h2 h3 h4
 refine k φ m a h1 h2 ⟨h3.1,fun j w hw=>?_⟩ h4
 by_cases hj:i=j
 ·subst hj
  rw[Env.look_cons_same]at hw
  cases hw
  obtain⟨x,x1,x2⟩:=h3.2 i _ hi
  exact⟨x,x1,hl m x x2⟩
 ·rw[Env.look_cons_other _ _ hj]at hw
  exact h3.2 j w hw
theorem TO.rw_nil(x sz:Nat){R:Nat}{e:TypeId}{ops:List Oper}(hx:env.look x=some (.rw R 0))(hH:H[R]?=some (.row e []))
  (k:TO q P n all ops ((x,.t (.sl sz []))::env) H K):TO q P n all ops env H K:=by
 intro φ m a h1 h2 h3 h4
 refine k φ m a h1 h2 ⟨h3.1,fun i v hv=>?_⟩ h4
 by_cases hi:x=i
 ·subst hi
  rw[Env.look_cons_same]at hv
  cases hv
  obtain⟨y,y1,y2⟩:=h3.2 x _ hx
  refine⟨y,y1,?_⟩
  cases y2 with
  | rw _ _ _ p hp hxs ho=>
    have hH1:m.H[R]?=some (.row e []):=by rw[h1];exact hH
    obtain⟨ad,cap,rfl,hc1,hc2,hc3,hc4⟩:=(ho 0 (by rw[hH1];rfl)).2 rfl
    cases ad with
    | none=>
      simp only at hc4
      subst hc4
      exact .t _ _ (.nil sz)
    | some a0=>
      obtain⟨rfl,_⟩:=hc4
      exact .t _ _ (.sl sz [] p.b 0 cap (fun _=>undef) (Nat.zero_le _) (fun i e h=>by simp at h) (fun i j h=>by simp at h) (fun i j h=>by simp at h) (fun i j h=>by simp at h) (fun i e j c h=>by simp at h))
 ·rw[Env.look_cons_other _ _ hi]at hv
  exact h3.2 i v hv
theorem TO.less(i:Nat){ops:List Oper}{v v':SV}(hi:env.look i=some v)(hl:Le v v')(k:TO q P n all ops ((i,v')::env) H K):TO q P n all ops env H K:=by
 intro φ m a h1 h2 h3 h4
 refine k φ m a h1 h2 ⟨h3.1,fun j w hw=>?_⟩ h4
 by_cases hj:i=j
 ·subst hj
  rw[Env.look_cons_same]at hw
  cases hw
  obtain⟨x,x1,x2⟩:=h3.2 i _ hi
  exact⟨x,x1,hl m x x2⟩
 ·rw[Env.look_cons_other _ _ hj]at hw
  exact h3.2 j w hw
theorem TO.shadow{ops:List Oper}{v x:SV}(k:TO q P n all ops ((d,v)::env) H K):TO q P n all ops ((d,v)::(d,x)::env) H K:=by
 intro φ m a h1 h2 h3 h4
 refine k φ m a h1 h2 ⟨h3.1,fun j w hw=>h3.2 j w ?_⟩ h4
 by_cases hj:d=j
 ·subst hj
  rw[Env.look_cons_same]at hw⊢;exact hw
 ·rw[Env.look_cons_other _ _ hj]at hw
  rw[Env.look_cons_other _ _ hj,Env.look_cons_other _ _ hj];exact hw
theorem grow_dead{m:M}(hm:HRel m):Step m ⟨m.A,m.β++[⟨0,0,0⟩],m.H++[.dead],m.w⟩/\HRel ⟨m.A,m.β++[⟨0,0,0⟩],m.H++[.dead],m.w⟩:=by
 have hlen:=hm.len
 have pick:∀(i:Nat) q c,(m.β++[(⟨0,0,0⟩:Place)])[i]?=some q->(m.H++[Blk.dead])[i]?=some c->c.live=true->m.β[i]?=some q/\m.H[i]?=some c:=by
  intro i q c h1 h2 hl
  by_cases hi:i<m.H.length
  ·rw[List.getElem?_append_left (by rw[hlen];exact hi)]at h1
   rw[List.getElem?_append_left hi]at h2
   exact⟨h1,h2⟩
  ·rw[List.getElem?_append_right (by omega)]at h2
   cases hj:i-m.H.length with
   | zero=>rw[hj]at h2;cases h2;cases hl
   | succ j=>rw[hj]at h2;cases h2
 have own:∀b o,Own ⟨m.A,m.β++[⟨0,0,0⟩],m.H++[.dead],m.w⟩ b o->Own m b o:=by
  rintro b o ⟨i,q,c,h1,h2,h3,h4⟩
  exact⟨i,q,c,(pick i q c h1 h2 h3).1,(pick i q c h1 h2 h3).2,h3,h4⟩
 have s:Step m ⟨m.A,m.β++[⟨0,0,0⟩],m.H++[.dead],m.w⟩:=by
  refine⟨rfl,rfl,rfl,Nat.le_refl _,fun _ _ h=>h,fun _ _ h=>.inl h,fun b o h=>.inl (own b o h),fun _ _ _ _=>rfl,fun _ _ _ _ _=>rfl,fun _ _ _=>rfl,fun _ _ h=>h,fun _ L h=>⟨L,h⟩,fun _ _ _ h=>h,fun i q hq=>⟨q,?_,?_⟩⟩
  ·show(m.β++[_])[i]?=some q
   rw[List.getElem?_append_left (List.getElem?_eq_some_iff.1 hq).1];exact hq
  ·show IdStep m.H[i]? (m.H++[Blk.dead])[i]? q q
   rw[List.getElem?_append_left (by rw[<-hlen];exact(List.getElem?_eq_some_iff.1 hq).1)]
   exact IdStep.refl _ _
 refine⟨s,by simp[hlen],fun i q c h1 h2=>?_,fun i j q r c l hij h1 h2 h3 h4 hc hl=>?_,fun b o h hn=>hm.still b o h (own b o hn),hm.inA,fun i q c h1 h2 hc hq=>hm.inO i q c (pick i q c h1 h2 hc).1 (pick i q c h1 h2 hc).2 hc hq⟩
 ·cases hlv:c.live with
  | false=>cases c <;> simp[Blk.live]at hlv;trivial
  | true=>exact(hm.blk i q c (pick i q c h1 h2 hlv).1 (pick i q c h1 h2 hlv).2).step hm s (fun o _ _=>⟨rfl,fun _=>rfl⟩) (fun _=>rfl)
 ·exact hm.apart i j q r c l hij (pick i q c h1 h2 hc).1 (pick i q c h1 h2 hc).2 (pick j r l h3 h4 hl).1 (pick j r l h3 h4 hl).2 hc hl
theorem TO.addDead{ops:List Oper}(k:TO false P n all ops env (H++[.dead]) K):TO false P n all ops env H K:=by
 intro φ m a h1 h2 h3 h4
 obtain⟨s,hm'⟩:=grow_dead h2
 exact TO.step' (m':=⟨m.A,m.β++[⟨0,0,0⟩],m.H++[.dead],m.w⟩) s (k φ ⟨m.A,m.β++[⟨0,0,0⟩],m.H++[.dead],m.w⟩ a (by rw[h1]) hm' (h3.step h2 s) (h4.step h2 s))
theorem TO.callW{H1:Heap}{cargs:List SV}{v:SV}{f:Operand}{fid:FuncId}{caps:List SV}{args:Array Operand}{ts:Array TypeId}{vs:List SV}(hs:Sound P fid cargs H fun r H'=>r= .ret v/\H'=H1)(hd:Nat.ble (d+1) n=true)
  (hf:env.val f=some (.fn fid caps))(ha:env.vals args.toList=some vs)(hl:Les (vs++caps) cargs)(k:TO false P n all rest ((d,v)::env) H1 K):
  TO false P n all (⟨some d,.call { callee:=.value f,args:=args,argTypes:=ts },ty,pos,aft,none⟩::rest) env H K:=
 TO.callA hs hd hf ha hl (fun u H' h=>by obtain⟨h,rfl⟩:=h;cases h;exact k) (fun u H' h=>by cases h.1)
end rules
section rules
variable {P:Program}{n:Nat}{env:Env}{H:Heap}{K:TK}{all:Array Oper}{rest:List Oper}{tab:Tab}{q:Bool}
variable {d:Nat}{ty:TypeId}{pos:String}{aft:Array Edge}
theorem TO.makeBound{f:FuncId}{bs:Array Operand}{vs:List SV}(hd:Nat.ble (d+1) n=true)(hv:env.vals bs.toList=some vs)(k:TO q P n all rest ((d,.bnd f vs)::env) H K):
  TO q P n all (⟨some d,.makeFunc (.func f) bs #[],ty,pos,aft,none⟩::rest) env H K:=
 TO.op hd (fun m ac g1 g2 g3=>⟨.func (.func f) (bs.map ac.eval) #[],fun w' hw'=>by simp[execOp,Instr.makeFunc],by
  obtain⟨h1,h2⟩:=g3.vals _ _ hv
  exact .bnd f vs _ (by simp[h1]) fun i c y hc hy=>h2 i c y hc (by simpa using hy)⟩) k
theorem Le.bnd{f:FuncId}{aas bs:List SV}(h:Les aas bs):Le (.bnd f aas) (.bnd f bs):=fun m x hx=>by
 cases hx with
 | bnd _ _ arr hs hr=>
   obtain⟨g1,g2⟩:=h.get
   refine .bnd f bs arr (by omega) fun i c y hc hy=>?_
   have hlt:=(List.getElem?_eq_some_iff.1 hc).1
   have ha:aas[i]?=some aas[i]:=List.getElem?_eq_getElem (by omega)
   exact g2 i _ c ha hc _ _ (hr i _ y ha hy)
theorem ARelB_of{m:M}{ac:Act}(g:ERel m n env ac.tmps){f:Operand}{fid:FuncId}{bs:List SV}{args:Array Operand}{vs:List SV}(hf:env.val f=some (.bnd fid bs))(ha:env.vals args.toList=some vs):
  ∃arr,ac.eval f= .func (.func fid) arr #[]/\ARel m (bs++vs) (arr++args.map ac.eval):=by
 have h:=g.val hf
 generalize hq:ac.eval f=z at h
 cases h with
 | bnd _ _ arr hs hr=>
   obtain⟨g1,g2⟩:=g.vals _ _ ha
   refine⟨arr,rfl,by simp[g1,hs],fun i s x hs' hx=>?_⟩
   by_cases hi:i<bs.length
   ·rw[List.getElem?_append_left hi]at hs'
    rw[Array.getElem?_append_left (by omega)]at hx
    exact hr _ s x hs' hx
   ·rw[List.getElem?_append_right (by omega)]at hs'
    rw[Array.getElem?_append_right (by omega)]at hx
    exact g2 (i-bs.length) s x hs' (by rw[hs]at hx;simpa using hx)
theorem callB_exec{ac:Act}{f:Operand}{fid:FuncId}{arr:Array Value}{args:Array Operand}{ts:Array TypeId}{w:World}{dd:Option Tmp}(hf:ac.eval f= .func (.func fid) arr #[])(hc:Callable P fid):
  (execOp ac.eval ⟨dd,.call { callee:=.value f,args:=args,argTypes:=ts },ty,pos,aft,none⟩).run P w= .ok (.enter fid (arr++args.map ac.eval)) w:=by
 obtain⟨fn,h1,h2,h3⟩:=hc
 have h2':¬fn.name= "runtime.NumGoroutine":=by simpa using h2
 have h3':¬fn.body=none:=by intro e;simp[e]at h3
 simp[execOp,resolve,hf,Deferred.ofValue,invoke,callFunc,h1,h2',h3']
theorem TO.callBnd{cargs:List SV}{v:SV}{f:Operand}{fid:FuncId}{bs:List SV}{args:Array Operand}{ts:Array TypeId}{vs:List SV}(hs:Pure P fid cargs v)(hd:Nat.ble (d+1) n=true)
  (hf:env.val f=some (.bnd fid bs))(ha:env.vals args.toList=some vs)(hl:Les (bs++vs) cargs)(hu:unders 0 cargs=true)(hv:v.under 0=true)
  (k:TO false P n all rest ((d,v)::env) H K):
  TO false P n all (⟨some d,.call { callee:=.value f,args:=args,argTypes:=ts },ty,pos,aft,none⟩::rest) env H K:=by
 intro φ m ac h1 h2 h3 h4
 subst h1
 obtain⟨arr,hq,har⟩:=ARelB_of h3 hf ha
 have hh:=hands_nil m.H
 have lies:=lies_cut h2 hh
 have hl':Les (bs++vs) (rens (names [] m.H.length) cargs):=by rw[unders_ren _ hu];exact hl
 have harc:ARel (cutM m [] []) cargs (arr++args.map ac.eval):=by
  have h5:=har.le hl'
  refine⟨by rw[h5.1,rens_eq];simp,fun i s x hs' hx=>lies.srel_down (h5.2 i _ x (by rw[rens_eq,List.getElem?_map,hs'];rfl) hx) (unders_get hu i s hs')⟩
 have hcall:=hs.2 (cutM m [] []) _ rfl (lies.hrel h2) harc
 refine wpListIn_plain rfl fun K' hK=>?_
 unfold Oper.wpIn
 refine⟨fun _ _=>trivial,?_⟩
 rw[semAt_val (callB_exec hq hs.1) (by intro d e;cases e)]
 simp only[Oper.uponIn]
 refine⟨fun h=>by simp[Fence.wide]at h,calls_fr (Calls.mono hcall ?_)⟩
 rintro e w' ⟨mc',r,rfl,s,hmc,hr,hR,hR2⟩
 subst hR
 obtain⟨st,hb⟩:=back_ok h2 hh s hmc
 have hlc:([]:List Nat).length≤mc'.H.length:=Nat.zero_le _
 cases e with
 | returned x=>
   have hbH:(back m mc' []).H=m.H:=by
    show patch m.H [] (mc'.H.map _)=m.H
    rw[hR2];simp[patch]
   refine hK _ _ (TO.step' (m':=back m mc' []) st (k φ (back m mc' []) _ hbH hb ((h3.step h2 st).put d (Nat.le_of_ble_eq_true hd) ?_) (by simpa [Act.put]using h4.step h2 st)))
   have:=back_srel h2 hh hmc hlc hr
   rw[ren_under (N:=0) (fun j hj=>by omega) v hv]at this
   exact this
 | _=>simp[ResRel]at hr
theorem TO.makeSliceC(hT:TabOk P tab){t e:TypeId}{i ie:TyI}{sz b c:Nat}{x y:Operand}(hd:Nat.ble (d+1) n=true)(ht:tab.get t=some i)(hk:i.k= .slice e)(he:tab.get e=some ie)(hs:ie.size=sz)(hpos:Nat.ble 1 sz=true)
  (hx:env.val x=some (.i (b:Int)))(hy:env.val y=some (.i (c:Int)))(hbc:b≤c)(h2:c≤10000000000)(hby:Nat.ble ie.bytes 4096=true)
  (k:TO false P n all rest ((d,.ms sz H.length 0 b)::env) (H++[.cells (zerosOf ie.zero c)]) K):TO false P n all (⟨some d,.makeSlice t x y,ty,pos,aft,none⟩::rest) env H K:=
 TO.eff hd (fun m ac g1 g2 g3=>by
  have hp':=Nat.le_of_ble_eq_true hpos
  have hb':=Nat.le_of_ble_eq_true hby
  obtain⟨ti,hti,hti1,hti2⟩:=(hT e ie he).info
  obtain⟨z,hz1,hz2,_,_⟩:=(hT e ie he).zero
  have hln:=(hT e ie he).len
  have hzl:z.cells.size=sz:=by
   have:=(zero_rel (A:=m.A) (w:=m.w) _ _ hz2).1
   simp at this;omega
  have hcm:c*ie.bytes≤10000000000*4096:=Nat.mul_le_mul h2 hb'
  have hw:IntKind.i64.wrap (c:Int)=c:=wrap_in (by omega) (by omega)
  have hwb:IntKind.i64.wrap (b:Int)=b:=wrap_in (by omega) (by omega)
  have hbig2:¬((c:Int)<b):=by omega
  have hbig:¬(281474976710656<(ti.bytes:Int)*(c:Int)):=by
   rw[hti2,<-Int.natCast_mul,Nat.mul_comm];omega
  have hneg:¬((c:Int)<0):=by omega
  have hnegb:¬((b:Int)<0):=by omega
  obtain⟨arr,harr⟩:∃arr:Array Value,arr=Builtin.zeroCells z.cells c:=⟨_,rfl⟩
  have hrun:(Instr.makeSlice t (.int .i64 (b:Int)) (.int .i64 (c:Int))).run P m.w= .ok (.slice (some ⟨m.w.heap.size,0,none⟩) b c) (m.w.alloc (.cells arr e)):=by
   by_cases h0:c*sz=0
   ·have hc0:c=0:=by rcases Nat.mul_eq_zero.1 h0 with h|h <;> omega
    subst hc0
    have hb0:b=0:=by omega
    subst hb0
    have ha:arr= #[]:=by rw[harr];simp[Builtin.zeroCells]
    rw[ha]
    have hw0:IntKind.i64.wrap (0:Int)=0:=by decide
    simp[Instr.makeSlice,underlying,(hT t i ht).slice hk,(hT e ie he).sizeOf,asInt,asIntOf,hw0,typeInfo,hti,newRow,askRoom,roomBytes]
    refine congrArg (fun a=>m.w.alloc (Obj.cells a e)) ?_
    simp[Array.range]
   ·have hroom:¬140737488355328<c*ti.bytes:=by rw[hti2];omega
    have hc0:¬c=0:=by rintro rfl;simp at h0
    have hs0:¬sz=0:=by omega
    rw[harr]
    simp[Instr.makeSlice,underlying,(hT t i ht).slice hk,(hT e ie he).sizeOf,hs,asInt,asIntOf,hw,hwb,typeInfo,hti,hbig,hbig2,hneg,hnegb,hz1,newRow,askRoom,roomBytes,hroom,h0,hc0,hs0,Builtin.zeroCells,hzl]
  have hsize:arr.size=c*ie.zero.length:=by
   rw[harr,zeroCells_size,hzl,hln,hs]
  obtain⟨s,hm'⟩:=grow_zeros g2 (ts:=ie.zero) (z:=z.cells) (e:=e) (arr:=arr) (c:=c) (N:=c) hz2 (by omega) (Nat.le_refl _) hsize (fun j hj=>by
   have hzz:z.cells.size=ie.zero.length:=by omega
   rw[harr,<-hzz]
   rw[<-hzz]at hj
   exact zeroCells_get _ _ _ (by omega) hj)
  refine⟨.slice (some ⟨m.w.heap.size,0,none⟩) b c,⟨m.A,m.β++[⟨m.w.heap.size,0,arr.size⟩],m.H++[.cells (zerosOf ie.zero c)],m.w.alloc (.cells arr e)⟩,by simp[execOp,(g3.val hx).v_eq,(g3.val hy).v_eq,hrun],s,hm',by rw[<-g1],?_⟩
  rw[<-g1]
  refine .ms sz m.H.length 0 b c ⟨m.w.heap.size,0,arr.size⟩ (by simp[g2.len]) (by intro q;simp[tlOf]) hbc ?_
  show 0+0+c*sz=arr.size
  rw[hsize,hln,hs];omega) k
theorem TO.makeSlice(hT:TabOk P tab){t e:TypeId}{i ie:TyI}{sz c:Nat}{x:Operand}(hd:Nat.ble (d+1) n=true)(ht:tab.get t=some i)(hk:i.k= .slice e)(he:tab.get e=some ie)(hs:ie.size=sz)(hpos:Nat.ble 1 sz=true)
  (hx:env.val x=some (.i (c:Int)))(h2:c≤10000000000)(hby:Nat.ble ie.bytes 4096=true)
  (k:TO false P n all rest ((d,.ms sz H.length 0 c)::env) (H++[.cells (zerosOf ie.zero c)]) K):TO false P n all (⟨some d,.makeSlice t x x,ty,pos,aft,none⟩::rest) env H K:=
 TO.makeSliceC hT hd ht hk he hs hpos hx hx (Nat.le_refl c) h2 hby k
theorem TO.copy_ms(hT:TabOk P tab){t t' e:TypeId}{i ie:TyI}{sz id off len:Nat}{cs:List SV}{ys:List T}{x y:Operand}{vy:SV}{H':Heap}(hd:Nat.ble (d+1) n=true)(ht:tab.get t=some i)(hk:i.k= .slice e)
  (he:tab.get e=some ie)(hs:ie.size=sz)(hpos:Nat.ble 1 sz=true)(hx:env.val x=some (.ms sz id off len))(hH:H[id]?=some (.cells cs))(hy:env.val y=some vy)(hvy:vy.elems sz=some ys)
  (hlen:ys.length≤len)(hfit:off+ys.length*sz≤cs.length)(hH':H.set id (.cells (splice cs off ((ys.map T.cells).flatten.map .t)))=H')
  (k:TO false P n all rest ((d,.any)::env) H' K):TO false P n all (⟨some d,.call { callee:=.builtin .copy,args:=#[x,y],argTypes:=#[t,t'] },ty,pos,aft,none⟩::rest) env H K:=
 TO.eff hd (fun m ac g1 g2 g3=>by
  have hp':=Nat.le_of_ble_eq_true hpos
  have hy':=(g3.val hy).elems hvy
  obtain⟨ad,cap',hq⟩:=hy'.slice_inv
  rw[hq]at hy'
  obtain⟨g,f0,f1,f2,f3⟩:=firstCells_run (P:=P) hy' (by omega)
  have h:=g3.val hx
  generalize hz:ac.eval x=z at h
  cases h with
  | ms _ _ _ _ cap p hp hn hc hh=>
    have hH1:m.H[id]?=some (.cells cs):=by rw[g1];exact hH
    obtain⟨b1,b2,b3⟩:=g2.blk id p _ hp hH1
    have hmin:min ys.length len=ys.length:=Nat.min_eq_left hlen
    obtain⟨l1,l2⟩:=flat_cells ys (fun e he=>by obtain⟨j,hj⟩:=List.getElem?_of_mem he;exact f2 j e hj)
    have hrun:(Builtin.copy_ #[t,t'] ty #[.slice (some ⟨p.b,p.lo+off,none⟩) len cap,ac.eval y]).run P m.w=
      ((storeCells ⟨p.b,p.lo+off,none⟩ ((List.range (ys.length*sz)).map g)).run P m.w).andThen fun _ w'=>.ok (goInt ys.length) w':=by
     rw[hq]
     simp[Builtin.copy_,underlying,(hT t i ht).slice hk,(hT e ie he).sizeOf,hs,Builtin.lenOf,hmin,f0 m.w rfl]
    by_cases h0:ys.length*sz=0
    ·have hys:ys=[]:=by
      rcases Nat.mul_eq_zero.1 h0 with h|h
      ·exact List.eq_nil_of_length_eq_zero h
      ·omega
     subst hys
     refine⟨goInt 0,m,?_,Step.refl m,g2,?_,.any _⟩
     ·simp[execOp,resolve,invoke,builtin,hz,hrun,storeCells]
     ·obtain⟨hlt,hg⟩:=List.getElem?_eq_some_iff.1 hH
      have h5:splice cs off ((List.map T.cells []).flatten.map .t)=cs:=by simp[splice]
      have h6:=List.set_getElem_self hlt
      rw[hg]at h6
      rw[g1,<-hH',h5]
      exact h6.symm
    ·obtain⟨s,hm'⟩:=upd_cells g2 (off:=off) (vs:=(ys.map T.cells).flatten.map .t) (ys:=(List.range (ys.length*sz)).map g) hp hH1 (by rw[List.length_map,l1];omega) (by rw[List.length_map,l1];omega) (by rw[List.length_map,l1];simp) (fun v hv=>by simp at hv;obtain⟨q,hq,rfl⟩:=hv;exact f1 q hq) (fun j c v hc' hv=>by
      have hj:=(List.getElem?_eq_some_iff.1 hv).1
      simp at hj
      simp[hj]at hv
      subst hv
      rw[List.getElem?_map]at hc'
      obtain⟨d1,d2,d3⟩:=divmod_lt (show 0<sz by omega) hj
      have hyq:ys[j / sz]?=some ys[j / sz]:=List.getElem?_eq_getElem d1
      have hcl:=f2 _ _ hyq
      have hyc:(ys[j / sz]).cells[j % sz]?=some ((ys[j / sz]).cells[j % sz]'(by omega)):=List.getElem?_eq_getElem (by omega)
      have:=l2 _ _ _ _ hyq hyc
      rw[d3]at this
      rw[this]at hc'
      cases hc'
      have hr:=f3 _ _ _ _ hyq hyc
      rw[d3]at hr
      exact .t _ _ hr)
     have hst:=run_storeCells_cells (P:=P) p.b (p.lo+off) ((List.range (ys.length*sz)).map g) 0 m.w (fun q hq=>(b2 _ (by omega) (by simp at hq;omega)).1) (fun q hq=>(b2 _ (by omega) (by simp at hq;omega)).2)
      (fun v hv=>by simp at hv;obtain⟨q,hq,rfl⟩:=hv;exact f1 q hq)
     refine⟨goInt ys.length,_,?_,s,hm',by rw[g1];exact hH',.any _⟩
     rw[hst]at hrun
     simp[execOp,resolve,invoke,builtin,hz,hrun]) k
theorem TO.copy_none(hT:TabOk P tab){t t' e:TypeId}{i ie:TyI}{sz:Nat}{x y:Operand}{vx vy:SV}(hd:Nat.ble (d+1) n=true)(ht:tab.get t=some i)(hk:i.k= .slice e)
  (he:tab.get e=some ie)(hs:ie.size=sz)(hpos:Nat.ble 1 sz=true)(hx:env.val x=some vx)(hvx:vx.elems sz=some [])(hy:env.val y=some vy)(hvy:vy.elems sz=some [])
  (k:TO false P n all rest ((d,.any)::env) H K):TO false P n all (⟨some d,.call { callee:=.builtin .copy,args:=#[x,y],argTypes:=#[t,t'] },ty,pos,aft,none⟩::rest) env H K:=
 TO.eff hd (fun m ac g1 g2 g3=>by
  have hp':=Nat.le_of_ble_eq_true hpos
  have hy':=(g3.val hy).elems hvy
  have hx':=(g3.val hx).elems hvx
  obtain⟨ad,cap',hq⟩:=hy'.slice_inv
  obtain⟨ad2,cap2,hq2⟩:=hx'.slice_inv
  rw[hq]at hy'
  obtain⟨g,f0,f1,f2,f3⟩:=firstCells_run (P:=P) hy' (by omega)
  refine⟨goInt 0,m,?_,Step.refl m,g2,g1,.any _⟩
  have hf:=f0 m.w rfl
  simp only[List.length_nil]at hf hq2
  have hrun:(Builtin.copy_ #[t,t'] ty #[ac.eval x,ac.eval y]).run P m.w= .ok (goInt 0) m.w:=by
   rw[hq,hq2]
   cases ad2 <;> simp[Builtin.copy_,underlying,(hT t i ht).slice hk,(hT e ie he).sizeOf,hs,Builtin.lenOf,hf,storeCells]
  simp[execOp,resolve,invoke,builtin,hrun]) k
theorem TO.slice_msEnd(hT:TabOk P tab){t e:TypeId}{i ie:TyI}{x z:Operand}{sz id off len:Nat}{ik:IntKind}(hd:Nat.ble (d+1) n=true)(ht:tab.get t=some i)(hk:i.k= .slice e)(he:tab.get e=some ie)(hsz:ie.size=sz)
  (hx:env.val x=some (.ms sz id off len))(hz:env.val z=some (.t (.v (.int ik (len:Int)))))
  (k:TO q P n all rest ((d,.t (.sl sz []))::env) H K):TO q P n all (⟨some d,.slice t x (some z) none none,ty,pos,aft,none⟩::rest) env H K:=
 TO.op hd (fun m ac g1 g2 g3=>by
  have h:=g3.val hx
  generalize hq:ac.eval x=v at h
  cases h with
  | ms _ _ _ _ cap p hp hn hc hh=>
    have hrun:=fun w'=>slice_sl_run (P:=P) hT ht hk he (some ⟨p.b,p.lo+off,none⟩) len cap (some (ac.eval z)) none len len w' (.inr ⟨ik,by rw[(g3.val hz).v_eq]⟩) (.inl ⟨rfl,rfl⟩) (Nat.le_refl _) hc
    by_cases hcl:cap=len
    ·refine⟨.slice (some ⟨p.b,p.lo+off,none⟩) 0 0,fun w' hw'=>?_,.t _ _ (.empty sz _)⟩
     have:=hrun w'
     simp only[hcl,Nat.sub_self]at this
     simp[execOp,hq,hcl,this]
    ·refine⟨.slice (some ⟨p.b,p.lo+off+len*sz,none⟩) 0 (cap-len),fun w' hw'=>?_,.t _ _ (.sl sz [] p.b (p.lo+off+len*sz) (cap-len) (fun _=>undef) (Nat.zero_le _) (by simp) (by simp) (by simp) (by simp) (by simp))⟩
     have:=hrun w'
     rw[if_neg (by omega),hsz]at this
     simp only[Option.map_some,addr_add,Nat.add_assoc,Nat.sub_self]at this
     simp[execOp,hq,Nat.add_assoc,this]) k
end rules
end Go.TL
