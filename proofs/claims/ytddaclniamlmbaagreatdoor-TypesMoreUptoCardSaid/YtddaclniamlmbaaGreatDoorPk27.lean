import Derived.Test.YtddaclniamlmbaaGreatDoorPk26
set_option linter.unusedSimpArgs false
set_option linter.unusedVariables false
namespace Go.Proofs.YtddaclniamlmbaaGreatDoor
open Go Go.TL
attribute [local irreducible] TR TO Then InBlock RetK Sound LoopK Kf GG ThenL
theorem ins_len(a:List Str)(s:Str):(ins a s).length≤a.length+1:=by
 unfold ins
 split
 ·omega
 ·simp
theorem len_fold{α:Type}{f:List Str->α->List Str}{g:α->Nat}:∀ {l:List α} {a:List Str},(∀a x,x∈l->(f a x).length≤a.length+g x)->(l.foldl f a).length≤a.length+(l.map g).sum
 | [],a,_=>by simp
 | x::l,a,h=>by
   have h1:=h a x (List.mem_cons_self ..)
   have h2:=len_fold (l:=l) (a:=f a x) fun a y hy=>h a y (List.mem_cons_of_mem _ hy)
   rw[List.foldl_cons,List.map_cons,List.sum_cons]
   omega
theorem w_slM{α:Type}(f:α->T)(sz:Nat)(l:List α):(l.map fun x=>(f x).w).sum≤(T.sl sz (l.map f)).w:=by
 rw[w_sl,List.map_map]
 exact Nat.le_add_left _ _
theorem len_foldW{α:Type}{f:List Str->α->List Str}{g:α->T}(sz:Nat){l:List α}{a:List Str}(h:∀a x,x∈l->(f a x).length≤a.length+(g x).w):(l.foldl f a).length≤a.length+(T.sl sz (l.map g)).w:=by
 have h1:=len_fold (f:=f) (l:=l) (a:=a) (g:=fun x=>(g x).w) h
 have h2:=w_slM g sz l
 omega
theorem sumOneJ{α:Type}(l:List α):(l.map fun _=>1).sum=l.length:=by
 induction l with
 | nil=>rfl
 | cons x l ih=>rw[List.map_cons,List.sum_cons,ih,List.length_cons];omega
theorem len_one(l:List Str)(a:List Str):(l.foldl ins a).length≤a.length+l.length:=by
 have h1:=len_fold (f:=ins) (g:=fun _=>1) (l:=l) (a:=a) fun a x _=>ins_len a x
 rw[sumOneJ]at h1
 exact h1
theorem len_gather(a:List Str)(ds:List Decl):(gatherL a ds).length≤a.length+(declsT ds).w:=len_foldW 3 fun a d _=>by
 have h1:=len_fold (f:=fun(a:List Str) (o:OnC)=>ins a o.name) (g:=fun _=>1) (l:=d.clock) (a:=ins a d.name) fun a x _=>ins_len a x.name
 have h2:=ins_len a d.name
 have h3:=w_lenM onT 3 d.clock
 rw[show declT d= .ag [.s d.name,T.n d.ty,.sl 3 (d.clock.map onT)] from rfl,w_ag]
 simp only[List.map_cons,List.map_nil,List.sum_cons,List.sum_nil,w_s]
 rw[sumOneJ]at h1
 omega
theorem len_expr(a:List Str)(e:Ex):(exprL a e).length≤a.length+(exT e).w:=by
 have h1:=len_fold (f:=oneL) (g:=fun _=>1) (l:=flat e) (a:=a) fun a x _=>by
  unfold oneL
  split
  ·exact ins_len a x.name
  ·omega
 have h2:=flat_len e
 have h3:=wEx_le e
 rw[sumOneJ]at h1
 unfold exprL
 omega
theorem len_states:∀(m:Nat) (a:List Str) (qs:List Equ) (l:List Auto),(statesL m a qs l).length≤a.length+(T.sl 7 (qs.map equT)).w+(T.sl 1 (l.map autoT)).w
 | 0,a,_,_=>by rw[statesL];omega
 | m+1,a,qs,l=>by
   rw[statesL]
   have h1:(lhsL a qs).length≤a.length+(T.sl 7 (qs.map equT)).w:=len_foldW 7 fun a q _=>by
    have h2:=len_one q.left a
    have h3:=w_lenM T.s 1 q.left
    rw[show equT q= .ag (.sl 1 (q.left.map T.s)::exC q.right) from rfl,w_ag,List.map_cons,List.sum_cons]
    omega
   have h4:=len_foldW (f:=fun(a:List Str) (x:Auto)=>x.states.foldl (fun a s=>statesL m (gatherL (ins a s.name) s.locals) s.eqs s.autos) a) (g:=autoT) 1 (l:=l) (a:=lhsL a qs) fun a x _=>by
    have h5:=len_foldW (f:=fun(a:List Str) (s:Sta)=>statesL m (gatherL (ins a s.name) s.locals) s.eqs s.autos) (g:=staT) 6 (l:=x.states) (a:=a) fun a s _=>by
     have h6:=len_states m (gatherL (ins a s.name) s.locals) s.eqs s.autos
     have h7:=len_gather (ins a s.name) s.locals
     have h8:=ins_len a s.name
     rw[staT_eq,w_ag]
     simp only[List.map_cons,List.map_nil,List.sum_cons,List.sum_nil,w_s]
     have e1:(declsT s.locals).w=(T.sl 3 (s.locals.map declT)).w:=rfl
     omega
    have h9:=w_auto x
    omega
   omega
theorem len_exprs:∀(m:Nat) (a:List Str) (qs:List Equ) (l:List Auto),(exprsL m a qs l).length≤a.length+(T.sl 7 (qs.map equT)).w+(T.sl 1 (l.map autoT)).w
 | 0,a,_,_=>by rw[exprsL];omega
 | m+1,a,qs,l=>by
   rw[exprsL]
   have h1:=len_foldW (f:=fun(a:List Str) (q:Equ)=>exprL a q.right) (g:=equT) 7 (l:=qs) (a:=a) fun a q _=>by
    have h2:=len_expr a q.right
    have h3:(exT q.right).w=(T.ag (exC q.right)).w:=by rw[exT_eq]
    rw[w_ag]at h3
    rw[show equT q= .ag (.sl 1 (q.left.map T.s)::exC q.right) from rfl,w_ag,List.map_cons,List.sum_cons]
    have h4:=w_pos (T.sl 1 (q.left.map T.s))
    omega
   have h4:=len_foldW (f:=fun(a:List Str) (x:Auto)=>x.states.foldl (fun a s=>(s.unl++s.unt).foldl (fun a t=>exprL a t.cond) (exprsL m a s.eqs s.autos)) a) (g:=autoT) 1 (l:=l) (a:=qs.foldl (fun a q=>exprL a q.right) a) fun a x _=>by
    have h5:=len_foldW (f:=fun(a:List Str) (s:Sta)=>(s.unl++s.unt).foldl (fun a t=>exprL a t.cond) (exprsL m a s.eqs s.autos)) (g:=staT) 6 (l:=x.states) (a:=a) fun a s _=>by
     have h6:=len_exprs m a s.eqs s.autos
     have ht:∀(l:List Tran) (a:List Str),(l.foldl (fun a t=>exprL a t.cond) a).length≤a.length+(T.sl 8 (l.map tranT)).w:=fun l a=>len_foldW 8 fun a t _=>by
      have h2:=len_expr a t.cond
      have h3:(exT t.cond).w=(T.ag (exC t.cond)).w:=by rw[exT_eq]
      rw[w_ag]at h3
      rw[show tranT t= .ag [T.n t.cond.kind,T.n t.cond.op,T.n t.cond.t,T.n t.cond.v,.s t.cond.name,.sl 6 (t.cond.args.map exT),T.n t.to,.b t.resume] from rfl,w_ag]
      simp only[exC,List.map_cons,List.map_nil,List.sum_cons,List.sum_nil]at h3⊢
      omega
     rw[List.foldl_append]
     have h7:=ht s.unl (exprsL m a s.eqs s.autos)
     have h8:=ht s.unt (s.unl.foldl (fun a t=>exprL a t.cond) (exprsL m a s.eqs s.autos))
     have h9:=w_sta s
     have h10:=w_pos (declsT s.locals)
     omega
    have h9:=w_auto x
    omega
   omega
theorem len_node(m:Nat)(a:List Str)(n:Nod):(nodeL m a n).length≤a.length+2*(nodT n).w:=by
 have h1:=ins_len a n.name
 have h2:=len_gather (ins a n.name) (varsL n)
 have h3:=len_states m (gatherL (ins a n.name) (varsL n)) n.eqs n.autos
 have h4:=len_exprs m (statesL m (gatherL (ins a n.name) (varsL n)) n.eqs n.autos) n.eqs n.autos
 have h5:∀(l:List Ex) (a:List Str),(l.foldl exprL a).length≤a.length+(T.sl 6 (l.map exT)).w:=fun l a=>len_foldW 6 fun a e _=>len_expr a e
 have h6:=h5 n.assume (exprsL m (statesL m (gatherL (ins a n.name) (varsL n)) n.eqs n.autos) n.eqs n.autos)
 have h7:=h5 n.ensure (n.assume.foldl exprL (exprsL m (statesL m (gatherL (ins a n.name) (varsL n)) n.eqs n.autos) n.eqs n.autos))
 have h8:=w_nod n
 have e:∀l:List Decl,(declsT l).w=1+((l.map declT).map T.w).sum:=fun l=>w_sl 3 _
 have h9:(declsT (varsL n)).w+2≤(declsT n.ins).w+(declsT n.outs).w+(declsT n.locals).w:=by
  rw[e,e,e,e]
  simp only[varsL,List.append_nil,List.map_append,List.sum_append]
  omega
 have p1:=w_pos (T.sl 7 (n.eqs.map equT))
 unfold nodeL everyL
 rw[List.foldl_append]
 omega
theorem known_len(m:Nat)(p:Prog):(knownL m p).length≤2*(T.ag (progC p)).w:=by
 have h1:=len_foldW (f:=enumL) (g:=enT) 2 (l:=p.enums) (a:=[]) fun a u _=>by
  have h2:=len_one u.tags (ins a u.name)
  have h3:=ins_len a u.name
  have h4:=w_lenM T.s 1 u.tags
  rw[show enT u= .ag [.s u.name,.sl 1 (u.tags.map T.s)] from rfl,w_ag]
  simp only[List.map_cons,List.map_nil,List.sum_cons,List.sum_nil,w_s]
  unfold enumL
  omega
 have h2:=len_fold (f:=nodeL m) (g:=fun n=>2*(nodT n).w) (l:=p.nodes) (a:=p.enums.foldl enumL []) fun a n _=>len_node m a n
 have h3:(p.nodes.map fun n=>2*(nodT n).w).sum=2*(p.nodes.map fun n=>(nodT n).w).sum:=by
  induction p.nodes with
  | nil=>rfl
  | cons x l ih=>rw[List.map_cons,List.sum_cons,List.map_cons,List.sum_cons,ih];omega
 have h4:=w_slM nodT 8 p.nodes
 rw[w_ag]
 simp only[progC,nodesT,List.map_cons,List.map_nil,List.sum_cons,List.sum_nil]
 rw[List.length_nil]at h1
 unfold knownL
 omega
theorem fresh_sound2(p:Prog)(hw:(T.ag (progC p)).w≤10000000)(base:Str)(hb:base.length≤1000):Pure Tryz.prog 13 [.t (.ag (progC p)),.s base] (.s (freshL (knownL 100000000 p) base)):=fresh_sound p (by omega) base hb (by have:=known_len 100000000 p;omega)
theorem fresh_len(p:Prog)(hw:(T.ag (progC p)).w≤10000000)(c:UInt8):(freshL (knownL 100000000 p) [c]).length≤100:=by
 have h1:=known_len 100000000 p
 obtain⟨_,f2,_⟩:=frs_ok (knownL 100000000 p) [c] 1
 unfold freshL nameN
 have h2:=itoa_len2 (frs (knownL 100000000 p) [c] ((knownL 100000000 p).length+1) 1) (by
  have:(10:Nat) ^ 18=1000000000000000000:=by decide
  omega)
 simp only[List.length_append,List.length_cons,List.length_nil]
 omega
def clmN(n:Nod)(e:Ex):Nod:={ n with assume:=n.assume++[e] }
theorem w_app{α:Type}(f:α->T)(sz:Nat)(l:List α)(x:α):(T.sl sz ((l++[x]).map f)).w=(T.sl sz (l.map f)).w+(f x).w:=by
 rw[w_sl,w_sl]
 simp
 omega
theorem nod_w(n:Nod):(nodT n).w=1+((T.s n.name).w+((declsT n.ins).w+((declsT n.outs).w+((declsT n.locals).w+((T.sl 7 (n.eqs.map equT)).w+((T.sl 1 (n.autos.map autoT)).w+((T.sl 6 (n.assume.map exT)).w+((T.sl 6 (n.ensure.map exT)).w+0)))))))):=by
 rw[show nodT n= .ag (nodC n) from rfl,w_ag];rfl
theorem w_clm(n:Nod)(e:Ex):(nodT (clmN n e)).w=(nodT n).w+(exT e).w:=by
 rw[nod_w,nod_w]
 have:=w_app exT 6 n.assume e
 simp only[clmN]
 omega
theorem w_more(n:Nod)(e:Ex)(d:Decl):(nodT (moreN n e d)).w=(nodT n).w+(exT e).w+(declT d).w:=by
 rw[nod_w,nod_w]
 have h1:=w_app exT 6 n.assume e
 have h2:(declsT (n.locals++[d])).w=(declsT n.locals).w+(declT d).w:=w_app declT 3 n.locals d
 simp only[moreN]
 omega
theorem prog_w(es:List En)(l:List Nod):(T.ag (progC ⟨es,l⟩)).w=1+((T.sl 2 (es.map enT)).w+((T.sl 8 (l.map nodT)).w+0)):=by rw[w_ag];rfl
theorem w_q1(es:List En)(pre:List Nod)(n:Nod)(e:Ex):(T.ag (progC ⟨es,pre++[clmN n e]⟩)).w=(T.ag (progC ⟨es,pre++[n]⟩)).w+(exT e).w:=by
 rw[prog_w,prog_w,w_app,w_app,w_clm];omega
theorem w_q2(es:List En)(pre:List Nod)(n m:Nod)(e:Ex)(d:Decl):(T.ag (progC ⟨es,pre++[moreN n e d,m]⟩)).w=(T.ag (progC ⟨es,pre++[n]⟩)).w+(exT e).w+(declT d).w+(nodT m).w:=by
 rw[show pre++[moreN n e d,m]=(pre++[moreN n e d])++[m] by simp,prog_w,prog_w,w_app,w_app,w_app,w_more];omega
theorem more_same(es:List En)(pre:List Nod)(n m:Nod)(e:Ex)(t:I64)(base:Str)(node:I64)(hn:node.1=pre.length):
  ofT ⟨es,pre++[moreN n e ⟨freshL (knownL 100000000 ⟨es,pre++[clmN n e]⟩) base,t,[]⟩,m]⟩ node e=ofT ⟨es,pre++[n]⟩ node e:=
 ofT_more rfl rfl rfl hn fun x hx hk he=>fresh_not (knownL 100000000 ⟨es,pre++[clmN n e]⟩) base (by
  have he':freshL (knownL 100000000 ⟨es,pre++[clmN n e]⟩) base=x.name:=he
  rw[he']
  exact known_expr (m:=100000000) (p:=⟨es,pre++[clmN n e]⟩) (n:=clmN n e) (e:=e) (x:=x) (by simp) (by simp[clmN]) hx (by unfold keepK;simp only[decide_eq_true_eq];omega) fun a n _=>sub_node 100000000 a n)
theorem splice_end{A B C:List SV}{k:Nat}(hk:A.length=k)(hl:B.length=C.length):splice (A++B) k C=A++C:=by
 subst hk
 unfold splice
 rw[List.take_left,List.drop_eq_nil_of_le (by simp;omega)]
 simp
theorem drop_end{A B:List SV}{k m:Nat}(hk:A.length=k)(hm:B.length=m):((A++B).drop k).take m=B:=by
 subst hk hm
 rw[List.drop_left,List.take_length]
theorem flat_end(pre:List Nod)(n:Nod):(((pre++[n]).map nodT).map T.cells).flatten.map SV.t=(((pre.map nodT).map T.cells).flatten.map SV.t)++(nodC n).map SV.t:=by
 simp
 rfl
end Go.Proofs.YtddaclniamlmbaaGreatDoor
namespace Go.TL
open Go
theorem LeB.ms{H:Heap}{id off len sz:Nat}{cs:List SV}{es:List T}(hH:H[id]?=some (.cells cs))(hcs:∀(j:Nat) c,((es.map T.cells).flatten.map SV.t)[j]?=some c->cs[off+j]?=some c)(hlen:len=es.length)(hsz:∀e∈es,e.cells.length=sz):LeB H (.ms sz id off len) (.t (.sl sz es)):=fun m x hH' hm hx=>by
 subst hlen
 obtain⟨l1,l2⟩:=flat_cells es hsz
 cases hx with
 | ms _ _ _ _ cap p hp hn hc hh=>
   have hH1:m.H[id]?=some (.cells cs):=by rw[hH'];exact hH
   obtain⟨b1,b2,b3⟩:=hm.blk id p _ hp hH1
   have hex:∀j,∃y,j<es.length*sz->m.w.cell? ⟨p.b,p.lo+off+j,none⟩=some y/\y.oneCell'=true/\∀c,((es.map T.cells).flatten)[j]?=some c->TRel m.lent.A m.lent.w c y:=by
    intro j
    by_cases hj:j<es.length*sz
    ·have hc':((es.map T.cells).flatten)[j]?=some (((es.map T.cells).flatten)[j]'(by rw[l1];exact hj)):=List.getElem?_eq_getElem _
     have h1:=hcs j _ (by rw[List.getElem?_map,hc'];rfl)
     obtain⟨y,y1,y0,y2⟩:=b3 (off+j) _ h1
     refine⟨y,fun _=>⟨by rw[<-y1,Nat.add_assoc],y0,fun c2 h2=>?_⟩⟩
     rw[hc']at h2
     cases h2
     cases y2 with
     | t _ _ h=>exact trel_lent h
    ·exact⟨undef,fun h=>absurd h hj⟩
   obtain⟨f,hf⟩:=Classical.axiomOfChoice hex
   have hlt:∀q j,q<es.length->j<sz->q*sz+j<es.length*sz:=fun q j hq hj=>by
    have:=Nat.mul_le_mul_right sz (show q+1≤es.length from hq)
    rw[Nat.succ_mul]at this
    omega
   have hcm:es.length*sz≤cap*sz:=Nat.mul_le_mul_right _ hc
   refine .t _ _ (.sl sz es p.b (p.lo+off) cap f hc (fun j e he=>hsz e (List.mem_of_getElem? he)) (fun q j hq hj=>.inr ⟨id,p,_,hp,hH1,rfl,rfl,by omega,by have:=hlt q j hq hj;omega⟩) (fun q j hq hj=>(hf _ (hlt q j hq hj)).1) (fun q j hq hj=>(hf _ (hlt q j hq hj)).2.1) (fun q e j c he hc'=>?_))
   have hq:=(List.getElem?_eq_some_iff.1 he).1
   have hj:=(List.getElem?_eq_some_iff.1 hc').1
   rw[hsz e (List.mem_of_getElem? he)]at hj
   exact(hf _ (hlt q j hq hj)).2.2 c (l2 q j e c he hc')
theorem LeB.ag{H:Heap}{cs:List SV}{ds:List T}(hl:cs.length=ds.length)(h:∀(i:Nat) c d,cs[i]?=some c->ds[i]?=some d->LeB H c (.t d)):LeB H (.ag cs) (.t (.ag ds)):=fun m x hH hm hx=>by
 cases hx with
 | ag _ arr hs h1 hr=>
   refine .t _ _ (.ag ds arr (by omega) h1 fun i d y hd hy=>?_)
   have hi:=(List.getElem?_eq_some_iff.1 hd).1
   have hc:cs[i]?=some (cs[i]'(by omega)):=List.getElem?_eq_getElem _
   have:=h i _ d hc hd m y hH hm (hr i _ y hc hy)
   cases this with
   | t _ _ h=>exact h
theorem LeB.ag2{H:Heap}{a b:SV}{x y:T}(h1:LeB H a (.t x))(h2:LeB H b (.t y)):LeB H (.ag [a,b]) (.t (.ag [x,y])):=LeB.ag rfl fun i c d hc hd=>by
 rcases i with _|_|i
 ·simp at hc hd;subst hc hd;exact h1
 ·simp at hc hd;subst hc hd;exact h2
 ·simp at hc
section rules
variable {P:Program}{n:Nat}{env:Env}{H:Heap}{K:TK}{tab:Tab}
theorem append_runD(hT:TabOk P tab){m:M}(hm:HRel m){t t' e:TypeId}{i i' ie:TyI}{sz id len:Nat}{cs:List SV}{es ys:List T}{x y:Value}{ty:TypeId}(ht:tab.get t=some i)(hk:i.k= .slice e)(ht':tab.get t'=some i')(hk':i'.k= .slice e)(he:tab.get e=some ie)(hs:ie.size=sz)(hpos:0<sz)
  (hx:SRel m (.ms sz id 0 len) x)(hH:m.H[id]?=some (.cells cs))(hcs:cs=(es.map T.cells).flatten.map .t)(hlen:len=es.length)(hsz:∀e∈es,e.cells.length=sz)(hy:TRel m.A m.w (.sl sz ys) y)(hb:(es.length+ys.length)*ie.bytes≤70368744177664)(hb1:es.length+ys.length≤70368744177664)(hby:ie.bytes≤65536):
  ∃z m',(Builtin.append_ #[t,t'] ty #[x,y]).run P m.w= .ok z m'.w/\Step m m'/\HRel m'/\m'.H=m.H.set id .dead/\SRel m' (.t (.sl sz (es++ys))) z:=by
 subst hlen
 cases hx with
 | ms _ _ _ _ cap p hp hn hc hh=>
 simp only[Nat.add_zero]at hh
 obtain⟨b1,b2,b3⟩:=hm.blk id p _ hp hH
 obtain⟨ad2,cap2,rfl⟩:=hy.slice_inv
 obtain⟨g,hg,g1,g2,g3⟩:=firstCells_run (P:=P) hy hpos
 obtain⟨ti,hti,hti1,hti2⟩:=(hT e ie he).info
 obtain⟨z,hz1,hz2,_,_⟩:=(hT e ie he).zero
 have hzz:=(zero_rel (A:=m.A) (w:=m.w) _ _ hz2)
 have hzl:z.cells.size=sz:=by
  have:=hzz.1
  have h2:=(hT e ie he).len
  simp at this;omega
 have hsy:∀e∈ys,e.cells.length=sz:=fun e he=>by obtain⟨q,hq⟩:=List.getElem?_of_mem he;exact g2 q e hq
 obtain⟨l1,l2⟩:=flat_cells es hsz
 obtain⟨k1,k2⟩:=flat_cells ys hsy
 have hcl:cs.length=es.length*sz:=by rw[hcs,List.length_map,l1]
 have hex:∀j,∃v,j<es.length*sz->m.w.cell? ⟨p.b,p.lo+j,none⟩=some v/\v.oneCell'=true/\∀c,((es.map T.cells).flatten)[j]?=some c->TRel m.A m.w c v:=by
  intro j
  by_cases hj:j<es.length*sz
  ·have hc':((es.map T.cells).flatten)[j]?=some (((es.map T.cells).flatten)[j]'(by rw[l1];exact hj)):=List.getElem?_eq_getElem _
   obtain⟨v,y1,y0,y2⟩:=b3 j _ (by rw[hcs,List.getElem?_map,hc'];rfl)
   refine⟨v,fun _=>⟨y1,y0,fun c2 h2=>?_⟩⟩
   rw[hc']at h2
   cases h2
   cases y2 with
   | t _ _ h=>exact h
  ·exact⟨undef,fun h=>absurd h hj⟩
 obtain⟨f,hf⟩:=Classical.axiomOfChoice hex
 have hfo:∀w':World,w'.heap=m.w.heap->(Builtin.firstCells sz es.length (.slice (some ⟨p.b,p.lo+0,none⟩) es.length cap)).run P w'= .ok ((List.range (es.length*sz)).map f).toArray w':=fun w' hw'=>by
  simp only[Builtin.firstCells]
  exact run_loadCells w' ⟨p.b,p.lo+0,none⟩ (es.length*sz) f fun j hj=>by
   rw[addr_add]
   show w'.cell? _=_
   rw[show w'.cell? ⟨p.b,p.lo+0+j,none⟩=m.w.cell? ⟨p.b,p.lo+j,none⟩ from by simp[World.cell?,hw']]
   exact(hf j hj).1
 let h:Nat->Value:=fun q=>if q<es.length*sz then f q else g (q-es.length*sz)
 have hN:(es++ys).length=es.length+ys.length:=List.length_append
 have hmul:(es.length+ys.length)*sz=es.length*sz+ys.length*sz:=Nat.add_mul _ _ _
 have hlt:∀q j,q<(es++ys).length->j<sz->q*sz+j<(es.length+ys.length)*sz:=fun q j hq hj=>by
  have:=Nat.mul_le_mul_right sz (show q+1≤es.length+ys.length by omega)
  rw[Nat.succ_mul]at this
  omega
 have hone:∀q,q<(es.length+ys.length)*sz->(h q).oneCell'=true:=fun q hq=>by
  by_cases hq1:q<es.length*sz
  ·simp only[h,if_pos hq1];exact(hf q hq1).2.1
  ·simp only[h,if_neg hq1];exact g1 _ (by omega)
 have hrel:∀(q:Nat) e (j:Nat) c,(es++ys)[q]?=some e->e.cells[j]?=some c->TRel m.A m.w c (h (q*sz+j)):=fun q e j c he' hc'=>by
  by_cases hq:q<es.length
  ·rw[List.getElem?_append_left hq]at he'
   have hj:=(List.getElem?_eq_some_iff.1 hc').1
   rw[hsz e (List.mem_of_getElem? he')]at hj
   have h1:q*sz+j<es.length*sz:=by
    have:=Nat.mul_le_mul_right sz (show q+1≤es.length from hq)
    rw[Nat.succ_mul]at this
    omega
   simp only[h,if_pos h1]
   exact(hf _ h1).2.2 c (l2 q j e c he' hc')
  ·rw[List.getElem?_append_right (by omega)]at he'
   have h1:¬q*sz+j<es.length*sz:=by
    have:=Nat.mul_le_mul_right sz (show es.length≤q by omega)
    omega
   have h2:q*sz+j-es.length*sz=(q-es.length)*sz+j:=by
    rw[Nat.sub_mul]
    have:=Nat.mul_le_mul_right sz (show es.length≤q by omega)
    omega
   simp only[h,if_neg h1,h2]
   exact g3 _ _ _ _ he' hc'
 have hszA:∀(q:Nat) e,(es++ys)[q]?=some e->e.cells.length=sz:=fun q e he'=>by
  rcases List.mem_append.1 (List.mem_of_getElem? he')with hq|hq
  ·exact hsz e hq
  ·exact hsy e hq
 by_cases hfit:es.length+ys.length≤cap
 ·have hrun:(Builtin.append_ #[t,t'] ty #[.slice (some ⟨p.b,p.lo+0,none⟩) es.length cap,.slice ad2 ys.length cap2]).run P m.w=
    ((storeCells (Addr.add ⟨p.b,p.lo+0,none⟩ (es.length*sz)) ((List.range (ys.length*sz)).map g)).run P m.w).andThen fun _ w'=>.ok (.slice (some ⟨p.b,p.lo+0,none⟩) (es.length+ys.length) cap) w':=by
   simp[Builtin.append_,underlying,(hT t i ht).slice hk,(hT t' i' ht').slice hk',(hT e ie he).sizeOf,hs,Builtin.lenOf,hfit,hg m.w rfl]
  have hcm:(es.length+ys.length)*sz≤cap*sz:=Nat.mul_le_mul_right _ hfit
  have hst:=run_storeCells_cells (P:=P) p.b (p.lo+es.length*sz) ((List.range (ys.length*sz)).map g) 0 m.w (fun q hq=>(b2 _ (by omega) (by simp at hq;omega)).1) (fun q hq=>(b2 _ (by omega) (by simp at hq;omega)).2)
   (fun v hv=>by simp at hv;obtain⟨q,hq,rfl⟩:=hv;exact g1 q hq)
  obtain⟨e1,e2,e3,e4,e5,e6⟩:=setCells_rest p.b ((List.range (ys.length*sz)).map g) (p.lo+es.length*sz) m.w
  have hout:∀b o,¬(b=p.b/\p.lo+es.length*sz≤o/\o<p.lo+es.length*sz+ys.length*sz)->(m.w.setCells p.b (p.lo+es.length*sz) ((List.range (ys.length*sz)).map g)).cell? ⟨b,o,none⟩=m.w.cell? ⟨b,o,none⟩:=by
   intro b o hn
   exact World.cell?_setCells_out _ _ _ _ _ fun q1 _=>by simp only[List.length_map,List.length_range]at *;omega
  have hin:∀q,q<ys.length*sz->(m.w.setCells p.b (p.lo+es.length*sz) ((List.range (ys.length*sz)).map g)).cell? ⟨p.b,p.lo+es.length*sz+q,none⟩=some (g q):=by
   intro q hq
   have:=World.cell?_setCells_in p.b ((List.range (ys.length*sz)).map g) (p.lo+es.length*sz) m.w (fun j hj=>(b2 _ (by omega) (by simp at hj;omega)).1) q (by simpa using hq)
   simpa using this
  obtain⟨s,hm'⟩:=mv_step hm (k1:=.dead) (p':=p) (A':=fun b o=>m.A b o\/(b=p.b/\p.lo≤o/\o<p.lo+(es.length+ys.length)*sz)) (w':=m.w.setCells p.b (p.lo+es.length*sz) ((List.range (ys.length*sz)).map g)) hp hH rfl e1 e2 e3 (by rw[e4];exact Nat.le_refl _)
   (fun b o _ hn=>hout b o (by omega)) (fun b o _ _ _=>World.frozen?_setCells _ _ _ _ _)
   (fun b _ hb=>by
     rcases hb with hb|hb
     ·exact e5 b hb
     ·have:ys.length*sz=0:=by omega
      rw[this];rfl)
   (fun b o _ h=>by
     by_cases hb:b=p.b
     ·subst hb;rw[e6];exact h
     ·rw[hout b o (by omega)];exact h)
   (fun b s hs=>by rw[setCells_shape];exact hs) (fun _ _ h=>.inl h) (fun b o h=>by
     rcases h with h|h
     ·exact .inl h
     ·exact .inr (.inl (by omega))) (fun h=>by cases h) (fun h=>by cases h) (fun o q1 q2=>(b2 o q1 q2).1) ⟨rfl,fun n'=>by simp[tlOf]⟩ (fun _=>trivial)
  have hcell:∀q,q<(es.length+ys.length)*sz->(m.w.setCells p.b (p.lo+es.length*sz) ((List.range (ys.length*sz)).map g)).cell? ⟨p.b,p.lo+0+q,none⟩=some (h q):=fun q hq=>by
   by_cases hq1:q<es.length*sz
   ·simp only[h,if_pos hq1]
    rw[hout _ _ (by omega)]
    exact(hf q hq1).1
   ·simp only[h,if_neg hq1]
    have:=hin (q-es.length*sz) (by omega)
    rw[show p.lo+es.length*sz+(q-es.length*sz)=p.lo+0+q by omega]at this
    exact this
  refine⟨.slice (some ⟨p.b,p.lo+0,none⟩) (es.length+ys.length) cap,_,?_,s,hm',rfl,?_⟩
  ·rw[hrun,addr_add,show p.lo+0+es.length*sz=p.lo+es.length*sz by omega,hst];rfl
  ·have:=TRel.sl (A:=fun b o=>m.A b o\/(b=p.b/\p.lo≤o/\o<p.lo+(es.length+ys.length)*sz)) (w:=m.w.setCells p.b (p.lo+es.length*sz) ((List.range (ys.length*sz)).map g)) sz (es++ys) p.b (p.lo+0) cap h (by rw[hN];exact hfit) hszA (fun q j hq hj=>.inr ⟨rfl,by omega,by have:=hlt q j hq hj;omega⟩) (fun q j hq hj=>hcell _ (hlt q j hq hj)) (fun q j hq hj=>hone _ (hlt q j hq hj)) (fun q e j c he' hc'=>s.trel hm (hrel q e j c he' hc'))
   rw[hN]at this
   exact .t _ _ this
 ·have hbound:¬Builtin.nextslicecap (es.length+ys.length) cap*ti.bytes > 2 ^ 48:=by
   have h1:=nextslicecap_le (es.length+ys.length) cap (by omega)
   have h2:Builtin.nextslicecap (es.length+ys.length) cap≤2*(es.length+ys.length)+512:=by omega
   have h3:=Nat.mul_le_mul_right ti.bytes h2
   rw[Nat.add_mul,Nat.mul_assoc,hti2]at h3
   rw[hti2];omega
  have hmax:¬((((es.length+ys.length:Nat)):Int) > IntKind.i64.max/\(False\/ti.bytes=0)):=by
   intro h
   have:(IntKind.i64.max:Int)=9223372036854775807:=by decide
   omega
  obtain⟨nc,hnc⟩:∃nc,nc=(Question.appendCap (es.length+ys.length) cap e).cut (m.w.tape m.w.drawn (.appendCap (es.length+ys.length) cap e)):=⟨_,rfl⟩
  have hnc2:es.length+ys.length≤nc:=by rw[hnc];simp[Question.cut]
  obtain⟨zr,hzr⟩:∃zr,zr=Builtin.zeroCells z.cells (nc-(es.length+ys.length)):=⟨_,rfl⟩
  have hzrl:zr.size=(nc-(es.length+ys.length))*sz:=by rw[hzr];simp[Builtin.zeroCells,hzl]
  obtain⟨ca,hca⟩:∃ca:Array Value,ca=((List.range (es.length*sz)).map f).toArray++((List.range (ys.length*sz)).map g).toArray++zr:=⟨_,rfl⟩
  have hrun:(Builtin.append_ #[t,t'] ty #[.slice (some ⟨p.b,p.lo+0,none⟩) es.length cap,.slice ad2 ys.length cap2]).run P m.w=
    .ok (.slice (some ⟨m.w.heap.size,0,none⟩) (es.length+ys.length) nc) (({ m.w with drawn:=m.w.drawn+1 }:World).alloc (.cells ca e)):=by
   have hfor:(Question.appendCap (es.length+ys.length) cap e).forced=false:=rfl
   have hadd:(Builtin.append_ #[t,t'] ty #[.slice (some ⟨p.b,p.lo+0,none⟩) es.length cap,.slice ad2 ys.length cap2]).run P m.w=(((do
     let old <-Builtin.firstCells sz es.length (.slice (some ⟨p.b,p.lo+0,none⟩) es.length cap)
     let new <-Builtin.firstCells sz ys.length (.slice ad2 ys.length cap2)
     pure (.slice (some (<-newRow e (old++new++zr))) (es.length+ys.length) nc)):Sem Value).run P { m.w with drawn:=m.w.drawn+1 }):=by
    simp only[Builtin.append_]
    simp[underlying,(hT t i ht).slice hk,(hT t' i' ht').slice hk',(hT e ie he).sizeOf,hs,Builtin.lenOf,hfit,typeInfo,hti,hbound,hmax,hfor,<-hnc,hz1,<-hzr]
    intro h;exfalso;omega
   rw[hadd]
   have hfo2:=hfo m.w.drew rfl
   simp only[Nat.add_zero]at hfo2
   simp[hfo2,hg m.w.drew rfl,newRow]
   rw[hca,Array.append_assoc]
  have hcsl:ca.size=nc*sz:=by
   have h1:(es.length+ys.length)*sz+(nc-(es.length+ys.length))*sz=nc*sz:=by rw[<-Nat.add_mul];congr 1;omega
   rw[hca];simp[hzrl];omega
  have hcm:(es.length+ys.length)*sz≤nc*sz:=Nat.mul_le_mul_right _ hnc2
  have hkeep:∀b,b<m.w.heap.size->(m.w.drew.alloc (.cells ca e)).heap[b]?=m.w.heap[b]? :=fun b hb=>RowKit.Below.heap_alloc m.w.drew _ _ hb
  have hsize:(m.w.drew.alloc (.cells ca e)).heap.size=m.w.heap.size+1:=by simp
  have hcg:∀q,q<(es.length+ys.length)*sz->ca[q]?=some (h q):=fun q hq=>by
   have hq':q<es.length*sz+ys.length*sz:=by rw[<-hmul];exact hq
   rw[hca,Array.getElem?_append_left (by simpa using hq')]
   by_cases hq1:q<es.length*sz
   ·simp only[h,if_pos hq1]
    rw[Array.getElem?_append_left (by simpa using hq1)];simp[hq1]
   ·simp only[h,if_neg hq1]
    have hq2:q-es.length*sz<ys.length*sz:=by omega
    rw[Array.getElem?_append_right (by simpa using Nat.le_of_not_lt hq1)]
    simp[hq2]
  have hcell:∀q,q<(es.length+ys.length)*sz->(m.w.drew.alloc (.cells ca e)).cell? ⟨m.w.heap.size,0+q,none⟩=some (h q):=fun q hq=>by
   rw[Nat.zero_add,<-hcg q hq]
   exact World.cell?_alloc_new (w:=m.w.drew) ..
  obtain⟨s,hm'⟩:=mv_step hm (k1:=.dead) (p':=p) (A':=fun b o=>m.A b o\/(b=m.w.heap.size)) (w':=m.w.drew.alloc (.cells ca e)) hp hH rfl rfl rfl rfl (by rw[hsize];omega)
   (fun b o hb _=>cell_of_block (hkeep b hb)) (fun b o hb _ _=>frozen_of_block (hkeep b hb)) (fun b hb _=>hkeep b hb) (fun b o hb h=>by rw[cell_of_block (hkeep b hb)];exact h) (fun b s hs=>by rw[shape_of_block (hkeep b (shape_lt hs))];exact hs) (fun _ _ h=>.inl h)
   (fun b o h=>by
     rcases h with h|h
     ·exact .inl h
     ·exact .inr (.inr ⟨by rw[h];exact Nat.le_refl _,by rw[hsize,h];exact Nat.lt_succ_self _⟩)) (fun h=>by cases h) (fun h=>by cases h) (fun o q1 q2=>(b2 o q1 q2).1) ⟨rfl,fun n'=>by simp[tlOf]⟩ (fun _=>trivial)
  refine⟨.slice (some ⟨m.w.heap.size,0,none⟩) (es.length+ys.length) nc,_,hrun,s,hm',rfl,?_⟩
  have:=TRel.sl (A:=fun b o=>m.A b o\/(b=m.w.heap.size)) (w:=m.w.drew.alloc (.cells ca e)) sz (es++ys) m.w.heap.size 0 nc h (by rw[hN];exact hnc2) hszA (fun q j hq hj=>.inr rfl) (fun q j hq hj=>hcell _ (hlt q j hq hj)) (fun q j hq hj=>hone _ (hlt q j hq hj)) (fun q e j c he' hc'=>s.trel hm (hrel q e j c he' hc'))
  rw[hN]at this
  exact .t _ _ this
variable {all:Array Oper}{rest:List Oper}{d:Nat}{ty:TypeId}{pos:String}{aft:Array Edge}
theorem TO.append_msD(hT:TabOk P tab){t t' e:TypeId}{i i' ie:TyI}{sz id len:Nat}{cs:List SV}{es ys:List T}{x y:Operand}{vy:SV}{H':Heap}(hd:Nat.ble (d+1) n=true)(ht:tab.get t=some i)(hk:i.k= .slice e)(ht':tab.get t'=some i')(hk':i'.k= .slice e)
  (he:tab.get e=some ie)(hs:ie.size=sz)(hpos:Nat.ble 1 sz=true)(hx:env.val x=some (.ms sz id 0 len))(hH:H[id]?=some (.cells cs))(hcs:cs=(es.map T.cells).flatten.map .t)(hlen:len=es.length)(hsz:∀e∈es,e.cells.length=sz)(hy:env.val y=some vy)(hvy:vy.elems sz=some ys)
  (hby:Nat.ble ie.bytes 4096=true)(hb1:es.length+ys.length≤10000000000)(hH':H.set id .dead=H')
  (k:TO false P n all rest ((d,.t (.sl sz (es++ys)))::env) H' K):TO false P n all (⟨some d,.call { callee:=.builtin .append,args:=#[x,y],argTypes:=#[t,t'] },ty,pos,aft,none⟩::rest) env H K:=
 TO.eff hd (fun m ac h1 h2 h3=>by
  have h4:=Nat.le_of_ble_eq_true hby
  have h5:(es.length+ys.length)*ie.bytes≤10000000000*4096:=Nat.mul_le_mul hb1 h4
  obtain⟨z,m',r1,s,hm',hHm,hr⟩:=append_runD (P:=P) hT h2 (ty:=ty) ht hk ht' hk' he hs (Nat.le_of_ble_eq_true hpos) (h3.val hx) (by rw[h1];exact hH) hcs hlen hsz ((h3.val hy).elems hvy) (by omega) (by omega) (by omega)
  exact⟨z,m',by simp[execOp,resolve,invoke,builtin,r1],s,hm',by rw[hHm,h1];exact hH',hr⟩) k
end rules
end Go.TL
