import Derived.Test.YtpnnpgbaiobbjaaGreatDoorPz
import Derived.Lib.Builder
import Derived.Lib.UnsafeStr
import Derived.Stop.Walk2
import Derived.Test.YtpnnpgbaiobbjaaGreatDoorPk5
set_option linter.unusedSimpArgs false
set_option linter.unusedVariables false
namespace Go.TL
open Go
theorem zhD{m:M}(hm:HRel m){id:Nat}{k0 k1:Blk}{p p':Place}{A':Foot}{w':World}(hp:m.β[id]?=some p)(hH:m.H[id]?=some k0)(hlive:k0.live=true)(hos:w'.os=m.w.os)(htp:w'.tape=m.w.tape)(hou:w'.output=m.w.output)
  (hsz:m.w.heap.size≤w'.heap.size)(hcell:∀b o,b<m.w.heap.size->¬(b=p.b/\p.lo≤o/\o<p.hi)->w'.cell? ⟨b,o,none⟩=m.w.cell? ⟨b,o,none⟩)(hfr:∀b o,b<m.w.heap.size->¬(b=p.b/\p.lo≤o/\o<p.hi)->(m.w.cell? ⟨b,o,none⟩).isSome=true->w'.frozen? ⟨b,o,none⟩=m.w.frozen? ⟨b,o,none⟩)
  (hblk:∀b,b<m.w.heap.size->(b≠p.b\/p.hi≤p.lo)->w'.heap[b]?=m.w.heap[b]?)(hsm:∀b o,b<m.w.heap.size->(m.w.cell? ⟨b,o,none⟩).isSome=true->(w'.cell? ⟨b,o,none⟩).isSome=true)(hshp:∀b s,m.w.shape? b=some s->w'.shape? b=some s)
  (hA:∀b o,m.A b o->A' b o)(hA':∀b o,A' b o->m.A b o\/(b=p.b/\p.lo≤o/\o<p.hi)\/(m.w.heap.size≤b/\b<w'.heap.size))
  (hp':k1.live=true->(p'.b=p.b/\p.lo≤p'.lo/\p'.hi≤p.hi)\/(m.w.heap.size≤p'.b/\p'.b<w'.heap.size)\/p'.hi≤p'.lo)(hdis:k1.live=true->∀b o,A' b o->¬m.A b o->¬(b=p'.b/\p'.lo≤o/\o<p'.hi))
  (hthere:∀o,p.lo≤o->o<p.hi->(m.w.cell? ⟨p.b,o,none⟩).isSome=true)(hid':zaU (some k0) (some k1) p p')
  (hnew:Step m ⟨A',m.β.set id p',m.H.set id k1,w'⟩->zi3 ⟨A',m.β.set id p',m.H.set id k1,w'⟩ p' k1):
  Step m ⟨A',m.β.set id p',m.H.set id k1,w'⟩/\HRel ⟨A',m.β.set id p',m.H.set id k1,w'⟩:=by
 have hid:=(qab.1 hH).1
 have hidβ:=(qab.1 hp).1
 have pick:∀(i:Nat) q k,(m.β.set id p')[i]?=some q->(m.H.set id k1)[i]?=some k->(i=id/\q=p'/\k=k1)\/(i≠id/\m.β[i]?=some q/\m.H[i]?=some k):=by
  exact zwbe
 have ownp:∀o,p.lo≤o->o<p.hi->Own m p.b o:=fun o h1 h2=>⟨id,p,_,hp,hH,hlive,rfl,h1,h2⟩
 have hpin:p.lo<p.hi->p.b<m.w.heap.size:=fun h=>hm.inO id p _ hp hH hlive h
 have s:Step m ⟨A',m.β.set id p',m.H.set id k1,w'⟩:=by
  refine⟨hos,htp,hou,hsz,hA,fun b o h=>?_,fun b o h=>?_,fun b o hb hno=>hcell b o hb fun h=>hno (by rw[h.1];exact ownp o h.2.1 h.2.2),fun b o hb hno hc=>hfr b o hb (fun h=>hno (by rw[h.1];exact ownp o h.2.1 h.2.2)) hc,fun b hb hno=>hblk b hb ?_,hshp,fun b L hL=>⟨L,(hblk b (qaj.1 hL).1 ?_).trans hL⟩,fun b o hb h=>hsm b o hb h,fun i q hq=>?_⟩
  ·exact zwdc
  ·obtain⟨i,q,k,h1,h2,h3,h4,h5,h6⟩:=h
   rcases pick i q k h1 h2 with ⟨rfl,rfl,rfl⟩|⟨_,g1,g2⟩
   ·rcases hp' h3 with g|g|g
    ·exact zwfw
    ·exact .inr (by rw[<-h4];exact g.1)
    ·omega
   ·exact .inl ⟨i,q,k,g1,g2,h3,h4,h5,h6⟩
  ·exact zwcj
  ·by_cases hb':b=p.b
   ·by_cases hl:p.lo<p.hi
    ·exfalso
     have:=hthere p.lo (qae _) hl
     rw[<-hb']at this
     simp[World.cell?,hL]at this
    ·exact .inr (by omega)
   ·exact .inl hb'
  ·by_cases hi:i=id
   ·subst hi
    have:q=p:=by rw[hp]at hq;cases hq;rfl
    subst this
    refine⟨p',by show(m.β.set i p')[i]?=_;rw[qau hidβ],?_⟩
    show zaU m.H[i]? (m.H.set i k1)[i]? q p'
    rw[qau hid,hH]
    exact hid'
   ·refine⟨q,by show(m.β.set id p')[i]?=_;rw[qaz (by omega)];exact hq,zbO ?_⟩
    show(m.H.set id k1)[i]?=m.H[i]?
    rw[qaz (by omega)]
 refine⟨s,by simpa using hm.len,fun i q k h1 h2=>?_,fun i j q r k l hij h1 h2 h3 h4 hk hl=>?_,fun b o h=>?_,fun b o h=>?_,fun i q k h1 h2 hk hq=>?_,s.glob hm⟩
 ·rcases pick i q k h1 h2 with ⟨rfl,rfl,rfl⟩|⟨hi,g1,g2⟩
  ·exact hnew s
  ·cases hlv:k.live with
   | false=>cases k <;> simp[Blk.live]at hlv;trivial
   | true=>
     have hb:=hm.blk i q k g1 g2
     have hap:=hm.apart i id q p k _ hi g1 g2 hp hH hlv hlive
     refine hb.step hm s (fun o ho ho'=>?_) (fun e=>?_)
     ·have hqs:=hm.inO i q k g1 g2 hlv (by omega)
      have hne:¬(q.b=p.b/\p.lo≤o/\o<p.hi):=fun h=>by have:=hap h.1;omega
      exact⟨hcell _ _ hqs hne,fun hc=>hfr _ _ hqs hne hc⟩
     ·obtain⟨e1,e2,e3⟩:=hb.zcF e
      have hqs:=hm.inO i q _ g1 g2 hlv (by omega)
      refine hblk _ hqs ?_
      by_cases hqb:q.b=p.b
      ·by_cases hl:p.lo<p.hi
       ·have:=hthere p.lo (qae _) hl
        rw[<-hqb,e3]at this
        cases this
       ·exact .inr (by omega)
      ·exact .inl hqb
 ·have inP:∀(i:Nat) r l,k1.live=true->i≠id->m.β[i]?=some r->m.H[i]?=some l->l.live=true->p'.apart r:=by
   intro i r l hl1 hi h1 h2 hl e
   by_cases hlt:r.lo<r.hi
   ·have hrs:=hm.inO i r l h1 h2 hl hlt
    rcases hp' hl1 with g|g|g
    ·have:=hm.apart i id r p l _ hi h1 h2 hp hH hl hlive (by rw[<-e,g.1])
     omega
    ·omega
    ·omega
   ·omega
  rcases pick i q k h1 h2 with ⟨rfl,rfl,rfl⟩|⟨hi,g1,g2⟩ <;> rcases pick j r l h3 h4 with ⟨rfl,rfl,rfl⟩|⟨hj,g3,g4⟩
  ·exact absurd rfl hij
  ·exact inP j r l hk hj g3 g4 hl
  ·intro e;have:=inP i q k hl hi g1 g2 hk e.symm;omega
  ·exact hm.apart i j q r k l hij g1 g2 g3 g4 hk hl
 ·rintro⟨i,q,k,h1,h2,h3,h4,h5,h6⟩
  rcases pick i q k h1 h2 with ⟨rfl,rfl,rfl⟩|⟨hi,g1,g2⟩
  ·by_cases ha:m.A b o
   ·rcases hp' h3 with g|g|g
    ·exact zwfd
    ·have:=hm.inA b o ha;omega
    ·omega
   ·exact hdis h3 b o h ha ⟨h4.symm,h5,h6⟩
  ·rcases hA' b o h with h|h|h
   ·exact hm.still b o h ⟨i,q,k,g1,g2,h3,h4,h5,h6⟩
   ·have:=hm.apart i id q p k _ hi g1 g2 hp hH h3 hlive (by rw[h4,h.1])
    omega
   ·have:=hm.inO i q k g1 g2 h3 (by omega);omega
 ·exact zwcu
 ·rcases pick i q k h1 h2 with ⟨rfl,rfl,rfl⟩|⟨hi,g1,g2⟩
  ·rcases hp' hk with g|g|g
   ·rw[g.1];exact qaW (hpin (by omega)) hsz
   ·exact g.2
   ·omega
  ·exact qaW (hm.inO i q k g1 g2 hk hq) hsz
set_option maxHeartbeats 1000000 in
theorem zil {P:Program} {tab:Tab} (hT:zau P tab) {m:M} (hm:HRel m) {t t' e:TypeId} {i ie:TyI} {id len:Nat} {cs ns:List T} {x y:Value} {vs:List Value} {ty:TypeId} (ht:tab.get t=some i) (hk:i.k= .slice e) (he:tab.get e=some ie) (hs:ie.size=1)
  (hx:SRel m (.rw id len) x) (hH:m.H[id]?=some (.row e cs)) (hlen:len=cs.length) (hvl:vs.length=ns.length) (hu:P.underlying t'=some .string\/∃e',P.underlying t'=some (.slice e')) (hlo:∀w,(Builtin.lenOf y).run P w= .ok vs.length w)
  (hfc:∀w':World,w'.heap=m.w.heap->(Builtin.firstCells 1 vs.length y).run P w'= .ok vs.toArray w') (h1:∀v∈vs,v.oneCell'=true) (hr:∀(i:Nat) c v,ns[i]?=some c->vs[i]?=some v->TRel m.A m.w c v)
  (hb:(cs.length+vs.length)*ie.bytes≤70368744177664) (hb1:cs.length+vs.length≤70368744177664) (hby:ie.bytes≤65536):
  ∃z m',(Builtin.append_ #[t,t'] ty #[x,y]).run P m.w= .ok z m'.w/\Step m m'/\HRel m'/\m'.H=m.H.set id (.row e (cs++ns))/\SRel m' (.rw id (cs++ns).length) z:=by
 subst hlen
 cases hx with
 | rw _ _ _ p hp hx ho=>
 obtain⟨_,ho2⟩:=ho _ (by rw[hH];rfl)
 obtain⟨ad,cap,rfl,hlc,hlo0,hhi,hown⟩:=ho2 rfl
 obtain⟨⟨b1,b2,b3⟩,b4,b5⟩:=hm.blk id p _ hp hH
 obtain⟨ti,hti,hti1,hti2⟩:=(hT e ie he).info
 obtain⟨z,hz1,hz2,_,_⟩:=(hT e ie he).zero
 have hzl:z.cells.size=1:=by
  exact zweh
 have hidβ:=(qab.1 hp).1
 have hidH:=(qab.1 hH).1
 have hset:(m.H.set id (.row e (cs++ns)))[id]?=some (.row e (cs++ns)):=qau hidH
 have hex:∀j,∃y,j<cs.length->m.w.cell? ⟨p.b,j,none⟩=some y/\y.oneCell'=true/\∀c,cs[j]?=some c->TRel m.A m.w c y:=by
  intro j
  by_cases hj:j<cs.length
  ·obtain⟨y,hy1,hy0,hy2⟩:=b5 j cs[j] (qac hj)
   rw[b1,qaN]at hy1
   exact⟨y,fun _=>⟨hy1,hy0,fun c hc=>by rw[qac hj]at hc;cases hc;exact hy2⟩⟩
  ·exact⟨undef,fun h=>absurd h hj⟩
 obtain⟨f,hf⟩:=qbn hex
 by_cases hfit:cs.length+vs.length≤cap
 ·have hrun:(Builtin.append_ #[t,t'] ty #[.slice ad cs.length cap,y]).run P m.w=
    (match ad with
      | none=>.ok (.slice none (cs.length+vs.length) cap) m.w
      | some a=>((storeCells (a.add (cs.length*1)) vs).run P m.w).andThen fun _ w'=>.ok (.slice (some a) (cs.length+vs.length) cap) w'):=by
   simp only[Builtin.append_]
   rcases hu with hdd|⟨e',hdd⟩ <;> (simp[underlying,hdd,(hT t i ht).slice hk,(hT e ie he).sizeOf,hs,hlo,hfit,hfc m.w rfl];cases ad <;> simp)
  cases ad with
  | none=>
    subst hown
    have hcs:cs=[]:=qaL (by omega)
    have hvs:vs=[]:=qaL (by omega)
    have hns:ns=[]:=qaL (by rw[<-hvl,hvs];rfl)
    subst hcs;subst hvs;subst hns
    obtain⟨s,hm'⟩:=zhD hm (k1:=.row e ([]++[])) (p':=p) (A':=m.A) (w':=m.w) hp hH rfl rfl rfl rfl (qae _) (fun _ _ _ _=>rfl) (fun _ _ _ _ _=>rfl) (fun _ _ _=>rfl) (fun _ _ _ h=>h) (fun _ _ h=>h) (fun _ _ h=>h) (fun _ _ h=>.inl h)
     (fun _=>.inr (.inr (by omega))) (fun _ _ _ h h'=>absurd h h') (fun o q1 q2=>by omega) (zaU.refl _ _) (fun _=>⟨⟨b1,by simp,fun h=>by omega⟩,fun o _ h=>by omega,by simp⟩)
    refine⟨_,⟨m.A,m.β.set id p,m.H.set id (.row e ([]++[])),m.w⟩,hrun,s,hm',rfl,.rw _ _ _ p (by show(m.β.set id p)[id]?=_;rw[qau hidβ]) ⟨_,_,_,rfl⟩ fun k hk=>?_⟩
    have hk':tlOf (m.H.set id (.row e ([]++[])))[id]?=some k:=hk
    rw[qau hidH]at hk'
    cases hk'
    exact⟨qae _,fun _=>⟨none,0,rfl,qae _,hlo0,hhi,rfl⟩⟩
  | some a=>
    simp only at hown
    obtain⟨rfl,hcap0⟩:=hown
    have hst:=run_storeCells_cells (P:=P) p.b (0+cs.length*1) vs 0 m.w (fun q hq=>(b4 _ (by omega) (by omega)).1) (fun q hq=>(b4 _ (by omega) (by omega)).2) h1
    obtain⟨e1,e2,e3,e4,e5,e6⟩:=zbE p.b vs (0+cs.length*1) m.w
    have hout:∀b o,¬(b=p.b/\cs.length≤o/\o<cs.length+vs.length)->(m.w.setCells p.b (0+cs.length*1) vs).cell? ⟨b,o,none⟩=m.w.cell? ⟨b,o,none⟩:=by
     intro b o hn
     exact World.cell?_setCells_out _ _ _ _ _ fun q1 _=>by simp only at *;omega
    have hin:∀q (hq:q<vs.length),(m.w.setCells p.b (0+cs.length*1) vs).cell? ⟨p.b,cs.length+q,none⟩=some vs[q]:=by
     intro q hq
     have:=World.cell?_setCells_in p.b vs (0+cs.length*1) m.w (fun j hj=>(b4 _ (by omega) (by omega)).1) q hq
     simpa using this
    obtain⟨s,hm'⟩:=zhD hm (k1:=.row e (cs++ns)) (p':=p) (A':=m.A) (w':=m.w.setCells p.b (0+cs.length*1) vs) hp hH rfl e1 e2 e3 (by rw[e4];exact qae _) (fun b o _ hn=>hout b o (by omega)) (fun b o _ _ _=>World.frozen?_setCells _ _ _ _ _)
     (fun b _ hb=>by
       rcases hb with hb|hb
       ·exact e5 b hb
       ·have:vs=[]:=qaL (by omega)
        rw[this];rfl)
     (fun b o _ h=>by
       by_cases hb:b=p.b
       ·subst hb;rw[e6];exact h
       ·rw[hout b o (by omega)];exact h)
     (fun b s hs=>by rw[zcf];exact hs) (fun _ _ h=>h) (fun _ _ h=>.inl h) (fun _=>.inl ⟨rfl,qae _,qae _⟩) (fun _ _ _ h h'=>absurd h h') (fun o q1 q2=>(b4 o q1 q2).1)
     (fun n' hn'=>by
       simp only[tlOf,qaB]at hn'
       subst hn'
       exact⟨by simp,fun _=>rfl⟩)
     (fun s=>⟨⟨b1,by simp;omega,fun h=>s.shape _ _ (b3 h)⟩,fun o q1 q2=>by
       have:=b4 o q1 q2
       unfold Free at this⊢
       refine⟨?_,?_⟩
       ·show((m.w.setCells p.b (0+cs.length*1) vs).cell? ⟨p.b,o,none⟩).isSome=true
        rw[e6];exact this.1
       ·show(m.w.setCells p.b (0+cs.length*1) vs).frozen? ⟨p.b,o,none⟩=false
        rw[World.frozen?_setCells];exact this.2,fun j c hc=>by
       rw[b1,qaN (j)]
       show ∃y,(m.w.setCells p.b (0+cs.length*1) vs).cell? ⟨p.b,j,none⟩=some y/\_
       by_cases hj:j<cs.length
       ·rw[qao hj]at hc
        exact⟨f j,by rw[hout _ _ (by omega)];exact(hf j hj).1,(hf j hj).2.1,s.trel hm ((hf j hj).2.2 c hc)⟩
       ·rw[qax (by omega)]at hc
        have hjl:=(qab.1 hc).1
        have:=hin (j-cs.length) (by omega)
        rw[show cs.length+(j-cs.length)=j from by omega]at this
        exact⟨_,this,h1 _ (qad _),s.trel hm (hr _ c _ hc (qac (by omega)))⟩⟩)
    refine⟨.slice (some ⟨p.b,0,none⟩) (cs.length+vs.length) cap,_,?_,s,hm',rfl,.rw _ _ _ p (by show(m.β.set id p)[id]?=_;rw[qau hidβ]) ⟨_,_,_,rfl⟩ fun k hk=>?_⟩
    ·rw[hrun]
     simp only[zbh]
     rw[hst];rfl
    ·have hk':tlOf (m.H.set id (.row e (cs++ns)))[id]?=some k:=hk
     rw[hset]at hk'
     cases hk'
     refine⟨qae _,fun _=>⟨some ⟨p.b,0,none⟩,cap,by rw[qai,hvl],by simp;omega,hlo0,hhi,rfl,hcap0⟩⟩
 ·have hbound:¬Builtin.nextslicecap (cs.length+vs.length) cap*ti.bytes > 2 ^ 48:=by
   have h1:=nextslicecap_le (cs.length+vs.length) cap (by omega)
   have h2:Builtin.nextslicecap (cs.length+vs.length) cap≤2*(cs.length+vs.length)+512:=by omega
   exact zwdz
  have hmax:¬(((cs.length+vs.length:Nat):Int) > IntKind.i64.max/\(False\/ti.bytes=0)):=by
   exact zwfi
  obtain⟨nc,hnc⟩:∃nc,nc=(Question.appendCap (cs.length+vs.length) cap e).cut (m.w.tape m.w.drawn (.appendCap (cs.length+vs.length) cap e)):=⟨_,rfl⟩
  have hnc2:cs.length+vs.length≤nc:=by rw[hnc];simp[Question.cut]
  obtain⟨zr,hzr⟩:∃zr,zr=Builtin.zeroCells z.cells (nc-(cs.length+vs.length)):=⟨_,rfl⟩
  have hzrl:zr.size=nc-(cs.length+vs.length):=by rw[hzr];simp[Builtin.zeroCells,hzl]
  have hold:∀w':World,w'.heap=m.w.heap->(Builtin.firstCells 1 cs.length (.slice ad cs.length cap)).run P w'= .ok ((List.range cs.length).map f).toArray w':=by
   intro w' hw'
   cases ad with
   | none=>
     subst hown
     have:cs.length=0:=by omega
     simp[Builtin.firstCells,this]
   | some a=>
     simp only at hown
     obtain⟨rfl,_⟩:=hown
     simp only[Builtin.firstCells]
     have:=run_loadCells (P:=P) w' ⟨p.b,0,none⟩ (cs.length*1) f fun j hj=>by
      rw[zbh,qaN]
      rw[show w'.cell? ⟨p.b,j,none⟩=m.w.cell? ⟨p.b,j,none⟩ from by simp[World.cell?,hw']]
      exact(hf j (by omega)).1
     rw[Nat.mul_one]at this⊢
     exact this
  obtain⟨arr,harr⟩:∃arr:Array Value,arr=((List.range cs.length).map f).toArray++vs.toArray++zr:=⟨_,rfl⟩
  have hrun:(Builtin.append_ #[t,t'] ty #[.slice ad cs.length cap,y]).run P m.w=
    .ok (.slice (some ⟨m.w.heap.size,0,none⟩) (cs.length+vs.length) nc) (({ m.w with drawn:=m.w.drawn+1 }:World).alloc (.cells arr e)):=by
   have hfo:(Question.appendCap (cs.length+vs.length) cap e).forced=false:=rfl
   have hadd:(Builtin.append_ #[t,t'] ty #[.slice ad cs.length cap,y]).run P m.w=(((do
     let old <-Builtin.firstCells 1 cs.length (.slice ad cs.length cap)
     let new <-Builtin.firstCells 1 vs.length y
     pure (.slice (some (<-newRow e (old++new++zr))) (cs.length+vs.length) nc)):Sem Value).run P { m.w with drawn:=m.w.drawn+1 }):=by
    simp only[Builtin.append_]
    rcases hu with hdd|⟨e',hdd⟩ <;> (simp[underlying,hdd,(hT t i ht).slice hk,(hT e ie he).sizeOf,hs,hlo,hfit,typeInfo,hti,hbound,hmax,hfo,<-hnc,hz1,<-hzr];try(intro h;exfalso;omega))
   rw[hadd]
   simp[hold m.w.drew rfl,hfc m.w.drew rfl,newRow]
   rw[harr]
   congr 2
   rw[<-qbu]
  have harrl:arr.size=nc:=by rw[harr];simp[hzrl];omega
  have hcell:∀o,(m.w.drew.alloc (.cells arr e)).cell? ⟨m.w.heap.size,o,none⟩=arr[o]? :=fun o=>World.cell?_alloc_new (w:=m.w.drew) ..
  have hkeep:∀b,b<m.w.heap.size->(m.w.drew.alloc (.cells arr e)).heap[b]?=m.w.heap[b]? :=fun b hb=>RowKit.Below.heap_alloc m.w.drew _ _ hb
  have hsize:(m.w.drew.alloc (.cells arr e)).heap.size=m.w.heap.size+1:=by simp
  have hcf:∀q,q<cs.length->arr[q]?=some (f q):=fun q hq=>by
   rw[harr,qbu,qaV (by simpa using hq)];simp[hq]
  have hcg:∀q (hq:q<vs.length),arr[cs.length+q]?=some vs[q]:=fun q hq=>by
   rw[harr,qbu,qa0 (by simp),qaV (by simpa using hq)];simp[hq]
  have hns:0<vs.length:=by omega
  obtain⟨s,hm'⟩:=zhD hm (k1:=.row e (cs++ns)) (p':=⟨m.w.heap.size,0,nc⟩) (A':=m.A) (w':=m.w.drew.alloc (.cells arr e)) hp hH rfl rfl rfl rfl (by rw[hsize];omega)
   (fun b o hb _=>zaM (hkeep b hb)) (fun b o hb _ _=>zaS (hkeep b hb)) (fun b hb _=>hkeep b hb) (fun b o hb h=>by rw[zaM (hkeep b hb)];exact h) (fun b s hs=>by rw[zbp (hkeep b (zgX hs))];exact hs) (fun _ _ h=>h) (fun _ _ h=>.inl h)
   (fun _=>.inr (.inl (by rw[hsize];exact⟨qae _,qb8 _⟩))) (fun _ _ _ h h'=>absurd h h') (fun o q1 q2=>(b4 o q1 q2).1)
   (fun n' hn'=>by
     simp only[tlOf,qaB]at hn'
     subst hn'
     exact⟨by simp,fun h=>by rw[qai]at h;omega⟩)
   (fun s=>⟨⟨rfl,by simp;omega,fun _=>by
     show(m.w.drew.alloc (.cells arr e)).shape? m.w.heap.size=some (e,nc)
     rw[<-harrl]
     exact World.shape?_alloc_at _ _ _ rfl⟩,fun o q1 q2=>by
      refine⟨?_,World.frozen?_alloc_new (w:=m.w.drew) ..⟩
      show((m.w.drew.alloc (.cells arr e)).cell? ⟨m.w.heap.size,o,none⟩).isSome=true
      have q3:o<nc:=q2
      rw[hcell,qal (by omega)];rfl,fun j c hc=>by
      show ∃y,(m.w.drew.alloc (.cells arr e)).cell? ⟨m.w.heap.size,0+j,none⟩=some y/\_
      rw[qaN,hcell]
      by_cases hj:j<cs.length
      ·rw[qao hj]at hc
       exact⟨f j,hcf j hj,(hf j hj).2.1,s.trel hm ((hf j hj).2.2 c hc)⟩
      ·rw[qax (by omega)]at hc
       have hjl:=(qab.1 hc).1
       have:=hcg (j-cs.length) (by omega)
       rw[show cs.length+(j-cs.length)=j from by omega]at this
       exact⟨_,this,h1 _ (qad _),s.trel hm (hr _ c _ hc (qac (by omega)))⟩⟩)
  refine⟨.slice (some ⟨m.w.heap.size,0,none⟩) (cs.length+vs.length) nc,_,hrun,s,hm',rfl,.rw _ _ _ ⟨m.w.heap.size,0,nc⟩ (by show(m.β.set id _)[id]?=_;rw[qau hidβ]) ⟨_,_,_,rfl⟩ fun k hk=>?_⟩
  have hk':tlOf (m.H.set id (.row e (cs++ns)))[id]?=some k:=hk
  rw[hset]at hk'
  cases hk'
  exact⟨qae _,fun _=>⟨some ⟨m.w.heap.size,0,none⟩,nc,by rw[qai,hvl],by simp;omega,rfl,rfl,rfl,by omega⟩⟩
section rules
variable {P:Program}{n:Nat}{env:Env}{H:Heap}{K:TK}{all:Array Oper}{rest:List Oper}{tab:Tab}{q:Bool}
variable {d:Nat}{ty:TypeId}{pos:String}{aft:Array Edge}
theorem eval_const(ac:Act)(v:Value):ac.eval (.const v)=v:=rfl
theorem eval_func(ac:Act)(f:FuncId):ac.eval (.func f)= .func (.func f) #[] #[]:=rfl
theorem SRel.znE{m:M}{e:TypeId}{k id off:Nat}{x:Value}(h:SRel m (.tref e k id off) x):SRel m (.ref id off) x:=by
 cases h with
 | tref _ _ _ _ p hp hn h0 hs=>exact .ref _ _ p hp hn
theorem Le.tref(e:TypeId)(k id off:Nat):Le (.tref e k id off) (.ref id off):=fun _ _ h=>h.znE
theorem TO.zc8(hT:zau P tab){t:TypeId}{i it:TyI}{fs:List (Nat×TypeId)}{x:Operand}{e:TypeId}{k' id off fi o:Nat}{ft:TypeId}(hd:Nat.ble (d+1) n=true)(ht:tab.get t=some i)(hk:i.k= .struct fs)
  (hf:fs[fi]?=some (o,ft))(hft:tab.get ft=some it)(hz:it.size≠0)(hx:env.val x=some (.tref e k' id off))(k:TO q P n all rest ((d,.ref id (off+o))::env) H K):TO q P n all (⟨some d,.fieldAddr t x fi,ty,pos,aft,none⟩::rest) env H K:=
 TO.op hd (fun m ac h1 h2 h3=>by
  have h:=(h3.val hx).znE
  generalize hq:ac.eval x=z at h
  cases h with
  | ref _ _ p hp hn=>
    refine⟨.pointer (some ⟨p.b,p.lo+(off+o),none⟩),fun w' hw'=>?_,.ref _ _ p hp hn⟩
    have:=zeM hT ht hk hf hft hz p.b (p.lo+off) w'
    simp[execOp,hq,this,qaZ]) k
theorem zdL{t e:TypeId}(h:P.underlying t=some (.pointer e))(p:Option Addr)(w:World):(Go.binOp .eql t (.pointer p) (.pointer none)).run P w= .ok (.bool p.isNone) w:=by
 exact zwbq
theorem zdM{t e:TypeId}(h:P.underlying t=some (.pointer e))(p:Option Addr)(w:World):(Go.binOp .neq t (.pointer p) (.pointer none)).run P w= .ok (.bool (!p.isNone)) w:=by
 exact zwbq
theorem Fit.ptr{t e:TypeId}{i:TyI}(h:Fit P t i)(hk:i.k= .ptr e):P.underlying t=some (.pointer e):=by
 exact zweb
theorem TO.ziG(hT:zau P tab){t t' e:TypeId}{i:TyI}{x:Operand}{v:SV}(hd:Nat.ble (d+1) n=true)(ht:tab.get t=some i)(hk:i.k= .ptr e)(hx:env.val x=some v)(hv:v.zme=true)
  (k:TO q P n all rest ((d,.t (.v (.bool false)))::env) H K):TO q P n all (⟨some d,.binOp .eql t x (.const (.pointer none)) t',ty,pos,aft,none⟩::rest) env H K:=
 TO.op hd (fun m ac h1 h2 h3=>⟨.bool false,fun w' hw'=>by
  have h:=h3.val hx
  generalize hq:ac.eval x=z at h
  cases v <;> simp[SV.zme]at hv <;> cases h <;> simp[execOp,eval_const,hq,eqGuard,zdL ((hT t i ht).ptr hk)],.t _ _ (.v _)⟩) k
theorem TO.ziF(hT:zau P tab){t t' e:TypeId}{i:TyI}{x:Operand}(hd:Nat.ble (d+1) n=true)(ht:tab.get t=some i)(hk:i.k= .ptr e)(hx:env.val x=some (.t (.v (.pointer none))))
  (k:TO q P n all rest ((d,.t (.v (.bool true)))::env) H K):TO q P n all (⟨some d,.binOp .eql t x (.const (.pointer none)) t',ty,pos,aft,none⟩::rest) env H K:=
 TO.op hd (fun m ac h1 h2 h3=>⟨.bool true,fun w' hw'=>by
  simp[execOp,eval_const,(h3.val hx).v_eq,eqGuard,zdL ((hT t i ht).ptr hk)],.t _ _ (.v _)⟩) k
theorem TO.zev(hT:zau P tab){t t' e:TypeId}{i:TyI}{x:Operand}{v:SV}(hd:Nat.ble (d+1) n=true)(ht:tab.get t=some i)(hk:i.k= .ptr e)(hx:env.val x=some v)(hv:v.zme=true)
  (k:TO q P n all rest ((d,.t (.v (.bool true)))::env) H K):TO q P n all (⟨some d,.binOp .neq t x (.const (.pointer none)) t',ty,pos,aft,none⟩::rest) env H K:=
 TO.op hd (fun m ac h1 h2 h3=>⟨.bool true,fun w' hw'=>by
  have h:=h3.val hx
  generalize hq:ac.eval x=z at h
  cases v <;> simp[SV.zme]at hv <;> cases h <;> simp[execOp,eval_const,hq,eqGuard,zdM ((hT t i ht).ptr hk)],.t _ _ (.v _)⟩) k
theorem TO.zeu(hT:zau P tab){t t' e:TypeId}{i:TyI}{x:Operand}(hd:Nat.ble (d+1) n=true)(ht:tab.get t=some i)(hk:i.k= .ptr e)(hx:env.val x=some (.t (.v (.pointer none))))
  (k:TO q P n all rest ((d,.t (.v (.bool false)))::env) H K):TO q P n all (⟨some d,.binOp .neq t x (.const (.pointer none)) t',ty,pos,aft,none⟩::rest) env H K:=
 TO.op hd (fun m ac h1 h2 h3=>⟨.bool false,fun w' hw'=>by
  simp[execOp,eval_const,(h3.val hx).v_eq,eqGuard,zdM ((hT t i ht).ptr hk)],.t _ _ (.v _)⟩) k
def T.one:T->Bool
 | .ag _=>false
 | _=>true
theorem TO.ziu(hT:zau P tab){t t' e:TypeId}{i i' ie:TyI}{id len:Nat}{cs:List T}{ys:List T}{x y:Operand}{vy:SV}{H':Heap}(hd:Nat.ble (d+1) n=true)(ht:tab.get t=some i)(hk:i.k= .slice e)(ht':tab.get t'=some i')(hk':i'.k= .slice e)
  (he:tab.get e=some ie)(hs:ie.size=1)(hx:env.val x=some (.rw id len))(hH:H[id]?=some (.row e cs))(hlen:Nat.beq len cs.length=true)(hy:env.val y=some vy)(hvy:vy.elems 1=some ys)(hsy:ys.all T.one=true)
  (hby:Nat.ble ie.bytes 4096=true)(hb1:cs.length+ys.length≤10000000000)(hH':H.set id (.row e (cs++ys))=H')
  (k:TO false P n all rest ((d,.rw id (cs++ys).length)::env) H' K):TO false P n all (⟨some d,.call { callee:=.builtin .append,args:=#[x,y],argTypes:=#[t,t'] },ty,pos,aft,none⟩::rest) env H K:=
 TO.eff hd (fun m ac h1 h2 h3=>by
  have hy':=(h3.val hy).elems hvy
  obtain⟨ad,cap,hq⟩:=hy'.zbn
  rw[hq]at hy'
  obtain⟨g,g0,g1,g2,g3⟩:=zbb (P:=P) hy' (by omega)
  have h1':=qah hby
  have h2':(cs.length+ys.length)*ie.bytes≤10000000000*4096:=qbZ hb1 h1'
  obtain⟨z,m',r1,s,hm',hHm,hr⟩:=zil (P:=P) hT h2 (ty:=ty) (y:=ac.eval y) (vs:=(List.range ys.length).map g) (ns:=ys) ht hk he hs (h3.val hx) (by rw[h1];exact hH) (qaP hlen) (by simp) (.inr ⟨_,(hT t' i' ht').slice hk'⟩)
   (fun w=>by rw[hq];simp[Builtin.lenOf]) (fun w' hw'=>by have:=g0 w' hw';rw[hq];simpa using this) (fun v hv=>by simp at hv;obtain⟨q,hq,rfl⟩:=hv;exact g1 q (by omega)) (fun j c v hc hv=>by
     have hjl:=(qab.1 hc).1
     simp[hjl]at hv
     subst hv
     have hc1:c.cells=[c]:=by
      have hso:=qaw.1 hsy c (qas hc)
      cases c with
      | ag l=>simp[T.one]at hso
      | _=>rfl
     have:=g3 j c 0 c hc (by rw[hc1];rfl)
     simp at this
     exact this) (by simp;omega) (by simp;omega) (by omega)
  refine⟨z,m',by simp[execOp,resolve,invoke,builtin,r1],s,hm',by rw[hHm,h1];exact hH',hr⟩) k
end rules
theorem znk{m:M}(hm:HRel m)(e:TypeId):Step m ⟨m.A,m.β++[⟨0,0,0⟩],m.H++[.row e []],m.w⟩/\HRel ⟨m.A,m.β++[⟨0,0,0⟩],m.H++[.row e []],m.w⟩:=by
 refine grow hm (A':=m.A) rfl rfl rfl (qae _) (fun _ _=>rfl) (fun _ _ h=>h) (fun _ _ h=>.inl h) rfl ?_ ?_ (fun _ _ h h'=>absurd h h') ?_
 ·exact zwed
 ·exact zwfr
 ·intro s i p k h1 h2
  cases i with
  | zero=>
    simp at h1 h2;subst h1;subst h2
    exact⟨⟨rfl,qae _,fun h=>absurd h (Nat.lt_irrefl _)⟩,fun o q1 q2=>by simp at q2,by simp⟩
  | succ i=>simp at h1
theorem ztc{m:M}(hm:HRel m)(e:TypeId):SRel ⟨m.A,m.β++[⟨0,0,0⟩],m.H++[.row e []],m.w⟩ (.rw m.H.length 0) (.slice none 0 0):=by
 refine .rw _ _ _ ⟨0,0,0⟩ (by simp[<-hm.len]) ⟨_,_,_,rfl⟩ fun k hk=>?_
 have hk':tlOf (m.H++[Blk.row e []])[m.H.length]?=some k:=hk
 simp[tlOf]at hk'
 subst hk'
 exact⟨qae _,fun _=>⟨none,0,rfl,qae _,rfl,rfl,rfl⟩⟩
section rules
variable {P:Program}{n:Nat}{env:Env}{H:Heap}{K:TK}{all:Array Oper}{rest:List Oper}{tab:Tab}{q:Bool}
variable {d:Nat}{ty:TypeId}{pos:String}{aft:Array Edge}
theorem TR.zjH{c:Code}(e:TypeId)(id j:Nat){cs:List SV}{H':Heap}(hH:H[id]?=some (.cells cs))(hi:cs[j]?=some (.t (.v (.slice none 0 0))))(hH':H.set id (.cells (cs.set j (.rw H.length 0)))++[.row e []]=H')
  (k:TR P n c env H' K):TR P n c env H K:=by
 intro φ m a h1 h2 h3 h4
 obtain⟨s,hm'⟩:=znk h2 e
 have hid:=(qab.1 hH).1
 have hjl:=(qab.1 hi).1
 have hH1:m.H[id]?=some (.cells cs):=by rw[h1];exact hH
 obtain⟨p,hp⟩:∃p,m.β[id]?=some p:=⟨_,qac (by rw[h2.len,h1];exact hid)⟩
 obtain⟨b1,b2,b3⟩:=h2.blk id p _ hp hH1
 have hH2:(m.H++[Blk.row e []])[id]?=some (.cells cs):=by rw[qao (by rw[h1];exact hid)];exact hH1
 have hp2:(m.β++[(⟨0,0,0⟩:Place)])[id]?=some p:=by rw[qao (qab.1 hp).1];exact hp
 obtain⟨s2,hm2⟩:=upd (m:=⟨m.A,m.β++[⟨0,0,0⟩],m.H++[.row e []],m.w⟩) hm' (cs':=cs.set j (.rw m.H.length 0)) (w':=m.w) hp2 hH2 rfl rfl rfl rfl (fun _ _=>rfl) (fun _ _=>rfl) (fun _=>rfl) (fun _=>rfl) (fun _ h=>h) (by simpa using b1) (by omega) (fun q c hc=>by
  by_cases hq:q=j
  ·exact zwcs
  ·rw[qaz (by omega)]at hc
   obtain⟨y,hy1,hy0,hy2⟩:=b3 q c hc
   exact⟨y,hy1,hy0,s.srel h2 hy2⟩)
 refine zaY (k φ ⟨m.A,m.β++[⟨0,0,0⟩],(m.H++[Blk.row e []]).set id (.cells (cs.set j (.rw m.H.length 0))),m.w⟩ a ?_ hm2 ((h3.step h2 s).step hm' s2) h4) fun _ _ _ hp=>hp.step (s.trans s2)
 rw[<-hH',<-h1]
 show(m.H++[Blk.row e []]).set id _=_
 rw[qca _ _ (by rw[h1];exact hid)]
theorem TO.zjH{ops:List Oper}(e:TypeId)(id j:Nat){cs:List SV}{H':Heap}(hH:H[id]?=some (.cells cs))(hi:cs[j]?=some (.t (.v (.slice none 0 0))))(hH':H.set id (.cells (cs.set j (.rw H.length 0)))++[.row e []]=H')
  (k:TO false P n all ops env H' K):TO false P n all ops env H K:=by
 intro φ m a h1 h2 h3 h4
 obtain⟨s,hm'⟩:=znk h2 e
 have hid:=(qab.1 hH).1
 have hjl:=(qab.1 hi).1
 have hH1:m.H[id]?=some (.cells cs):=by rw[h1];exact hH
 obtain⟨p,hp⟩:∃p,m.β[id]?=some p:=⟨_,qac (by rw[h2.len,h1];exact hid)⟩
 obtain⟨b1,b2,b3⟩:=h2.blk id p _ hp hH1
 have hH2:(m.H++[Blk.row e []])[id]?=some (.cells cs):=by rw[qao (by rw[h1];exact hid)];exact hH1
 have hp2:(m.β++[(⟨0,0,0⟩:Place)])[id]?=some p:=by rw[qao (qab.1 hp).1];exact hp
 obtain⟨s2,hm2⟩:=upd (m:=⟨m.A,m.β++[⟨0,0,0⟩],m.H++[.row e []],m.w⟩) hm' (cs':=cs.set j (.rw m.H.length 0)) (w':=m.w) hp2 hH2 rfl rfl rfl rfl (fun _ _=>rfl) (fun _ _=>rfl) (fun _=>rfl) (fun _=>rfl) (fun _ h=>h) (by simpa using b1) (by omega) (fun q c hc=>by
  by_cases hq:q=j
  ·exact zwcs
  ·rw[qaz (by omega)]at hc
   obtain⟨y,hy1,hy0,hy2⟩:=b3 q c hc
   exact⟨y,hy1,hy0,s.srel h2 hy2⟩)
 refine TO.zee (m':=⟨m.A,m.β++[⟨0,0,0⟩],(m.H++[Blk.row e []]).set id (.cells (cs.set j (.rw m.H.length 0))),m.w⟩) (s.trans s2) (k φ ⟨m.A,m.β++[⟨0,0,0⟩],(m.H++[Blk.row e []]).set id (.cells (cs.set j (.rw m.H.length 0))),m.w⟩ a ?_ hm2 ((h3.step h2 s).step hm' s2) h4)
 rw[<-hH',<-h1]
 show(m.H++[Blk.row e []]).set id _=_
 rw[qca _ _ (by rw[h1];exact hid)]
end rules
section rules
variable {P:Program}{n:Nat}{env:Env}{H:Heap}{K:TK}{all:Array Oper}{rest:List Oper}{tab:Tab}{q:Bool}
variable {d:Nat}{ty:TypeId}{pos:String}{aft:Array Edge}
theorem TO.ssl2(hT:zau P tab){t e:TypeId}{i ie:TyI}{x y z:Operand}{v:SV}{sz:Nat}{es:List T}{a b:Nat}{ik ik':IntKind}(hd:Nat.ble (d+1) n=true)(ht:tab.get t=some i)(hk:i.k= .slice e)(he:tab.get e=some ie)(hs:ie.size=sz)
  (hx:env.val x=some v)(hv:v.elems sz=some es)(hy:env.val y=some (.t (.v (.int ik (a:Int)))))(hz:env.val z=some (.t (.v (.int ik' (b:Int)))))(h1:a≤b)(h2:b≤es.length)
  (k:TO q P n all rest ((d,.t (.sl sz ((es.take b).drop a)))::env) H K):TO q P n all (⟨some d,.slice t x (some y) (some z) none,ty,pos,aft,none⟩::rest) env H K:=
 TO.zjN hT hd ht hk he hs hx hv (.inr ⟨y,ik,rfl,hy⟩) (.inr ⟨z,ik',rfl,hz⟩) h1 h2 k
theorem TO.zp7(hT:zau P tab){t e:TypeId}{i ie:TyI}{x y:Operand}{v:SV}{sz:Nat}{es:List T}{a:Nat}{ik:IntKind}(hd:Nat.ble (d+1) n=true)(ht:tab.get t=some i)(hk:i.k= .slice e)(he:tab.get e=some ie)(hs:ie.size=sz)
  (hx:env.val x=some v)(hv:v.elems sz=some es)(hy:env.val y=some (.t (.v (.int ik (a:Int)))))(h1:a≤es.length)
  (k:TO q P n all rest ((d,.t (.sl sz (es.drop a)))::env) H K):TO q P n all (⟨some d,.slice t x (some y) none none,ty,pos,aft,none⟩::rest) env H K:=
 TO.zjN hT hd ht hk he hs hx hv (.inr ⟨y,ik,rfl,hy⟩) (.inl ⟨rfl,rfl⟩) h1 (qae _) (by rw[qag];exact k)
theorem TO.zp6(hT:zau P tab){t e:TypeId}{i ie:TyI}{x z:Operand}{v:SV}{sz:Nat}{es:List T}{b:Nat}{ik:IntKind}(hd:Nat.ble (d+1) n=true)(ht:tab.get t=some i)(hk:i.k= .slice e)(he:tab.get e=some ie)(hs:ie.size=sz)
  (hx:env.val x=some v)(hv:v.elems sz=some es)(hz:env.val z=some (.t (.v (.int ik (b:Int)))))(h2:b≤es.length)
  (k:TO q P n all rest ((d,.t (.sl sz (es.take b)))::env) H K):TO q P n all (⟨some d,.slice t x none (some z) none,ty,pos,aft,none⟩::rest) env H K:=
 TO.zjN hT hd ht hk he hs hx hv (.inl ⟨rfl,rfl⟩) (.inr ⟨z,ik,rfl,hz⟩) (qaU _) h2 (by simpa using k)
end rules
end Go.TL
