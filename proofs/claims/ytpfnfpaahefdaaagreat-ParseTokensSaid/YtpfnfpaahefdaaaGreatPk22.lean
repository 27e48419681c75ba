import Derived.Lib.SliceRun
import Derived.Test.YtpfnfpaahefdaaaGreatPk21
set_option linter.all false
namespace Go.TL
open Go
section rules
variable {P:Program}{n:Nat}{env:Env}{H:Heap}{K:TK}{all:Array Oper}{rest:List Oper}{tab:Tab}{q:Bool}{d:Nat}{ty:TypeId}{pos:String}{aft:Array Edge}
theorem TO.zmH{ops:List Oper}(bid j0 sz id len:Nat){bs:List SV}{cs:List SV}{es:List T}{H':Heap}(hne:Nat.beq bid id=false)(hB:H[bid]?=some (.cells bs))(hj0:bs[j0]?=some (.ms sz id 0 len))(hH:H[id]?=some (.cells cs))(hcl:es.length*sz≤cs.length)(hcs:∀(j:Nat) c,((es.map T.cells).flatten.map SV.t)[j]?=some c->cs[j]?=some c)(hlen:len=es.length)(hsz:∀e∈es,e.cells.length=sz)
  (hpos:Nat.ble 1 sz=true)(hH':(H.set id .dead).set bid (.cells (bs.set j0 (.t (.sl sz es))))=H')(k:TO false P n all ops env H' K):TO false P n all ops env H K:=by
 intro φ m a h1 h2 h3 h4
 have hp':=qag hpos
 subst hlen
 have hne':bid≠id:=fun h=>by subst h;simp at hne
 have hB1:m.H[bid]?=some (.cells bs):=by rw[h1];exact hB
 obtain⟨pb,hpb⟩:∃pb,m.β[bid]?=some pb:=⟨_,qab (by have:=(qaa.1 hB1).1;have:=h2.len;omega)⟩
 obtain⟨w1,w2,w3⟩:=h2.blk bid pb _ hpb hB1
 obtain⟨x,hx1,hx0,hx2⟩:=w3 j0 _ hj0
 obtain⟨l1,l2⟩:=zcH es hsz
 cases hx2 with
 | ms _ _ _ _ cap p hp hn hc hh=>
   have hH1:m.H[id]?=some (.cells cs):=by rw[h1];exact hH
   obtain⟨b1,b2,b3⟩:=h2.blk id p _ hp hH1
   have hex:∀j,∃y,j<cs.length->m.w.cell? ⟨p.b,p.lo+j,none⟩=some y/\y.oneCell'=true/\∀c,cs[j]?=some c->SRel m c y:=by
    intro j
    by_cases hj:j<cs.length
    ·obtain⟨y,hy1,hy0,hy2⟩:=b3 j cs[j] (qab hj)
     exact zwed
    ·exact⟨undef,fun h=>absurd h hj⟩
   let f:Nat->Value:=fun j=>Classical.choose (hex j)
   have hf:=fun j=>Classical.choose_spec (hex j)
   obtain⟨s,hm'⟩:=ze2 h2 (k1:=.dead) (p':=p) (A':=fun b o=>m.A b o\/(b=p.b/\p.lo≤o/\o<p.lo+cs.length)) (w':=m.w) hp hH1 rfl rfl rfl rfl (qae _) (fun _ _ _ _=>rfl) (fun _ _ _ _ _=>rfl) (fun _ _ _=>rfl) (fun _ _ _ h=>h) (fun _ _ h=>h)
    (fun _ _ h=>.inl h) (fun b o h=>by
      rcases h with h|h
      ·exact .inl h
      ·exact .inr (.inl (by omega))) (fun h=>by cases h) (fun h=>by cases h) (fun o q1 q2=>(b2 o q1 q2).1) ⟨rfl,fun n'=>by simp[tlOf]⟩ (fun _=>trivial)
   have hlt:∀q j,q<es.length->j<sz->q*sz+j<cs.length:=fun q j hq hj=>by
    exact zwem
   have hr:SRel ⟨fun b o=>m.A b o\/(b=p.b/\p.lo≤o/\o<p.lo+cs.length),m.β.set id p,m.H.set id .dead,m.w⟩ (.t (.sl sz es)) (.slice (some ⟨p.b,p.lo+0,none⟩) es.length cap):=by
    refine .t _ _ (.sl sz es p.b (p.lo+0) cap f hc (fun j e he=>hsz e (qaB he)) (fun q j hq hj=>.inr ⟨rfl,by omega,by have:=hlt q j hq hj;omega⟩) (fun q j hq hj=>(hf _ (hlt q j hq hj)).1) (fun q j hq hj=>(hf _ (hlt q j hq hj)).2.1) (fun q e j c he hc'=>?_))
    have hq:=(qaa.1 he).1
    have hj:=(qaa.1 hc').1
    rw[hsz e (qaB he)]at hj
    have hcc:cs[q*sz+j]?=some (.t c):=hcs _ _ (by rw[qar,l2 q j e c he hc'];rfl)
    have:=(hf _ (hlt q j hq hj)).2.2 _ hcc
    cases this with
    | t _ _ h=>exact s.trel h2 h
   have hB2:(m.H.set id .dead)[bid]?=some (.cells bs):=by rw[qau (fun h=>hne' h.symm)];exact hB1
   have hpb2:(m.β.set id p)[bid]?=some pb:=by rw[qau (fun h=>hne' h.symm)];exact hpb
   have hjl:=(qaa.1 hj0).1
   obtain⟨s2,hm2⟩:=upd hm' (cs':=bs.set j0 (.t (.sl sz es))) (w':=m.w) hpb2 hB2 rfl rfl rfl rfl (fun _ _=>rfl) (fun _ _=>rfl) (fun _=>rfl) (fun _=>rfl) (fun _ h=>h) (by rw[qbv];exact w1) (by omega) (fun j c hc=>by
    by_cases hj:j=j0
    ·subst hj
     rw[qap hjl]at hc
     cases hc
     exact⟨_,hx1,hx0,hr⟩
    ·rw[qau (fun h=>hj h.symm)]at hc
     obtain⟨y,y1,y2,y3⟩:=w3 j c hc
     exact⟨y,y1,y2,s.srel h2 y3⟩)
   have st:=s.trans s2
   exact TO.ze6 (m':=⟨fun b o=>m.A b o\/(b=p.b/\p.lo≤o/\o<p.lo+cs.length),m.β.set id p,(m.H.set id .dead).set bid (.cells (bs.set j0 (.t (.sl sz es)))),m.w⟩) st (k φ ⟨fun b o=>m.A b o\/(b=p.b/\p.lo≤o/\o<p.lo+cs.length),m.β.set id p,(m.H.set id .dead).set bid (.cells (bs.set j0 (.t (.sl sz es)))),m.w⟩ a (by show _=H';rw[<-hH',h1]) hm2 (h3.step h2 st) (h4.step h2 st))
end rules
section rules
variable {P:Program}{n:Nat}{env:Env}{H:Heap}{K:TK}{all:Array Oper}{rest:List Oper}{tab:Tab}
variable {d:Nat}{ty:TypeId}{pos:String}{aft:Array Edge}{q:Bool}
theorem zmJ{m:M}(hm:HRel m):Step m ⟨m.A,m.β++[⟨0,0,0⟩],m.H++[.dead],m.w⟩/\HRel ⟨m.A,m.β++[⟨0,0,0⟩],m.H++[.dead],m.w⟩:=by
 have hlen:=hm.len
 have pick:∀(i:Nat) q c,(m.β++[(⟨0,0,0⟩:Place)])[i]?=some q->(m.H++[Blk.dead])[i]?=some c->c.live=true->m.β[i]?=some q/\m.H[i]?=some c:=by
  intro i q c h1 h2 hl
  by_cases hi:i<m.H.length
  ·rw[qao (by rw[hlen];exact hi)]at h1
   rw[qao hi]at h2
   exact⟨h1,h2⟩
  ·rw[qaq (by omega)]at h2
   cases hj:i-m.H.length with
   | zero=>rw[hj]at h2;cases h2;cases hl
   | succ j=>rw[hj]at h2;cases h2
 have own:∀b o,Own ⟨m.A,m.β++[⟨0,0,0⟩],m.H++[.dead],m.w⟩ b o->Own m b o:=by
  rintro b o ⟨i,q,c,h1,h2,h3,h4⟩
  exact⟨i,q,c,(pick i q c h1 h2 h3).1,(pick i q c h1 h2 h3).2,h3,h4⟩
 have s:Step m ⟨m.A,m.β++[⟨0,0,0⟩],m.H++[.dead],m.w⟩:=by
  refine⟨rfl,rfl,rfl,qae _,fun _ _ h=>h,fun _ _ h=>.inl h,fun b o h=>.inl (own b o h),fun _ _ _ _=>rfl,fun _ _ _ _ _=>rfl,fun _ _ _=>rfl,fun _ _ h=>h,fun _ L h=>⟨L,h⟩,fun _ _ _ h=>h,fun i q hq=>⟨q,?_,?_⟩⟩
  ·show(m.β++[_])[i]?=some q
   exact zwey
  ·show zaY m.H[i]? (m.H++[Blk.dead])[i]? q q
   rw[qao (by rw[<-hlen];exact(qaa.1 hq).1)]
   exact zaY.refl _ _
 refine⟨s,by simp[hlen],fun i q c h1 h2=>?_,fun i j q r c l hij h1 h2 h3 h4 hc hl=>?_,fun b o h hn=>hm.still b o h (own b o hn),hm.inA,fun i q c h1 h2 hc hq=>hm.inO i q c (pick i q c h1 h2 hc).1 (pick i q c h1 h2 hc).2 hc hq,s.glob hm⟩
 ·cases hlv:c.live with
  | false=>cases c <;> simp[Blk.live]at hlv;trivial
  | true=>exact(hm.blk i q c (pick i q c h1 h2 hlv).1 (pick i q c h1 h2 hlv).2).step hm s (fun o _ _=>⟨rfl,fun _=>rfl⟩) (fun _=>rfl)
 ·exact hm.apart i j q r c l hij (pick i q c h1 h2 hc).1 (pick i q c h1 h2 hc).2 (pick j r l h3 h4 hl).1 (pick j r l h3 h4 hl).2 hc hl
end rules
section rules
variable {P:Program}{n:Nat}{env:Env}{H:Heap}{K:TK}{all:Array Oper}{rest:List Oper}{tab:Tab}{q:Bool}
variable {d:Nat}{ty:TypeId}{pos:String}{aft:Array Edge}
theorem TO.zlF(hT:zaF P tab){t e:TypeId}{i ie:TyI}{sz b c:Nat}{x y:Operand}(hd:Nat.ble (d+1) n=true)(ht:tab.get t=some i)(hk:i.k= .slice e)(he:tab.get e=some ie)(hs:ie.size=sz)(hpos:Nat.ble 1 sz=true)
  (hx:env.val x=some (.i (b:Int)))(hy:env.val y=some (.i (c:Int)))(hbc:b≤c)(h2:c≤10000000000)(hby:Nat.ble ie.bytes 4096=true)
  (k:TO false P n all rest ((d,.ms sz H.length 0 b)::env) (H++[.cells (zbY ie.zero c)]) K):TO false P n all (⟨some d,.makeSlice t x y,ty,pos,aft,none⟩::rest) env H K:=
 TO.eff hd (fun m ac g1 g2 g3=>by
  have hp':=qag hpos
  have hb':=qag hby
  obtain⟨ti,hti,hti1,hti2⟩:=(hT e ie he).info
  obtain⟨z,hz1,hz2,_,_⟩:=(hT e ie he).zero
  have hln:=(hT e ie he).len
  have hzl:z.cells.size=sz:=by
   have:=(zb3 (A:=m.A) (w:=m.w) _ _ hz2).1
   simp at this;omega
  have hcm:c*ie.bytes≤10000000000*4096:=qbE h2 hb'
  have hw:IntKind.i64.wrap (c:Int)=c:=zfb (by omega) (by omega)
  have hwb:IntKind.i64.wrap (b:Int)=b:=zfb (by omega) (by omega)
  have hbig2:¬((c:Int)<b):=by omega
  have hbig:¬(281474976710656<(ti.bytes:Int)*(c:Int)):=by
   rw[hti2,<-Int.natCast_mul,qck];omega
  have hneg:¬((c:Int)<0):=by omega
  have hnegb:¬((b:Int)<0):=by omega
  obtain⟨arr,harr⟩:∃arr:Array Value,arr=Builtin.zeroCells z.cells c:=⟨_,rfl⟩
  have hrun:(Instr.makeSlice t (.int .i64 (b:Int)) (.int .i64 (c:Int))).run P m.w= .ok (.slice (some ⟨m.w.heap.size,0,none⟩) b c) (m.w.alloc (.cells arr e)):=by
   by_cases h0:c*sz=0
   ·have hc0:c=0:=by rcases Nat.mul_eq_zero.1 h0 with h|h <;> omega
    subst hc0
    have hb0:b=0:=by omega
    subst hb0
    have ha:arr= #[]:=by rw[harr];simp[Builtin.zeroCells]
    rw[ha]
    have hw0:IntKind.i64.wrap (0:Int)=0:=by decide
    simp[Instr.makeSlice,underlying,(hT t i ht).slice hk,(hT e ie he).sizeOf,asInt,asIntOf,hw0,typeInfo,hti,newRow,askRoom,roomBytes]
    refine congrArg (fun a=>m.w.alloc (Obj.cells a e)) ?_
    simp[Array.range]
   ·have hroom:¬140737488355328<c*ti.bytes:=by rw[hti2];omega
    have hc0:¬c=0:=by rintro rfl;simp at h0
    have hs0:¬sz=0:=by omega
    rw[harr]
    simp[Instr.makeSlice,underlying,(hT t i ht).slice hk,(hT e ie he).sizeOf,hs,asInt,asIntOf,hw,hwb,typeInfo,hti,hbig,hbig2,hneg,hnegb,hz1,newRow,askRoom,roomBytes,hroom,h0,hc0,hs0,Builtin.zeroCells,hzl]
  have hsize:arr.size=c*ie.zero.length:=by
   rw[harr,zgZ,hzl,hln,hs]
  obtain⟨s,hm'⟩:=zlu g2 (ts:=ie.zero) (z:=z.cells) (e:=e) (arr:=arr) (c:=c) (N:=c) hz2 (by omega) (qae _) hsize (fun j hj=>by
   have hzz:z.cells.size=ie.zero.length:=by omega
   rw[harr,<-hzz]
   rw[<-hzz]at hj
   exact zeW _ _ _ (by omega) hj)
  refine⟨.slice (some ⟨m.w.heap.size,0,none⟩) b c,⟨m.A,m.β++[⟨m.w.heap.size,0,arr.size⟩],m.H++[.cells (zbY ie.zero c)],m.w.alloc (.cells arr e)⟩,by simp[execOp,(g3.val hx).v_eq,(g3.val hy).v_eq,hrun],s,hm',by rw[<-g1],?_⟩
  rw[<-g1]
  refine .ms sz m.H.length 0 b c ⟨m.w.heap.size,0,arr.size⟩ (by simp[g2.len]) (by intro q;simp[tlOf]) hbc ?_
  show 0+0+c*sz=arr.size
  rw[hsize,hln,hs];omega) k
theorem TO.makeSlice(hT:zaF P tab){t e:TypeId}{i ie:TyI}{sz c:Nat}{x:Operand}(hd:Nat.ble (d+1) n=true)(ht:tab.get t=some i)(hk:i.k= .slice e)(he:tab.get e=some ie)(hs:ie.size=sz)(hpos:Nat.ble 1 sz=true)
  (hx:env.val x=some (.i (c:Int)))(h2:c≤10000000000)(hby:Nat.ble ie.bytes 4096=true)
  (k:TO false P n all rest ((d,.ms sz H.length 0 c)::env) (H++[.cells (zbY ie.zero c)]) K):TO false P n all (⟨some d,.makeSlice t x x,ty,pos,aft,none⟩::rest) env H K:=
 TO.zlF hT hd ht hk he hs hpos hx hx (qae c) h2 hby k
end rules
end Go.TL
namespace Go.TL
open Go
theorem TO.ziC{P:Program}{n:Nat}{env:Env}{K:TK}{all:Array Oper}{ops:List Oper}{H:Heap}(id:Nat){cs cs':List SV}{H':Heap}(hH:H[id]?=some (.cells cs))(hl:cs'.length=cs.length)(h0:0<cs.length)
  (hle:∀(q:Nat) c',cs'[q]?=some c'->∃c,cs[q]?=some c/\Le c c')(hH':H.set id (.cells cs')=H')
  (k:TO false P n all ops env H' K):TO false P n all ops env H K:=by
 intro φ m a h1 h2 h3 h4
 have hid:=(qaa.1 hH).1
 have hH1:m.H[id]?=some (.cells cs):=by rw[h1];exact hH
 obtain⟨p,hp⟩:∃p,m.β[id]?=some p:=⟨_,qab (by rw[h2.len,h1];exact hid)⟩
 obtain⟨b1,b2,b3⟩:=h2.blk id p _ hp hH1
 have hlt:=hl
 obtain⟨s2,hm2⟩:=upd h2 (cs':=cs') (w':=m.w) hp hH1 rfl rfl rfl rfl (fun _ _=>rfl) (fun _ _=>rfl) (fun _=>rfl) (fun _=>rfl) (fun _ h=>h) (by omega) (by omega) (fun q c hc=>by
  obtain⟨c0,hc0,hle0⟩:=hle q c hc
  obtain⟨y,hy1,hy0,hy2⟩:=b3 q c0 hc0
  exact⟨y,hy1,hy0,hle0 _ _ hy2⟩)
 refine za3 (fun _ _ _ hp=>hp.step s2) (fun _ _=>Post.zcr) _ _ _ (k φ ⟨m.A,m.β,m.H.set id (.cells cs'),m.w⟩ a ?_ hm2 (h3.step h2 s2) (h4.step h2 s2))
 rw[<-hH',<-h1]
theorem zbV{z z':List T}(hz:z'.length=z.length)(h:∀(q:Nat) c',z'[q]?=some c'->∃c,z[q]?=some c/\Le (.t c) (.t c')):∀(n:Nat) (q:Nat) (c':SV),(zbY z' n)[q]?=some c'->∃c,(zbY z n)[q]?=some c/\Le c c'
 | 0,q,c',hq=>by simp[zbY]at hq
 | n+1,q,c',hq=>by
   have e:∀z:List T,zbY z (n+1)=z.map .t++zbY z n:=fun z=>by simp[zbY,qbH]
   rw[e]at hq⊢
   by_cases hlt:q<z.length
   ·rw[qao (by simpa [hz]using hlt),qar]at hq
    rw[qao (by simpa using hlt),qar]
    cases hc:z'[q]? with
    | none=>rw[hc]at hq;cases hq
    | some c1=>
      rw[hc]at hq
      cases hq
      obtain⟨c,h1,h2⟩:=h q c1 hc
      exact⟨.t c,by rw[h1];rfl,h2⟩
   ·rw[qaq (by simpa [hz]using hlt),qad,hz]at hq
    rw[qaq (by simpa using hlt),qad]
    exact zbV hz h n _ _ hq
end Go.TL
namespace Go.Proofs.YtpfnfpaahefdaaaGreat
open Go Go.TL
attribute [local irreducible] TR TO Then zab RetK Sound zac Kf GG za2
abbrev zaM (l:List Ex):List SV:=((l.map exT).map T.cells).flatten.map SV.t
theorem zbl(l:List Ex):(zaM l).length=l.length*6:=by
 rw[qad,(zcH (l.map exT) (sz:=6) (fun e he=>by obtain⟨a,_,rfl⟩:=qa2.1 he;rw[zao];rfl)).1,qad]
theorem zbm(e:Ex):∀(l:List Ex) (w:Nat),w<l.length->splice (zaM l) (0+w*6) ((exC e).map .t)=zaM (l.set w e)
 | a::l,0,_=>by
   simp only[zaM,qah,qbb,qav,qbK,splice,qcm,qaM,List.take_zero,qbk]
   rw[zao a,zao e]
   rfl
 | a::l,w+1,h=>by
   have ih:=zbm e l w (by simpa using h)
   have e1:zaM (a::l)=(exC a).map .t++zaM l:=by simp[zaM,zao,T.cells]
   have e2:zaM ((a::l).set (w+1) e)=(exC a).map .t++zaM (l.set w e):=by simp[zaM,zao,T.cells]
   have e3:((exC a).map SV.t).length=6:=rfl
   rw[e1,e2,<-ih]
   unfold splice
   rw[show 0+(w+1)*6=((exC a).map SV.t).length+(0+w*6) by rw[e3];omega,List.take_length_add_append,qbn,qbn,qbn]
   congr 2
   rw[qaY,List.drop_length_add_append]
theorem za1(c:Nat):zaM (List.replicate c noE)=zbY (exC noE) c:=by
 simp[zaM,zbY,qb2,zao,T.cells]
theorem zeV{R:Rd}{t v:Nat}{known:Bool}{i j:Nat}{u:Unit}(h:R.wanted t v known i= .ok u j):j=i:=by
 unfold Rd.wanted at h
 repeat' split at h
 all_goals first
  | (cases h;done)
  | (cases h;rfl)
theorem zbk{R:Rd}{s:Str}{i j:Nat}{u:Unit}(h:R.must [s] i= .ok u j):j=i+1:=by
 simp only[Rd.must]at h
 split at h
 ·cases h;rfl
 ·cases h
theorem zm8{l:List Tok}{es:List En}{t:Nat}(h:t=1\/3≤t):zcg es (t:Int)=((rdr l es).size t:Nat):=by
 unfold zcg Rd.size
 rcases h with rfl|h
 ·rfl
 ·rw[if_neg (by omega),if_neg (by omega),if_neg (by omega),if_neg (by omega)]
  show(((zf4 es (t:Int)).1.tags.length:Nat):Int)=((match es[t-3]? with|some u=>u.tags.length|none=>0:Nat):Int)
  unfold zf4
  by_cases hlt:t-3<es.length
  ·rw[if_pos ⟨by omega,by omega⟩,show((t:Int)-3).toNat=t-3 by omega,qab hlt]
  ·rw[if_neg (by omega),qaG (by omega)];rfl
theorem zis{l:List Tok}{es:List En}(he:EsOk es){w i j:Nat}{tv:Nat×Nat}(hw1:w=1->(rdr l es).isAt i [116,114,117,101]=true)(hw2:w≤1)(h:(rdr l es).aTag i= .ok tv j):
  (tv.1=1\/3≤tv.1)/\w<(rdr l es).size tv.1:=by
 obtain⟨_,h2⟩:=zd1 he h
 rcases h2 with ⟨h2,_⟩|⟨h2,u,h3,h4⟩
 ·refine⟨.inl h2,?_⟩
  rw[h2]
  show w<2
  omega
 ·refine⟨.inr h2,?_⟩
  have hs:(rdr l es).size tv.1=u.tags.length:=by
   unfold Rd.size
   rw[if_neg (by omega),if_neg (by omega)]
   show(match es[tv.1-3]? with|some u=>u.tags.length|none=>0)=_
   rw[h3]
  rw[hs]
  by_cases hw:w=1
  ·unfold Rd.aTag at h
   rw[if_pos (hw1 hw)]at h
   cases h
   omega
  ·omega
theorem size_le{l:List Tok}{es:List En}(he:EsOk es){t:Nat}(h:t=1\/3≤t):(rdr l es).size t≤3000000:=by
 rcases h with rfl|h
 ·show 2≤3000000;decide
 ·unfold Rd.size
  rw[if_neg (by omega),if_neg (by omega)]
  show(match es[t-3]? with|some u=>u.tags.length|none=>0)≤_
  cases hq:es[t-3]? with
  | none=>exact qaV _
  | some u=>exact he.tags u (qaB hq)
end Go.Proofs.YtpfnfpaahefdaaaGreat
namespace Go.Proofs.YtpfnfpaahefdaaaGreat
open Go Go.TL
attribute [local irreducible] TR TO Then zab RetK Sound zac Kf GG za2
abbrev mB (t:Int)(s:Str)(a:SV):Blk:=.cells [.t (.i 9),.t (.v (.int .i64 0)),.t (.v (.int .i64 t)),.t (.v (.int .i64 0)),.t (.s s),a]
def Rd.mrest(R:Rd)(f:Nat->PR Ex)(s:Str)(t m k:Nat)(xs:List Ex)(j:Nat):PR Ex:=(R.branches f t (R.size t) m k xs j).bind fun l j=>.ok (mkE 9 0 t 0 s l) j
def Rd.mA(R:Rd)(f:Nat->PR Ex)(s:Str)(w j:Nat):PR Ex:=(R.branch f 0 w false j).bind fun te j=>R.mrest f s te.1 (R.size te.1) 1 ((List.replicate (R.size te.1) noE).set w te.2) j
theorem zod(R:Rd)(f:Nat->PR Ex)(i:Nat):R.merge f i=(R.id i).bind fun s j=>R.mA f s (if R.isAt (j+1) [116,114,117,101]=true then 1 else 0) j:=rfl
theorem zmR{R:Rd}{f:Nat->PR Ex}{s:Str}{t m k:Nat}{xs:List Ex}{j:Nat}(h:R.size t≤k):R.mrest f s t m k xs j= .ok (mkE 9 0 t 0 s xs) j:=by
 unfold Rd.mrest
 cases m with
 | zero=>rfl
 | succ m=>rw[Rd.branches,if_pos h];rfl
theorem zlG{R:Rd}{f:Nat->PR Ex}{s:Str}{t m k:Nat}{xs:List Ex}{j:Nat}(h:k<R.size t):R.mrest f s t (m+1) k xs j=(R.branch f t (if t=1 then 1-k else k) true j).bind fun te j=>R.mrest f s t m (k+1) (xs.set (if t=1 then 1-k else k) te.2) j:=by
 unfold Rd.mrest
 rw[Rd.branches,if_neg (by omega)]
 cases R.branch f t (if t=1 then 1-k else k) true j <;> rfl
theorem st4{a b c d:Blk}{x y:List SV}(h:x=y):[a,b,c,d].set 3 (Blk.cells x)=[a,b,c,.cells y]:=by subst h;rfl
theorem zby{a b c:Blk}(ts:List T)(h:zad 4 [a,b,c]=true):zad 4 [a,b,c,.cells (ts.map .t)]=true:=by
 simp only[zad,Blk.under,zh6,qba]at*
 exact h
abbrev zE:List T:=[.v (.int .i64 0),.v (.int .i64 0),.v (.int .i64 0),.v (.int .i64 0),.v (str []),.v (.slice none 0 0)]
theorem zc2:∀(q:Nat) (c':T),(exC noE)[q]?=some c'->∃c,zE[q]?=some c/\Le (.t c) (.t c')
 | 0,_,h=>by cases h;exact⟨_,rfl,Le.refl _⟩
 | 1,_,h=>by cases h;exact⟨_,rfl,Le.refl _⟩
 | 2,_,h=>by cases h;exact⟨_,rfl,Le.refl _⟩
 | 3,_,h=>by cases h;exact⟨_,rfl,Le.refl _⟩
 | 4,_,h=>by cases h;exact⟨_,rfl,Le.refl _⟩
 | 5,_,h=>by cases h;exact⟨_,rfl,Le.nil _⟩
 | q+6,_,h=>by simp[exC]at h
theorem zbr(l:List Tok)(n:Int)(es:List En)(i:Nat)(ss:List Str)(hl:l.length≤1000000)(hi:i≤l.length)(hs:ss.length≤1000):RdS l n es 39 [.t (.sl 1 (ss.map T.s))] i ((rdr l es).must ss i) (.tup [])/\InR l.length (i+ss.length) ((rdr l es).must ss i):=by
 have h:=zaQ (R:=rdr l es) ss (i:=i) (by rw[zaf];exact hi)
 rw[zaf]at h
 exact⟨zb5 l n es i ss hl hi hs,h⟩
theorem znM(l:List Tok)(n:Int)(es:List En)(i:Nat)(hl:l.length≤1000000)(hi:i≤l.length)(he:EsOk es):
  RdS l n es 108 [] i ((rdr l es).aTag i) (.tup [.i ((((rdr l es).aTag i).vl (0,0)).1:Nat),.i ((((rdr l es).aTag i).vl (0,0)).2:Nat)])/\InR l.length (i+1) ((rdr l es).aTag i):=by
 have h:=zhx (R:=rdr l es) (i:=i) (by rw[zaf];exact hi)
 rw[zaf]at h
 exact⟨zfP l n es i hl hi he,h⟩
theorem zh8(l:List Tok)(n:Int)(es:List En)(i t v:Nat)(known:Bool)(hk:TkOk l)(hes:EsOk es)(hi:i≤l.length):
  RdS l n es 116 [.i t,.i v,.b known] i ((rdr l es).wanted t v known i) (.tup [])/\InR l.length i ((rdr l es).wanted t v known i):=by
 have h:=zja (R:=rdr l es) (t:=t) (v:=v) (known:=known) (i:=i) (by rw[zaf];exact hi)
 rw[zaf]at h
 exact⟨zjb l n es i t v known hk hes,h⟩
set_option maxHeartbeats 16000000 in
theorem ziI (l:List Tok) (n:Int) (es:List En) (hk:TkOk l) (hes:EsOk es):zoN l n es:=by
 intro f i hi hF
 have hl:=hk.len
 have q1:=zdT l n es i hl hi
 have hin:=zea (R:=rdr l es) (i:=i) (by rw[zaf];exact hi)
 rw[zaf]at hin
 generalize hr:(rdr l es).merge f i=r
 rw[zod]at hr
 refine Sound.err rfl (fun _=>rfl) ?_
 cases hq1:(rdr l es).id i with
 | er k c=>
   rw[hq1]at q1 hin hr
   have hc0:=hin.2
   replace q1:=q1.er
   simp only[PR.vl]at q1
   simp only[PR.bind]at hr
   refine so Tryz.func105 ?_
   repeat' (first|refine wkb ?_|refine wk ?_|refine we q1 ?_ ?_|exact wkc|intro hc|refine wk2 ?_ ?_|fail)
   exact rdP hr.symm hc0
 | ok s j0=>
 rw[hq1]at q1 hin hr
 replace q1:=q1.ok
 obtain⟨hj1,hj2⟩:=hin
 simp only[PR.vl]at q1
 simp only[PR.bind]at hr
 refine so Tryz.func105 ?_
 repeat' (first|refine wkb ?_|refine wk ?_|refine we q1 ?_ ?_|exact wkc|intro hc|refine wk2 ?_ ?_|fail)
 refine TR.zbd (ι:=Option (Nat×Nat×Nat×List Ex×Nat)) (fun|none=>(rdr l es).mA f s (if(rdr l es).isAt (j0+1) [116,114,117,101]=true then 1 else 0) j0=r|some (t,m,k,xs,j)=>j0≤j/\j≤l.length/\(rdr l es).size t-k≤m/\1≤k/\xs.length=(rdr l es).size t/\(t=1\/3≤t)/\t≤6000000/\(rdr l es).size t≤3000000/\(rdr l es).mrest f s t m k xs j=r)
  (fun|none=>6000000|some (t,m,k,xs,j)=>(rdr l es).size t-k)
  (fun|none=>[(0,.ref 0 0),(2,.ref 1 0),(3,.ref 2 0),(4,.i 1),(5,.i 0)]|some (t,m,k,xs,j)=>[(0,.ref 0 0),(2,.ref 1 0),(3,.ref 2 0),(4,.i ((rdr l es).size t:Nat)),(5,.i (k:Nat))])
  (fun|none=>[rdB l n es j0,exZ,mB 0 s (.t (.v (.slice none 0 0)))]|some (t,m,k,xs,j)=>[rdB l n es j,exZ,mB t s (.ms 6 3 0 ((rdr l es).size t)),.cells (zaM xs)]) none hr ⟨rfl,rfl,rfl,rfl,rfl,trivial⟩ rfl ?_
 clear hr q1 hq1
 rintro(_|⟨t,m,k,xs,j⟩) hI
 ·replace hr:(rdr l es).mA f s (if(rdr l es).isAt (j0+1) [116,114,117,101]=true then 1 else 0) j0=r:=hI
  clear hI
  show TR _ _ _ [(0,.ref 0 0),(2,.ref 1 0),(3,.ref 2 0),(4,.i 1),(5,.i 0)] [rdB l n es j0,exZ,mB 0 s (.t (.v (.slice none 0 0)))] _
  cases hb:(rdr l es).isAt (j0+1) [116,114,117,101] with
  | true=>
    have h1:=zaO l n es (j0+1) [116,114,117,101] hl
    rw[hb]at h1 hr
    rw[if_pos rfl]at hr
    unfold Rd.mA Rd.branch at hr
    obtain⟨m1,h2⟩:=zbr l n es j0 [[40]] hl hj2 (by decide)
    cases hq1:(rdr l es).must [[40]] j0 with
    | er ke c=>
      rw[hq1]at m1 h2 hr
      have hc0:=h2.2
      replace m1:=m1.er
      simp only[PR.bind]at hr
      refine wk ?_
      repeat' (first|refine wkt ?_|(apply TO.want;exact rfl)|(apply TO.zaI;(iterate 3 exact rfl);omega;omega)|refine zqn ?_|refine we m1 ?_ ?_|exact wkc|intro hc|refine wk2 ?_ ?_|fail)
      repeat' (first|refine zac.panic ?_|refine wk ?_|fail)
      first
       | exact rdP hr.symm hc0 rfl (zby _ rfl)
       | exact rdP hr.symm hc0
    | ok u1 j1=>
    rw[hq1]at m1 h2 hr
    obtain⟨h2a,h2b⟩:=h2
    replace m1:=m1.ok
    simp only[PR.bind]at hr
    have e1:=zbk hq1
    subst e1
    obtain⟨w1,hw⟩:=zh8 l n es (j0+1) 0 1 false hk hes h2b
    cases hq2:(rdr l es).wanted 0 1 false (j0+1) with
    | er ke c=>
      rw[hq2]at w1 hw hr
      have hc0:=hw.2
      replace w1:=w1.er
      simp only[PR.bind]at hr
      refine wk ?_
      repeat' (first|refine wkt ?_|(apply TO.want;exact rfl)|(apply TO.zaI;(iterate 3 exact rfl);omega;omega)|refine zqn ?_|refine we m1 ?_ ?_|refine wd h1 ?_|refine we w1 ?_ ?_|exact wkc|intro hc|refine wk2 ?_ ?_|fail)
      repeat' (first|refine zac.panic ?_|refine wk ?_|fail)
      first
       | exact rdP hr.symm hc0 rfl (zby _ rfl)
       | exact rdP hr.symm hc0
    | ok u2 jw=>
    rw[hq2]at w1 hw hr
    obtain⟨hwa,hwb⟩:=hw
    replace w1:=w1.ok
    simp only[PR.bind]at hr
    have e2:=zeV hq2
    subst e2
    obtain⟨a1,h3⟩:=znM l n es (j0+1) hl h2b hes
    cases hq3:(rdr l es).aTag (j0+1) with
    | er ke c=>
      rw[hq3]at a1 h3 hr
      have hc0:=h3.2
      replace a1:=a1.er
      simp only[PR.vl]at a1
      simp only[PR.bind]at hr
      refine wk ?_
      repeat' (first|refine wkt ?_|(apply TO.want;exact rfl)|(apply TO.zaI;(iterate 3 exact rfl);omega;omega)|refine zqn ?_|refine we m1 ?_ ?_|refine wd h1 ?_|refine we w1 ?_ ?_|refine we a1 ?_ ?_|exact wkc|intro hc|refine wk2 ?_ ?_|fail)
      repeat' (first|refine zac.panic ?_|refine wk ?_|fail)
      first
       | exact rdP hr.symm hc0 rfl (zby _ rfl)
       | exact rdP hr.symm hc0
    | ok tv j2=>
    rw[hq3]at a1 h3 hr
    obtain⟨h3a,h3b⟩:=h3
    replace a1:=a1.ok
    simp only[PR.vl]at a1
    simp only[PR.bind]at hr
    obtain⟨hty,hwS⟩:=zis (w:=1) hes (fun h=>by first|exact hb|exact absurd h (by decide)) (by decide) hq3
    have hSle:=size_le (l:=l) hes hty
    obtain⟨⟨hv1,hv2⟩,_⟩:=zd1 hes hq3
    obtain⟨t,v⟩:=tv
    simp only at hr a1 hty hwS hSle hv1 hv2
    rw[if_neg (fun h=>Bool.noConfusion h.1)]at hr
    have hsz:Pure Tryz.prog 72 [.t (.sl 2 (es.map enT)),.i (t:Int)] (.i (((rdr l es).size t:Nat):Int)):=by rw[<-zm8 hty];exact zdn es ⟨(t:Int),by omega⟩
    have hrl:(List.replicate ((rdr l es).size t) noE).length=(rdr l es).size t:=qbP
    obtain⟨m2,h4⟩:=zbr l n es j2 [[45,62]] hl h3b (by decide)
    cases hq4:(rdr l es).must [[45,62]] j2 with
    | er ke c=>
      rw[hq4]at m2 h4 hr
      have hc0:=h4.2
      replace m2:=m2.er
      simp only[PR.bind]at hr
      refine wk ?_
      repeat' (first|refine wkt ?_|(apply TO.want;exact rfl)|(apply TO.zaI;(iterate 3 exact rfl);omega;omega)|refine zqn ?_|refine we m1 ?_ ?_|refine wd h1 ?_|refine we w1 ?_ ?_|refine we a1 ?_ ?_|refine wv hsz ?_|refine we m2 ?_ ?_|exact wkc|intro hc|refine wk2 ?_ ?_|fail)
      (apply TO.makeSlice zaa;(iterate 7 exact rfl);omega;exact rfl)
      refine TO.ziC 3 (cs':=zaM (List.replicate ((rdr l es).size t) noE)) (H':=[rdB l n es j2,exZ,mB t s (.t (.v (.slice none 0 0))),.cells (zaM (List.replicate ((rdr l es).size t) noE))]) rfl (by rw[za1,zav,zav];rfl) (by rw[zav];show 0<_*6;omega) (by rw[za1];exact zbV (z:=zE) (z':=exC noE) rfl zc2 _) rfl ?_
      repeat' (first|refine wkt ?_|(apply TO.want;exact rfl)|(apply TO.zaI;(iterate 3 exact rfl);omega;omega)|refine zqn ?_|refine we m1 ?_ ?_|refine wd h1 ?_|refine we w1 ?_ ?_|refine we a1 ?_ ?_|refine wv hsz ?_|refine we m2 ?_ ?_|exact wkc|intro hc|refine wk2 ?_ ?_|fail)
      repeat' (first|refine zac.panic ?_|refine wk ?_|fail)
      first
       | exact rdP hr.symm hc0 rfl (zby _ rfl)
       | exact rdP hr.symm hc0
    | ok u4 j3=>
    rw[hq4]at m2 h4 hr
    obtain⟨h4a,h4b⟩:=h4
    replace m2:=m2.ok
    simp only[PR.bind]at hr
    obtain⟨hx,h5⟩:=hF j3 (by omega) h4b
    cases hq5:f j3 with
    | er ke c=>
      rw[hq5]at hx h5 hr
      have hc0:=h5.2
      replace hx:=hx.er
      simp only[PR.vl]at hx
      simp only[PR.bind]at hr
      refine wk ?_
      repeat' (first|refine wkt ?_|(apply TO.want;exact rfl)|(apply TO.zaI;(iterate 3 exact rfl);omega;omega)|refine zqn ?_|refine we m1 ?_ ?_|refine wd h1 ?_|refine we w1 ?_ ?_|refine we a1 ?_ ?_|refine wv hsz ?_|refine we m2 ?_ ?_|exact wkc|intro hc|refine wk2 ?_ ?_|fail)
      (apply TO.makeSlice zaa;(iterate 7 exact rfl);omega;exact rfl)
      refine TO.ziC 3 (cs':=zaM (List.replicate ((rdr l es).size t) noE)) (H':=[rdB l n es j2,exZ,mB t s (.t (.v (.slice none 0 0))),.cells (zaM (List.replicate ((rdr l es).size t) noE))]) rfl (by rw[za1,zav,zav];rfl) (by rw[zav];show 0<_*6;omega) (by rw[za1];exact zbV (z:=zE) (z':=exC noE) rfl zc2 _) rfl ?_
      repeat' (first|refine wkt ?_|(apply TO.want;exact rfl)|(apply TO.zaI;(iterate 3 exact rfl);omega;omega)|refine zqn ?_|refine we m1 ?_ ?_|refine wd h1 ?_|refine we w1 ?_ ?_|refine we a1 ?_ ?_|refine wv hsz ?_|refine we m2 ?_ ?_|exact wkc|intro hc|refine wk2 ?_ ?_|fail)
      refine rgX 4 (g:=False) [(.ref 2 5,0,1),((.ms 6 3 0 ((rdr l es).size t)),0,1),(.i (1:Nat),0,1),(.ref 0 0,0,1),(.t (.ag [T.n noE.kind,T.n noE.op,T.n noE.t,T.n noE.v,T.s noE.name,T.sl 6 (noE.args.map exT)]),1,0),(.ref 3 (0+1*6),0,1),(.any,1,0)] [[rdB l n es j3,exZ,mB t s (.ms 6 3 0 ((rdr l es).size t)),.cells (zaM (List.replicate ((rdr l es).size t) noE))],[rdB l n es j3,exZ,mB t s (.ms 6 3 0 ((rdr l es).size t)),.cells (zaM (List.replicate ((rdr l es).size t) noE))],[rdB l n es j3,exZ,mB t s (.ms 6 3 0 ((rdr l es).size t)),.cells (zaM ((List.replicate ((rdr l es).size t) noE).set 1 noE))]] ?_ (fun h=>h.elim)
      repeat' (first|refine wkt ?_|exact trivial|exact⟨⟨rfl,rfl⟩,trivial⟩|refine qai (fun env=>?_) ?_|refine qai ?_ ?_|refine we hx ?_ ?_|refine zqi ?_|(apply TO.store zaa;(iterate 6 exact rfl);exact leB;exact rfl;(show _+6≤(zaM _).length;rw[zbl];omega);exact st4 (zbm noE (List.replicate ((rdr l es).size t) noE) 1 (by omega)))|refine wk ?_|exact wkc|intro hc|refine wk2 ?_ ?_|fail)
      repeat' (first|refine zac.panic ?_|refine wk ?_|fail)
      first
       | exact rdP hr.symm hc0 rfl (zby _ rfl)
       | exact rdP hr.symm hc0
    | ok e j4=>
    rw[hq5]at hx h5 hr
    obtain⟨h5a,h5b⟩:=h5
    replace hx:=hx.ok
    simp only[PR.vl]at hx
    simp only[PR.bind]at hr
    rw[zao e]at hx
    unfold exC at hx
    obtain⟨m3,h6⟩:=zbr l n es j4 [[41]] hl h5b (by decide)
    cases hq6:(rdr l es).must [[41]] j4 with
    | er ke c=>
      rw[hq6]at m3 h6 hr
      have hc0:=h6.2
      replace m3:=m3.er
      simp only[PR.bind]at hr
      refine wk ?_
      repeat' (first|refine wkt ?_|(apply TO.want;exact rfl)|(apply TO.zaI;(iterate 3 exact rfl);omega;omega)|refine zqn ?_|refine we m1 ?_ ?_|refine wd h1 ?_|refine we w1 ?_ ?_|refine we a1 ?_ ?_|refine wv hsz ?_|refine we m2 ?_ ?_|exact wkc|intro hc|refine wk2 ?_ ?_|fail)
      (apply TO.makeSlice zaa;(iterate 7 exact rfl);omega;exact rfl)
      refine TO.ziC 3 (cs':=zaM (List.replicate ((rdr l es).size t) noE)) (H':=[rdB l n es j2,exZ,mB t s (.t (.v (.slice none 0 0))),.cells (zaM (List.replicate ((rdr l es).size t) noE))]) rfl (by rw[za1,zav,zav];rfl) (by rw[zav];show 0<_*6;omega) (by rw[za1];exact zbV (z:=zE) (z':=exC noE) rfl zc2 _) rfl ?_
      repeat' (first|refine wkt ?_|(apply TO.want;exact rfl)|(apply TO.zaI;(iterate 3 exact rfl);omega;omega)|refine zqn ?_|refine we m1 ?_ ?_|refine wd h1 ?_|refine we w1 ?_ ?_|refine we a1 ?_ ?_|refine wv hsz ?_|refine we m2 ?_ ?_|exact wkc|intro hc|refine wk2 ?_ ?_|fail)
      refine rgX 4 (g:=True) [(.ref 2 5,0,1),((.ms 6 3 0 ((rdr l es).size t)),0,1),(.i (1:Nat),0,1),(.ref 0 0,0,1),(.t (.ag [T.n e.kind,T.n e.op,T.n e.t,T.n e.v,T.s e.name,T.sl 6 (e.args.map exT)]),1,0),(.ref 3 (0+1*6),0,1),(.any,1,0)] [[rdB l n es j3,exZ,mB t s (.ms 6 3 0 ((rdr l es).size t)),.cells (zaM (List.replicate ((rdr l es).size t) noE))],[rdB l n es j4,exZ,mB t s (.ms 6 3 0 ((rdr l es).size t)),.cells (zaM (List.replicate ((rdr l es).size t) noE))],[rdB l n es j4,exZ,mB t s (.ms 6 3 0 ((rdr l es).size t)),.cells (zaM ((List.replicate ((rdr l es).size t) noE).set 1 e))]] ?_ (fun _=>?_)
      ·repeat' (first|refine wkt ?_|exact trivial|exact⟨⟨rfl,rfl⟩,trivial⟩|refine qai (fun env=>?_) ?_|refine qai ?_ ?_|refine we hx ?_ ?_|refine zqi ?_|(apply TO.store zaa;(iterate 6 exact rfl);exact leB;exact rfl;(show _+6≤(zaM _).length;rw[zbl];omega);exact st4 (zbm e (List.replicate ((rdr l es).size t) noE) 1 (by omega)))|refine wk ?_|exact wkc|intro hc|refine wk2 ?_ ?_|fail)
       done
      repeat' (first|refine wkt ?_|(apply TO.want;exact rfl)|(apply TO.zaI;(iterate 3 exact rfl);omega;omega)|refine zqn ?_|refine we m3 ?_ ?_|exact wkc|intro hc|refine wk2 ?_ ?_|fail)
      repeat' (first|refine zac.panic ?_|refine wk ?_|fail)
      first
       | exact rdP hr.symm hc0 rfl (zby _ rfl)
       | exact rdP hr.symm hc0
    | ok u6 j5=>
    rw[hq6]at m3 h6 hr
    obtain⟨h6a,h6b⟩:=h6
    replace m3:=m3.ok
    simp only[PR.bind]at hr
    refine wk ?_
    repeat' (first|refine wkt ?_|(apply TO.want;exact rfl)|(apply TO.zaI;(iterate 3 exact rfl);omega;omega)|refine zqn ?_|refine we m1 ?_ ?_|refine wd h1 ?_|refine we w1 ?_ ?_|refine we a1 ?_ ?_|refine wv hsz ?_|refine we m2 ?_ ?_|exact wkc|intro hc|refine wk2 ?_ ?_|fail)
    (apply TO.makeSlice zaa;(iterate 7 exact rfl);omega;exact rfl)
    refine TO.ziC 3 (cs':=zaM (List.replicate ((rdr l es).size t) noE)) (H':=[rdB l n es j2,exZ,mB t s (.t (.v (.slice none 0 0))),.cells (zaM (List.replicate ((rdr l es).size t) noE))]) rfl (by rw[za1,zav,zav];rfl) (by rw[zav];show 0<_*6;omega) (by rw[za1];exact zbV (z:=zE) (z':=exC noE) rfl zc2 _) rfl ?_
    repeat' (first|refine wkt ?_|(apply TO.want;exact rfl)|(apply TO.zaI;(iterate 3 exact rfl);omega;omega)|refine zqn ?_|refine we m1 ?_ ?_|refine wd h1 ?_|refine we w1 ?_ ?_|refine we a1 ?_ ?_|refine wv hsz ?_|refine we m2 ?_ ?_|exact wkc|intro hc|refine wk2 ?_ ?_|fail)
    refine rgX 4 (g:=True) [(.ref 2 5,0,1),((.ms 6 3 0 ((rdr l es).size t)),0,1),(.i (1:Nat),0,1),(.ref 0 0,0,1),(.t (.ag [T.n e.kind,T.n e.op,T.n e.t,T.n e.v,T.s e.name,T.sl 6 (e.args.map exT)]),1,0),(.ref 3 (0+1*6),0,1),(.any,1,0)] [[rdB l n es j3,exZ,mB t s (.ms 6 3 0 ((rdr l es).size t)),.cells (zaM (List.replicate ((rdr l es).size t) noE))],[rdB l n es j4,exZ,mB t s (.ms 6 3 0 ((rdr l es).size t)),.cells (zaM (List.replicate ((rdr l es).size t) noE))],[rdB l n es j4,exZ,mB t s (.ms 6 3 0 ((rdr l es).size t)),.cells (zaM ((List.replicate ((rdr l es).size t) noE).set 1 e))]] ?_ (fun _=>?_)
    ·repeat' (first|refine wkt ?_|exact trivial|exact⟨⟨rfl,rfl⟩,trivial⟩|refine qai (fun env=>?_) ?_|refine qai ?_ ?_|refine we hx ?_ ?_|refine zqi ?_|(apply TO.store zaa;(iterate 6 exact rfl);exact leB;exact rfl;(show _+6≤(zaM _).length;rw[zbl];omega);exact st4 (zbm e (List.replicate ((rdr l es).size t) noE) 1 (by omega)))|refine wk ?_|exact wkc|intro hc|refine wk2 ?_ ?_|fail)
     done
    repeat' (first|refine wkt ?_|(apply TO.want;exact rfl)|(apply TO.zaI;(iterate 3 exact rfl);omega;omega)|refine zqn ?_|refine we m3 ?_ ?_|exact wkc|intro hc|refine wk2 ?_ ?_|fail)
    have hI2:j0≤j5/\j5≤l.length/\(rdr l es).size t-1≤(rdr l es).size t/\1≤1/\((List.replicate ((rdr l es).size t) noE).set 1 e).length=(rdr l es).size t/\(t=1\/3≤t)/\t≤6000000/\(rdr l es).size t≤3000000/\(rdr l es).mrest f s t ((rdr l es).size t) 1 ((List.replicate ((rdr l es).size t) noE).set 1 e) j5=r:=⟨by omega,h6b,by omega,qae _,by rw[qbv,hrl],hty,by omega,hSle,hr⟩
    refine zac.next (some (t,(rdr l es).size t,1,(List.replicate ((rdr l es).size t) noE).set 1 e,j5)) ?_ ?_ ?_ ?_
    ·exact hI2
    ·show(rdr l es).size t-1<6000000;omega
    ·exact⟨rfl,rfl,rfl,rfl,rfl,trivial⟩
    ·exact rfl
  | false=>
    have h1:=zaO l n es (j0+1) [116,114,117,101] hl
    rw[hb]at h1 hr
    rw[if_neg (by decide)]at hr
    unfold Rd.mA Rd.branch at hr
    obtain⟨m1,h2⟩:=zbr l n es j0 [[40]] hl hj2 (by decide)
    cases hq1:(rdr l es).must [[40]] j0 with
    | er ke c=>
      rw[hq1]at m1 h2 hr
      have hc0:=h2.2
      replace m1:=m1.er
      simp only[PR.bind]at hr
      refine wk ?_
      repeat' (first|refine wkt ?_|(apply TO.want;exact rfl)|(apply TO.zaI;(iterate 3 exact rfl);omega;omega)|refine zqn ?_|refine we m1 ?_ ?_|exact wkc|intro hc|refine wk2 ?_ ?_|fail)
      repeat' (first|refine zac.panic ?_|refine wk ?_|fail)
      first
       | exact rdP hr.symm hc0 rfl (zby _ rfl)
       | exact rdP hr.symm hc0
    | ok u1 j1=>
    rw[hq1]at m1 h2 hr
    obtain⟨h2a,h2b⟩:=h2
    replace m1:=m1.ok
    simp only[PR.bind]at hr
    have e1:=zbk hq1
    subst e1
    obtain⟨w1,hw⟩:=zh8 l n es (j0+1) 0 0 false hk hes h2b
    cases hq2:(rdr l es).wanted 0 0 false (j0+1) with
    | er ke c=>
      rw[hq2]at w1 hw hr
      have hc0:=hw.2
      replace w1:=w1.er
      simp only[PR.bind]at hr
      refine wk ?_
      repeat' (first|refine wkt ?_|(apply TO.want;exact rfl)|(apply TO.zaI;(iterate 3 exact rfl);omega;omega)|refine zqn ?_|refine we m1 ?_ ?_|refine wd h1 ?_|refine we w1 ?_ ?_|exact wkc|intro hc|refine wk2 ?_ ?_|fail)
      repeat' (first|refine zac.panic ?_|refine wk ?_|fail)
      first
       | exact rdP hr.symm hc0 rfl (zby _ rfl)
       | exact rdP hr.symm hc0
    | ok u2 jw=>
    rw[hq2]at w1 hw hr
    obtain⟨hwa,hwb⟩:=hw
    replace w1:=w1.ok
    simp only[PR.bind]at hr
    have e2:=zeV hq2
    subst e2
    obtain⟨a1,h3⟩:=znM l n es (j0+1) hl h2b hes
    cases hq3:(rdr l es).aTag (j0+1) with
    | er ke c=>
      rw[hq3]at a1 h3 hr
      have hc0:=h3.2
      replace a1:=a1.er
      simp only[PR.vl]at a1
      simp only[PR.bind]at hr
      refine wk ?_
      repeat' (first|refine wkt ?_|(apply TO.want;exact rfl)|(apply TO.zaI;(iterate 3 exact rfl);omega;omega)|refine zqn ?_|refine we m1 ?_ ?_|refine wd h1 ?_|refine we w1 ?_ ?_|refine we a1 ?_ ?_|exact wkc|intro hc|refine wk2 ?_ ?_|fail)
      repeat' (first|refine zac.panic ?_|refine wk ?_|fail)
      first
       | exact rdP hr.symm hc0 rfl (zby _ rfl)
       | exact rdP hr.symm hc0
    | ok tv j2=>
    rw[hq3]at a1 h3 hr
    obtain⟨h3a,h3b⟩:=h3
    replace a1:=a1.ok
    simp only[PR.vl]at a1
    simp only[PR.bind]at hr
    obtain⟨hty,hwS⟩:=zis (w:=0) hes (fun h=>by first|exact hb|exact absurd h (by decide)) (by decide) hq3
    have hSle:=size_le (l:=l) hes hty
    obtain⟨⟨hv1,hv2⟩,_⟩:=zd1 hes hq3
    obtain⟨t,v⟩:=tv
    simp only at hr a1 hty hwS hSle hv1 hv2
    rw[if_neg (fun h=>Bool.noConfusion h.1)]at hr
    have hsz:Pure Tryz.prog 72 [.t (.sl 2 (es.map enT)),.i (t:Int)] (.i (((rdr l es).size t:Nat):Int)):=by rw[<-zm8 hty];exact zdn es ⟨(t:Int),by omega⟩
    have hrl:(List.replicate ((rdr l es).size t) noE).length=(rdr l es).size t:=qbP
    obtain⟨m2,h4⟩:=zbr l n es j2 [[45,62]] hl h3b (by decide)
    cases hq4:(rdr l es).must [[45,62]] j2 with
    | er ke c=>
      rw[hq4]at m2 h4 hr
      have hc0:=h4.2
      replace m2:=m2.er
      simp only[PR.bind]at hr
      refine wk ?_
      repeat' (first|refine wkt ?_|(apply TO.want;exact rfl)|(apply TO.zaI;(iterate 3 exact rfl);omega;omega)|refine zqn ?_|refine we m1 ?_ ?_|refine wd h1 ?_|refine we w1 ?_ ?_|refine we a1 ?_ ?_|refine wv hsz ?_|refine we m2 ?_ ?_|exact wkc|intro hc|refine wk2 ?_ ?_|fail)
      (apply TO.makeSlice zaa;(iterate 7 exact rfl);omega;exact rfl)
      refine TO.ziC 3 (cs':=zaM (List.replicate ((rdr l es).size t) noE)) (H':=[rdB l n es j2,exZ,mB t s (.t (.v (.slice none 0 0))),.cells (zaM (List.replicate ((rdr l es).size t) noE))]) rfl (by rw[za1,zav,zav];rfl) (by rw[zav];show 0<_*6;omega) (by rw[za1];exact zbV (z:=zE) (z':=exC noE) rfl zc2 _) rfl ?_
      repeat' (first|refine wkt ?_|(apply TO.want;exact rfl)|(apply TO.zaI;(iterate 3 exact rfl);omega;omega)|refine zqn ?_|refine we m1 ?_ ?_|refine wd h1 ?_|refine we w1 ?_ ?_|refine we a1 ?_ ?_|refine wv hsz ?_|refine we m2 ?_ ?_|exact wkc|intro hc|refine wk2 ?_ ?_|fail)
      repeat' (first|refine zac.panic ?_|refine wk ?_|fail)
      first
       | exact rdP hr.symm hc0 rfl (zby _ rfl)
       | exact rdP hr.symm hc0
    | ok u4 j3=>
    rw[hq4]at m2 h4 hr
    obtain⟨h4a,h4b⟩:=h4
    replace m2:=m2.ok
    simp only[PR.bind]at hr
    obtain⟨hx,h5⟩:=hF j3 (by omega) h4b
    cases hq5:f j3 with
    | er ke c=>
      rw[hq5]at hx h5 hr
      have hc0:=h5.2
      replace hx:=hx.er
      simp only[PR.vl]at hx
      simp only[PR.bind]at hr
      refine wk ?_
      repeat' (first|refine wkt ?_|(apply TO.want;exact rfl)|(apply TO.zaI;(iterate 3 exact rfl);omega;omega)|refine zqn ?_|refine we m1 ?_ ?_|refine wd h1 ?_|refine we w1 ?_ ?_|refine we a1 ?_ ?_|refine wv hsz ?_|refine we m2 ?_ ?_|exact wkc|intro hc|refine wk2 ?_ ?_|fail)
      (apply TO.makeSlice zaa;(iterate 7 exact rfl);omega;exact rfl)
      refine TO.ziC 3 (cs':=zaM (List.replicate ((rdr l es).size t) noE)) (H':=[rdB l n es j2,exZ,mB t s (.t (.v (.slice none 0 0))),.cells (zaM (List.replicate ((rdr l es).size t) noE))]) rfl (by rw[za1,zav,zav];rfl) (by rw[zav];show 0<_*6;omega) (by rw[za1];exact zbV (z:=zE) (z':=exC noE) rfl zc2 _) rfl ?_
      repeat' (first|refine wkt ?_|(apply TO.want;exact rfl)|(apply TO.zaI;(iterate 3 exact rfl);omega;omega)|refine zqn ?_|refine we m1 ?_ ?_|refine wd h1 ?_|refine we w1 ?_ ?_|refine we a1 ?_ ?_|refine wv hsz ?_|refine we m2 ?_ ?_|exact wkc|intro hc|refine wk2 ?_ ?_|fail)
      refine rgX 4 (g:=False) [(.ref 2 5,0,1),((.ms 6 3 0 ((rdr l es).size t)),0,1),(.i (0:Nat),0,1),(.ref 0 0,0,1),(.t (.ag [T.n noE.kind,T.n noE.op,T.n noE.t,T.n noE.v,T.s noE.name,T.sl 6 (noE.args.map exT)]),1,0),(.ref 3 (0+0*6),0,1),(.any,1,0)] [[rdB l n es j3,exZ,mB t s (.ms 6 3 0 ((rdr l es).size t)),.cells (zaM (List.replicate ((rdr l es).size t) noE))],[rdB l n es j3,exZ,mB t s (.ms 6 3 0 ((rdr l es).size t)),.cells (zaM (List.replicate ((rdr l es).size t) noE))],[rdB l n es j3,exZ,mB t s (.ms 6 3 0 ((rdr l es).size t)),.cells (zaM ((List.replicate ((rdr l es).size t) noE).set 0 noE))]] ?_ (fun h=>h.elim)
      repeat' (first|refine wkt ?_|exact trivial|exact⟨⟨rfl,rfl⟩,trivial⟩|refine qai (fun env=>?_) ?_|refine qai ?_ ?_|refine we hx ?_ ?_|refine zqi ?_|(apply TO.store zaa;(iterate 6 exact rfl);exact leB;exact rfl;(show _+6≤(zaM _).length;rw[zbl];omega);exact st4 (zbm noE (List.replicate ((rdr l es).size t) noE) 0 (by omega)))|refine wk ?_|exact wkc|intro hc|refine wk2 ?_ ?_|fail)
      repeat' (first|refine zac.panic ?_|refine wk ?_|fail)
      first
       | exact rdP hr.symm hc0 rfl (zby _ rfl)
       | exact rdP hr.symm hc0
    | ok e j4=>
    rw[hq5]at hx h5 hr
    obtain⟨h5a,h5b⟩:=h5
    replace hx:=hx.ok
    simp only[PR.vl]at hx
    simp only[PR.bind]at hr
    rw[zao e]at hx
    unfold exC at hx
    obtain⟨m3,h6⟩:=zbr l n es j4 [[41]] hl h5b (by decide)
    cases hq6:(rdr l es).must [[41]] j4 with
    | er ke c=>
      rw[hq6]at m3 h6 hr
      have hc0:=h6.2
      replace m3:=m3.er
      simp only[PR.bind]at hr
      refine wk ?_
      repeat' (first|refine wkt ?_|(apply TO.want;exact rfl)|(apply TO.zaI;(iterate 3 exact rfl);omega;omega)|refine zqn ?_|refine we m1 ?_ ?_|refine wd h1 ?_|refine we w1 ?_ ?_|refine we a1 ?_ ?_|refine wv hsz ?_|refine we m2 ?_ ?_|exact wkc|intro hc|refine wk2 ?_ ?_|fail)
      (apply TO.makeSlice zaa;(iterate 7 exact rfl);omega;exact rfl)
      refine TO.ziC 3 (cs':=zaM (List.replicate ((rdr l es).size t) noE)) (H':=[rdB l n es j2,exZ,mB t s (.t (.v (.slice none 0 0))),.cells (zaM (List.replicate ((rdr l es).size t) noE))]) rfl (by rw[za1,zav,zav];rfl) (by rw[zav];show 0<_*6;omega) (by rw[za1];exact zbV (z:=zE) (z':=exC noE) rfl zc2 _) rfl ?_
      repeat' (first|refine wkt ?_|(apply TO.want;exact rfl)|(apply TO.zaI;(iterate 3 exact rfl);omega;omega)|refine zqn ?_|refine we m1 ?_ ?_|refine wd h1 ?_|refine we w1 ?_ ?_|refine we a1 ?_ ?_|refine wv hsz ?_|refine we m2 ?_ ?_|exact wkc|intro hc|refine wk2 ?_ ?_|fail)
      refine rgX 4 (g:=True) [(.ref 2 5,0,1),((.ms 6 3 0 ((rdr l es).size t)),0,1),(.i (0:Nat),0,1),(.ref 0 0,0,1),(.t (.ag [T.n e.kind,T.n e.op,T.n e.t,T.n e.v,T.s e.name,T.sl 6 (e.args.map exT)]),1,0),(.ref 3 (0+0*6),0,1),(.any,1,0)] [[rdB l n es j3,exZ,mB t s (.ms 6 3 0 ((rdr l es).size t)),.cells (zaM (List.replicate ((rdr l es).size t) noE))],[rdB l n es j4,exZ,mB t s (.ms 6 3 0 ((rdr l es).size t)),.cells (zaM (List.replicate ((rdr l es).size t) noE))],[rdB l n es j4,exZ,mB t s (.ms 6 3 0 ((rdr l es).size t)),.cells (zaM ((List.replicate ((rdr l es).size t) noE).set 0 e))]] ?_ (fun _=>?_)
      ·repeat' (first|refine wkt ?_|exact trivial|exact⟨⟨rfl,rfl⟩,trivial⟩|refine qai (fun env=>?_) ?_|refine qai ?_ ?_|refine we hx ?_ ?_|refine zqi ?_|(apply TO.store zaa;(iterate 6 exact rfl);exact leB;exact rfl;(show _+6≤(zaM _).length;rw[zbl];omega);exact st4 (zbm e (List.replicate ((rdr l es).size t) noE) 0 (by omega)))|refine wk ?_|exact wkc|intro hc|refine wk2 ?_ ?_|fail)
       done
      repeat' (first|refine wkt ?_|(apply TO.want;exact rfl)|(apply TO.zaI;(iterate 3 exact rfl);omega;omega)|refine zqn ?_|refine we m3 ?_ ?_|exact wkc|intro hc|refine wk2 ?_ ?_|fail)
      repeat' (first|refine zac.panic ?_|refine wk ?_|fail)
      first
       | exact rdP hr.symm hc0 rfl (zby _ rfl)
       | exact rdP hr.symm hc0
    | ok u6 j5=>
    rw[hq6]at m3 h6 hr
    obtain⟨h6a,h6b⟩:=h6
    replace m3:=m3.ok
    simp only[PR.bind]at hr
    refine wk ?_
    repeat' (first|refine wkt ?_|(apply TO.want;exact rfl)|(apply TO.zaI;(iterate 3 exact rfl);omega;omega)|refine zqn ?_|refine we m1 ?_ ?_|refine wd h1 ?_|refine we w1 ?_ ?_|refine we a1 ?_ ?_|refine wv hsz ?_|refine we m2 ?_ ?_|exact wkc|intro hc|refine wk2 ?_ ?_|fail)
    (apply TO.makeSlice zaa;(iterate 7 exact rfl);omega;exact rfl)
    refine TO.ziC 3 (cs':=zaM (List.replicate ((rdr l es).size t) noE)) (H':=[rdB l n es j2,exZ,mB t s (.t (.v (.slice none 0 0))),.cells (zaM (List.replicate ((rdr l es).size t) noE))]) rfl (by rw[za1,zav,zav];rfl) (by rw[zav];show 0<_*6;omega) (by rw[za1];exact zbV (z:=zE) (z':=exC noE) rfl zc2 _) rfl ?_
    repeat' (first|refine wkt ?_|(apply TO.want;exact rfl)|(apply TO.zaI;(iterate 3 exact rfl);omega;omega)|refine zqn ?_|refine we m1 ?_ ?_|refine wd h1 ?_|refine we w1 ?_ ?_|refine we a1 ?_ ?_|refine wv hsz ?_|refine we m2 ?_ ?_|exact wkc|intro hc|refine wk2 ?_ ?_|fail)
    refine rgX 4 (g:=True) [(.ref 2 5,0,1),((.ms 6 3 0 ((rdr l es).size t)),0,1),(.i (0:Nat),0,1),(.ref 0 0,0,1),(.t (.ag [T.n e.kind,T.n e.op,T.n e.t,T.n e.v,T.s e.name,T.sl 6 (e.args.map exT)]),1,0),(.ref 3 (0+0*6),0,1),(.any,1,0)] [[rdB l n es j3,exZ,mB t s (.ms 6 3 0 ((rdr l es).size t)),.cells (zaM (List.replicate ((rdr l es).size t) noE))],[rdB l n es j4,exZ,mB t s (.ms 6 3 0 ((rdr l es).size t)),.cells (zaM (List.replicate ((rdr l es).size t) noE))],[rdB l n es j4,exZ,mB t s (.ms 6 3 0 ((rdr l es).size t)),.cells (zaM ((List.replicate ((rdr l es).size t) noE).set 0 e))]] ?_ (fun _=>?_)
    ·repeat' (first|refine wkt ?_|exact trivial|exact⟨⟨rfl,rfl⟩,trivial⟩|refine qai (fun env=>?_) ?_|refine qai ?_ ?_|refine we hx ?_ ?_|refine zqi ?_|(apply TO.store zaa;(iterate 6 exact rfl);exact leB;exact rfl;(show _+6≤(zaM _).length;rw[zbl];omega);exact st4 (zbm e (List.replicate ((rdr l es).size t) noE) 0 (by omega)))|refine wk ?_|exact wkc|intro hc|refine wk2 ?_ ?_|fail)
     done
    repeat' (first|refine wkt ?_|(apply TO.want;exact rfl)|(apply TO.zaI;(iterate 3 exact rfl);omega;omega)|refine zqn ?_|refine we m3 ?_ ?_|exact wkc|intro hc|refine wk2 ?_ ?_|fail)
    have hI2:j0≤j5/\j5≤l.length/\(rdr l es).size t-1≤(rdr l es).size t/\1≤1/\((List.replicate ((rdr l es).size t) noE).set 0 e).length=(rdr l es).size t/\(t=1\/3≤t)/\t≤6000000/\(rdr l es).size t≤3000000/\(rdr l es).mrest f s t ((rdr l es).size t) 1 ((List.replicate ((rdr l es).size t) noE).set 0 e) j5=r:=⟨by omega,h6b,by omega,qae _,by rw[qbv,hrl],hty,by omega,hSle,hr⟩
    refine zac.next (some (t,(rdr l es).size t,1,(List.replicate ((rdr l es).size t) noE).set 0 e,j5)) ?_ ?_ ?_ ?_
    ·exact hI2
    ·show(rdr l es).size t-1<6000000;omega
    ·exact⟨rfl,rfl,rfl,rfl,rfl,trivial⟩
    ·exact rfl
 ·obtain⟨q1,q2,q3,q4,q5,q6,q7,q8,hr⟩:=hI
  show TR _ _ _ [(0,.ref 0 0),(2,.ref 1 0),(3,.ref 2 0),(4,.i ((rdr l es).size t:Nat)),(5,.i (k:Nat))] [rdB l n es j,exZ,mB t s (.ms 6 3 0 ((rdr l es).size t)),.cells (zaM xs)] _
  by_cases hks:(rdr l es).size t≤k
  ·rw[zmR hks]at hr
   have hml:(xs.map exT).length=(rdr l es).size t:=by rw[qad,q5]
   iterate 3 (first|(apply TR.go zaa 0 false;exact rfl;(first|apply GG.to|apply GG.stop|apply GG.tr0|apply GG.tr|apply GG.ex))|(apply TR.go0 zaa 0 false;exact rfl;(first|apply GG.to|apply GG.stop|apply GG.tr0|apply GG.tr|apply GG.ex)))
   refine TO.zmH 2 5 6 3 ((rdr l es).size t) (es:=xs.map exT) (H':=[rdB l n es j,exZ,mB t s (.t (.sl 6 (xs.map exT))),.dead]) rfl rfl rfl rfl (by rw[zbl,hml];omega) (fun j c hj=>hj) hml.symm (fun e he=>by obtain⟨a,_,rfl⟩:=qa2.1 he;rw[zao];rfl) rfl rfl ?_
   repeat' (first|refine wkt ?_|refine zac.exit ?_|exact wkc|intro hc|refine wk2 ?_ ?_|refine wk ?_|fail)
   subst hr
   apply rdV rfl
   ·exact rfl
   ·rw[vlE,zbG _ _ _ _ _ _ rfl rfl (zci (by omega)) rfl]
    exact zqa
   all_goals exact rfl
  ·cases m with
   | zero=>exfalso;omega
   | succ m=>
   rw[zlG (by omega)]at hr
   by_cases ht1:t=1
   ·subst ht1
    have hS:(rdr l es).size 1=2:=rfl
    obtain rfl:k=1:=by omega
    rw[if_pos rfl]at hr
    replace hr:((rdr l es).branch f 1 0 true j).bind (fun te j=>(rdr l es).mrest f s 1 m (1+1) (xs.set 0 te.2) j)=r:=hr
    unfold Rd.branch at hr
    obtain⟨m1,h2⟩:=zbr l n es j [[40]] hl q2 (by decide)
    cases hq1:(rdr l es).must [[40]] j with
    | er ke c=>
      rw[hq1]at m1 h2 hr
      have hc0:=h2.2
      replace m1:=m1.er
      simp only[PR.bind]at hr
      refine wk ?_
      repeat' (first|refine wkt ?_|(apply TO.want;exact rfl)|(apply TO.zaI;(iterate 3 exact rfl);omega;omega)|refine zqn ?_|refine we m1 ?_ ?_|exact wkc|intro hc|refine wk2 ?_ ?_|fail)
      repeat' (first|refine zac.panic ?_|refine wk ?_|fail)
      first
       | exact rdP hr.symm hc0 rfl (zby _ rfl)
       | exact rdP hr.symm hc0
    | ok u1 j1=>
    rw[hq1]at m1 h2 hr
    obtain⟨h2a,h2b⟩:=h2
    replace m1:=m1.ok
    simp only[PR.bind]at hr
    have e1:=zbk hq1
    subst e1
    obtain⟨w1,hw⟩:=zh8 l n es (j+1) 1 0 true hk hes h2b
    cases hq2:(rdr l es).wanted 1 0 true (j+1) with
    | er ke c=>
      rw[hq2]at w1 hw hr
      have hc0:=hw.2
      replace w1:=w1.er
      simp only[PR.bind]at hr
      refine wk ?_
      repeat' (first|refine wkt ?_|(apply TO.want;exact rfl)|(apply TO.zaI;(iterate 3 exact rfl);omega;omega)|refine zqn ?_|refine we m1 ?_ ?_|refine we w1 ?_ ?_|exact wkc|intro hc|refine wk2 ?_ ?_|fail)
      repeat' (first|refine zac.panic ?_|refine wk ?_|fail)
      first
       | exact rdP hr.symm hc0 rfl (zby _ rfl)
       | exact rdP hr.symm hc0
    | ok u2 jw=>
    rw[hq2]at w1 hw hr
    obtain⟨hwa,hwb⟩:=hw
    replace w1:=w1.ok
    simp only[PR.bind]at hr
    have e2:=zeV hq2
    subst e2
    obtain⟨a1,h3⟩:=znM l n es (j+1) hl h2b hes
    cases hq3:(rdr l es).aTag (j+1) with
    | er ke c=>
      rw[hq3]at a1 h3 hr
      have hc0:=h3.2
      replace a1:=a1.er
      simp only[PR.vl]at a1
      simp only[PR.bind]at hr
      refine wk ?_
      repeat' (first|refine wkt ?_|(apply TO.want;exact rfl)|(apply TO.zaI;(iterate 3 exact rfl);omega;omega)|refine zqn ?_|refine we m1 ?_ ?_|refine we w1 ?_ ?_|refine we a1 ?_ ?_|exact wkc|intro hc|refine wk2 ?_ ?_|fail)
      repeat' (first|refine zac.panic ?_|refine wk ?_|fail)
      first
       | exact rdP hr.symm hc0 rfl (zby _ rfl)
       | exact rdP hr.symm hc0
    | ok tv j2=>
    rw[hq3]at a1 h3 hr
    obtain⟨h3a,h3b⟩:=h3
    replace a1:=a1.ok
    simp only[PR.vl]at a1
    simp only[PR.bind]at hr
    obtain⟨⟨hv1,hv2⟩,_⟩:=zd1 hes hq3
    obtain⟨t2,v⟩:=tv
    simp only at hr a1 hv1 hv2
    by_cases ht2:t2=1
    rotate_left
    ·exact zwk
    subst ht2
    rw[if_neg (by simp)]at hr
    obtain⟨m2,h4⟩:=zbr l n es j2 [[45,62]] hl h3b (by decide)
    cases hq4:(rdr l es).must [[45,62]] j2 with
    | er ke c=>
      rw[hq4]at m2 h4 hr
      have hc0:=h4.2
      replace m2:=m2.er
      simp only[PR.bind]at hr
      refine wk ?_
      repeat' (first|refine wkt ?_|(apply TO.want;exact rfl)|(apply TO.zaI;(iterate 3 exact rfl);omega;omega)|refine zqn ?_|refine we m1 ?_ ?_|refine we w1 ?_ ?_|refine we a1 ?_ ?_|refine we m2 ?_ ?_|exact wkc|intro hc|refine wk2 ?_ ?_|fail)
      repeat' (first|refine zac.panic ?_|refine wk ?_|fail)
      first
       | exact rdP hr.symm hc0 rfl (zby _ rfl)
       | exact rdP hr.symm hc0
    | ok u4 j3=>
    rw[hq4]at m2 h4 hr
    obtain⟨h4a,h4b⟩:=h4
    replace m2:=m2.ok
    simp only[PR.bind]at hr
    obtain⟨hx,h5⟩:=hF j3 (by omega) h4b
    cases hq5:f j3 with
    | er ke c=>
      rw[hq5]at hx h5 hr
      have hc0:=h5.2
      replace hx:=hx.er
      simp only[PR.vl]at hx
      simp only[PR.bind]at hr
      refine wk ?_
      repeat' (first|refine wkt ?_|(apply TO.want;exact rfl)|(apply TO.zaI;(iterate 3 exact rfl);omega;omega)|refine zqn ?_|refine we m1 ?_ ?_|refine we w1 ?_ ?_|refine we a1 ?_ ?_|refine we m2 ?_ ?_|exact wkc|intro hc|refine wk2 ?_ ?_|fail)
      refine rgX 4 (g:=False) [(.ref 2 5,0,1),((.ms 6 3 0 ((rdr l es).size 1)),0,1),(.i (0:Nat),0,1),(.ref 0 0,0,1),(.t (.ag [T.n noE.kind,T.n noE.op,T.n noE.t,T.n noE.v,T.s noE.name,T.sl 6 (noE.args.map exT)]),1,0),(.ref 3 (0+0*6),0,1),(.any,1,0)] [[rdB l n es j3,exZ,mB (1:Nat) s (.ms 6 3 0 ((rdr l es).size 1)),.cells (zaM xs)],[rdB l n es j3,exZ,mB (1:Nat) s (.ms 6 3 0 ((rdr l es).size 1)),.cells (zaM xs)],[rdB l n es j3,exZ,mB (1:Nat) s (.ms 6 3 0 ((rdr l es).size 1)),.cells (zaM (xs.set 0 noE))]] ?_ (fun h=>h.elim)
      repeat' (first|refine wkt ?_|exact trivial|exact⟨⟨rfl,rfl⟩,trivial⟩|refine qai (fun env=>?_) ?_|refine qai ?_ ?_|refine we hx ?_ ?_|refine zqi ?_|(apply TO.store zaa;(iterate 6 exact rfl);exact leB;exact rfl;(show _+6≤(zaM _).length;rw[zbl];omega);exact st4 (zbm noE xs 0 (by omega)))|refine wk ?_|exact wkc|intro hc|refine wk2 ?_ ?_|fail)
      repeat' (first|refine zac.panic ?_|refine wk ?_|fail)
      first
       | exact rdP hr.symm hc0 rfl (zby _ rfl)
       | exact rdP hr.symm hc0
    | ok e j4=>
    rw[hq5]at hx h5 hr
    obtain⟨h5a,h5b⟩:=h5
    replace hx:=hx.ok
    simp only[PR.vl]at hx
    simp only[PR.bind]at hr
    rw[zao e]at hx
    unfold exC at hx
    obtain⟨m3,h6⟩:=zbr l n es j4 [[41]] hl h5b (by decide)
    cases hq6:(rdr l es).must [[41]] j4 with
    | er ke c=>
      rw[hq6]at m3 h6 hr
      have hc0:=h6.2
      replace m3:=m3.er
      simp only[PR.bind]at hr
      refine wk ?_
      repeat' (first|refine wkt ?_|(apply TO.want;exact rfl)|(apply TO.zaI;(iterate 3 exact rfl);omega;omega)|refine zqn ?_|refine we m1 ?_ ?_|refine we w1 ?_ ?_|refine we a1 ?_ ?_|refine we m2 ?_ ?_|exact wkc|intro hc|refine wk2 ?_ ?_|fail)
      refine rgX 4 (g:=True) [(.ref 2 5,0,1),((.ms 6 3 0 ((rdr l es).size 1)),0,1),(.i (0:Nat),0,1),(.ref 0 0,0,1),(.t (.ag [T.n e.kind,T.n e.op,T.n e.t,T.n e.v,T.s e.name,T.sl 6 (e.args.map exT)]),1,0),(.ref 3 (0+0*6),0,1),(.any,1,0)] [[rdB l n es j3,exZ,mB (1:Nat) s (.ms 6 3 0 ((rdr l es).size 1)),.cells (zaM xs)],[rdB l n es j4,exZ,mB (1:Nat) s (.ms 6 3 0 ((rdr l es).size 1)),.cells (zaM xs)],[rdB l n es j4,exZ,mB (1:Nat) s (.ms 6 3 0 ((rdr l es).size 1)),.cells (zaM (xs.set 0 e))]] ?_ (fun _=>?_)
      ·repeat' (first|refine wkt ?_|exact trivial|exact⟨⟨rfl,rfl⟩,trivial⟩|refine qai (fun env=>?_) ?_|refine qai ?_ ?_|refine we hx ?_ ?_|refine zqi ?_|(apply TO.store zaa;(iterate 6 exact rfl);exact leB;exact rfl;(show _+6≤(zaM _).length;rw[zbl];omega);exact st4 (zbm e xs 0 (by omega)))|refine wk ?_|exact wkc|intro hc|refine wk2 ?_ ?_|fail)
       done
      repeat' (first|refine wkt ?_|(apply TO.want;exact rfl)|(apply TO.zaI;(iterate 3 exact rfl);omega;omega)|refine zqn ?_|refine we m3 ?_ ?_|exact wkc|intro hc|refine wk2 ?_ ?_|fail)
      repeat' (first|refine zac.panic ?_|refine wk ?_|fail)
      first
       | exact rdP hr.symm hc0 rfl (zby _ rfl)
       | exact rdP hr.symm hc0
    | ok u6 j5=>
    rw[hq6]at m3 h6 hr
    obtain⟨h6a,h6b⟩:=h6
    replace m3:=m3.ok
    simp only[PR.bind]at hr
    refine wk ?_
    repeat' (first|refine wkt ?_|(apply TO.want;exact rfl)|(apply TO.zaI;(iterate 3 exact rfl);omega;omega)|refine zqn ?_|refine we m1 ?_ ?_|refine we w1 ?_ ?_|refine we a1 ?_ ?_|refine we m2 ?_ ?_|exact wkc|intro hc|refine wk2 ?_ ?_|fail)
    refine rgX 4 (g:=True) [(.ref 2 5,0,1),((.ms 6 3 0 ((rdr l es).size 1)),0,1),(.i (0:Nat),0,1),(.ref 0 0,0,1),(.t (.ag [T.n e.kind,T.n e.op,T.n e.t,T.n e.v,T.s e.name,T.sl 6 (e.args.map exT)]),1,0),(.ref 3 (0+0*6),0,1),(.any,1,0)] [[rdB l n es j3,exZ,mB (1:Nat) s (.ms 6 3 0 ((rdr l es).size 1)),.cells (zaM xs)],[rdB l n es j4,exZ,mB (1:Nat) s (.ms 6 3 0 ((rdr l es).size 1)),.cells (zaM xs)],[rdB l n es j4,exZ,mB (1:Nat) s (.ms 6 3 0 ((rdr l es).size 1)),.cells (zaM (xs.set 0 e))]] ?_ (fun _=>?_)
    ·repeat' (first|refine wkt ?_|exact trivial|exact⟨⟨rfl,rfl⟩,trivial⟩|refine qai (fun env=>?_) ?_|refine qai ?_ ?_|refine we hx ?_ ?_|refine zqi ?_|(apply TO.store zaa;(iterate 6 exact rfl);exact leB;exact rfl;(show _+6≤(zaM _).length;rw[zbl];omega);exact st4 (zbm e xs 0 (by omega)))|refine wk ?_|exact wkc|intro hc|refine wk2 ?_ ?_|fail)
     done
    repeat' (first|refine wkt ?_|(apply TO.want;exact rfl)|(apply TO.zaI;(iterate 3 exact rfl);omega;omega)|refine zqn ?_|refine we m3 ?_ ?_|exact wkc|intro hc|refine wk2 ?_ ?_|fail)
    have hI2:j0≤j5/\j5≤l.length/\(rdr l es).size 1-(1+1)≤m/\1≤1+1/\(xs.set 0 e).length=(rdr l es).size 1/\(1=1\/3≤1)/\1≤6000000/\(rdr l es).size 1≤3000000/\(rdr l es).mrest f s 1 m (1+1) (xs.set 0 e) j5=r:=⟨by omega,h6b,by omega,by omega,by rw[qbv];exact q5,q6,by omega,q8,hr⟩
    refine zac.next (some (1,m,1+1,xs.set 0 e,j5)) ?_ ?_ ?_ ?_
    ·exact hI2
    ·show(rdr l es).size 1-(1+1)<(rdr l es).size 1-1;omega
    ·exact⟨rfl,rfl,rfl,rfl,rfl,trivial⟩
    ·exact rfl
   ·rw[if_neg ht1]at hr
    unfold Rd.branch at hr
    obtain⟨m1,h2⟩:=zbr l n es j [[40]] hl q2 (by decide)
    cases hq1:(rdr l es).must [[40]] j with
    | er ke c=>
      rw[hq1]at m1 h2 hr
      have hc0:=h2.2
      replace m1:=m1.er
      simp only[PR.bind]at hr
      refine wk ?_
      repeat' (first|refine wkt ?_|(apply TO.want;exact rfl)|(apply TO.zaI;(iterate 3 exact rfl);omega;omega)|refine zqn ?_|refine we m1 ?_ ?_|exact wkc|intro hc|refine wk2 ?_ ?_|fail)
      repeat' (first|refine zac.panic ?_|refine wk ?_|fail)
      first
       | exact rdP hr.symm hc0 rfl (zby _ rfl)
       | exact rdP hr.symm hc0
    | ok u1 j1=>
    rw[hq1]at m1 h2 hr
    obtain⟨h2a,h2b⟩:=h2
    replace m1:=m1.ok
    simp only[PR.bind]at hr
    have e1:=zbk hq1
    subst e1
    obtain⟨w1,hw⟩:=zh8 l n es (j+1) t k true hk hes h2b
    cases hq2:(rdr l es).wanted t k true (j+1) with
    | er ke c=>
      rw[hq2]at w1 hw hr
      have hc0:=hw.2
      replace w1:=w1.er
      simp only[PR.bind]at hr
      refine wk ?_
      repeat' (first|refine wkt ?_|(apply TO.want;exact rfl)|(apply TO.zaI;(iterate 3 exact rfl);omega;omega)|refine zqn ?_|refine we m1 ?_ ?_|refine we w1 ?_ ?_|exact wkc|intro hc|refine wk2 ?_ ?_|fail)
      repeat' (first|refine zac.panic ?_|refine wk ?_|fail)
      first
       | exact rdP hr.symm hc0 rfl (zby _ rfl)
       | exact rdP hr.symm hc0
    | ok u2 jw=>
    rw[hq2]at w1 hw hr
    obtain⟨hwa,hwb⟩:=hw
    replace w1:=w1.ok
    simp only[PR.bind]at hr
    have e2:=zeV hq2
    subst e2
    obtain⟨a1,h3⟩:=znM l n es (j+1) hl h2b hes
    cases hq3:(rdr l es).aTag (j+1) with
    | er ke c=>
      rw[hq3]at a1 h3 hr
      have hc0:=h3.2
      replace a1:=a1.er
      simp only[PR.vl]at a1
      simp only[PR.bind]at hr
      refine wk ?_
      repeat' (first|refine wkt ?_|(apply TO.want;exact rfl)|(apply TO.zaI;(iterate 3 exact rfl);omega;omega)|refine zqn ?_|refine we m1 ?_ ?_|refine we w1 ?_ ?_|refine we a1 ?_ ?_|exact wkc|intro hc|refine wk2 ?_ ?_|fail)
      repeat' (first|refine zac.panic ?_|refine wk ?_|fail)
      first
       | exact rdP hr.symm hc0 rfl (zby _ rfl)
       | exact rdP hr.symm hc0
    | ok tv j2=>
    rw[hq3]at a1 h3 hr
    obtain⟨h3a,h3b⟩:=h3
    replace a1:=a1.ok
    simp only[PR.vl]at a1
    simp only[PR.bind]at hr
    obtain⟨⟨hv1,hv2⟩,_⟩:=zd1 hes hq3
    obtain⟨t2,v⟩:=tv
    simp only at hr a1 hv1 hv2
    by_cases ht2:t2=t
    rotate_left
    ·exact zwk
    subst ht2
    rw[if_neg (by simp)]at hr
    obtain⟨m2,h4⟩:=zbr l n es j2 [[45,62]] hl h3b (by decide)
    cases hq4:(rdr l es).must [[45,62]] j2 with
    | er ke c=>
      rw[hq4]at m2 h4 hr
      have hc0:=h4.2
      replace m2:=m2.er
      simp only[PR.bind]at hr
      refine wk ?_
      repeat' (first|refine wkt ?_|(apply TO.want;exact rfl)|(apply TO.zaI;(iterate 3 exact rfl);omega;omega)|refine zqn ?_|refine we m1 ?_ ?_|refine we w1 ?_ ?_|refine we a1 ?_ ?_|refine we m2 ?_ ?_|exact wkc|intro hc|refine wk2 ?_ ?_|fail)
      repeat' (first|refine zac.panic ?_|refine wk ?_|fail)
      first
       | exact rdP hr.symm hc0 rfl (zby _ rfl)
       | exact rdP hr.symm hc0
    | ok u4 j3=>
    rw[hq4]at m2 h4 hr
    obtain⟨h4a,h4b⟩:=h4
    replace m2:=m2.ok
    simp only[PR.bind]at hr
    obtain⟨hx,h5⟩:=hF j3 (by omega) h4b
    cases hq5:f j3 with
    | er ke c=>
      rw[hq5]at hx h5 hr
      have hc0:=h5.2
      replace hx:=hx.er
      simp only[PR.vl]at hx
      simp only[PR.bind]at hr
      refine wk ?_
      repeat' (first|refine wkt ?_|(apply TO.want;exact rfl)|(apply TO.zaI;(iterate 3 exact rfl);omega;omega)|refine zqn ?_|refine we m1 ?_ ?_|refine we w1 ?_ ?_|refine we a1 ?_ ?_|refine we m2 ?_ ?_|exact wkc|intro hc|refine wk2 ?_ ?_|fail)
      refine rgX 4 (g:=False) [(.ref 2 5,0,1),((.ms 6 3 0 ((rdr l es).size t2)),0,1),(.i (k:Nat),0,1),(.ref 0 0,0,1),(.t (.ag [T.n noE.kind,T.n noE.op,T.n noE.t,T.n noE.v,T.s noE.name,T.sl 6 (noE.args.map exT)]),1,0),(.ref 3 (0+k*6),0,1),(.any,1,0)] [[rdB l n es j3,exZ,mB t2 s (.ms 6 3 0 ((rdr l es).size t2)),.cells (zaM xs)],[rdB l n es j3,exZ,mB t2 s (.ms 6 3 0 ((rdr l es).size t2)),.cells (zaM xs)],[rdB l n es j3,exZ,mB t2 s (.ms 6 3 0 ((rdr l es).size t2)),.cells (zaM (xs.set k noE))]] ?_ (fun h=>h.elim)
      repeat' (first|refine wkt ?_|exact trivial|exact⟨⟨rfl,rfl⟩,trivial⟩|refine qai (fun env=>?_) ?_|refine qai ?_ ?_|refine we hx ?_ ?_|refine zqi ?_|(apply TO.store zaa;(iterate 6 exact rfl);exact leB;exact rfl;(show _+6≤(zaM _).length;rw[zbl];omega);exact st4 (zbm noE xs k (by omega)))|refine wk ?_|exact wkc|intro hc|refine wk2 ?_ ?_|fail)
      repeat' (first|refine zac.panic ?_|refine wk ?_|fail)
      first
       | exact rdP hr.symm hc0 rfl (zby _ rfl)
       | exact rdP hr.symm hc0
    | ok e j4=>
    rw[hq5]at hx h5 hr
    obtain⟨h5a,h5b⟩:=h5
    replace hx:=hx.ok
    simp only[PR.vl]at hx
    simp only[PR.bind]at hr
    rw[zao e]at hx
    unfold exC at hx
    obtain⟨m3,h6⟩:=zbr l n es j4 [[41]] hl h5b (by decide)
    cases hq6:(rdr l es).must [[41]] j4 with
    | er ke c=>
      rw[hq6]at m3 h6 hr
      have hc0:=h6.2
      replace m3:=m3.er
      simp only[PR.bind]at hr
      refine wk ?_
      repeat' (first|refine wkt ?_|(apply TO.want;exact rfl)|(apply TO.zaI;(iterate 3 exact rfl);omega;omega)|refine zqn ?_|refine we m1 ?_ ?_|refine we w1 ?_ ?_|refine we a1 ?_ ?_|refine we m2 ?_ ?_|exact wkc|intro hc|refine wk2 ?_ ?_|fail)
      refine rgX 4 (g:=True) [(.ref 2 5,0,1),((.ms 6 3 0 ((rdr l es).size t2)),0,1),(.i (k:Nat),0,1),(.ref 0 0,0,1),(.t (.ag [T.n e.kind,T.n e.op,T.n e.t,T.n e.v,T.s e.name,T.sl 6 (e.args.map exT)]),1,0),(.ref 3 (0+k*6),0,1),(.any,1,0)] [[rdB l n es j3,exZ,mB t2 s (.ms 6 3 0 ((rdr l es).size t2)),.cells (zaM xs)],[rdB l n es j4,exZ,mB t2 s (.ms 6 3 0 ((rdr l es).size t2)),.cells (zaM xs)],[rdB l n es j4,exZ,mB t2 s (.ms 6 3 0 ((rdr l es).size t2)),.cells (zaM (xs.set k e))]] ?_ (fun _=>?_)
      ·repeat' (first|refine wkt ?_|exact trivial|exact⟨⟨rfl,rfl⟩,trivial⟩|refine qai (fun env=>?_) ?_|refine qai ?_ ?_|refine we hx ?_ ?_|refine zqi ?_|(apply TO.store zaa;(iterate 6 exact rfl);exact leB;exact rfl;(show _+6≤(zaM _).length;rw[zbl];omega);exact st4 (zbm e xs k (by omega)))|refine wk ?_|exact wkc|intro hc|refine wk2 ?_ ?_|fail)
       done
      repeat' (first|refine wkt ?_|(apply TO.want;exact rfl)|(apply TO.zaI;(iterate 3 exact rfl);omega;omega)|refine zqn ?_|refine we m3 ?_ ?_|exact wkc|intro hc|refine wk2 ?_ ?_|fail)
      repeat' (first|refine zac.panic ?_|refine wk ?_|fail)
      first
       | exact rdP hr.symm hc0 rfl (zby _ rfl)
       | exact rdP hr.symm hc0
    | ok u6 j5=>
    rw[hq6]at m3 h6 hr
    obtain⟨h6a,h6b⟩:=h6
    replace m3:=m3.ok
    simp only[PR.bind]at hr
    refine wk ?_
    repeat' (first|refine wkt ?_|(apply TO.want;exact rfl)|(apply TO.zaI;(iterate 3 exact rfl);omega;omega)|refine zqn ?_|refine we m1 ?_ ?_|refine we w1 ?_ ?_|refine we a1 ?_ ?_|refine we m2 ?_ ?_|exact wkc|intro hc|refine wk2 ?_ ?_|fail)
    refine rgX 4 (g:=True) [(.ref 2 5,0,1),((.ms 6 3 0 ((rdr l es).size t2)),0,1),(.i (k:Nat),0,1),(.ref 0 0,0,1),(.t (.ag [T.n e.kind,T.n e.op,T.n e.t,T.n e.v,T.s e.name,T.sl 6 (e.args.map exT)]),1,0),(.ref 3 (0+k*6),0,1),(.any,1,0)] [[rdB l n es j3,exZ,mB t2 s (.ms 6 3 0 ((rdr l es).size t2)),.cells (zaM xs)],[rdB l n es j4,exZ,mB t2 s (.ms 6 3 0 ((rdr l es).size t2)),.cells (zaM xs)],[rdB l n es j4,exZ,mB t2 s (.ms 6 3 0 ((rdr l es).size t2)),.cells (zaM (xs.set k e))]] ?_ (fun _=>?_)
    ·repeat' (first|refine wkt ?_|exact trivial|exact⟨⟨rfl,rfl⟩,trivial⟩|refine qai (fun env=>?_) ?_|refine qai ?_ ?_|refine we hx ?_ ?_|refine zqi ?_|(apply TO.store zaa;(iterate 6 exact rfl);exact leB;exact rfl;(show _+6≤(zaM _).length;rw[zbl];omega);exact st4 (zbm e xs k (by omega)))|refine wk ?_|exact wkc|intro hc|refine wk2 ?_ ?_|fail)
     done
    repeat' (first|refine wkt ?_|(apply TO.want;exact rfl)|(apply TO.zaI;(iterate 3 exact rfl);omega;omega)|refine zqn ?_|refine we m3 ?_ ?_|exact wkc|intro hc|refine wk2 ?_ ?_|fail)
    have hI2:j0≤j5/\j5≤l.length/\(rdr l es).size t2-(k+1)≤m/\1≤k+1/\(xs.set k e).length=(rdr l es).size t2/\(t2=1\/3≤t2)/\t2≤6000000/\(rdr l es).size t2≤3000000/\(rdr l es).mrest f s t2 m (k+1) (xs.set k e) j5=r:=⟨by omega,h6b,by omega,by omega,by rw[qbv];exact q5,q6,by omega,q8,hr⟩
    refine zac.next (some (t2,m,k+1,xs.set k e,j5)) ?_ ?_ ?_ ?_
    ·exact hI2
    ·show(rdr l es).size t2-(k+1)<(rdr l es).size t2-k;omega
    ·exact⟨rfl,rfl,rfl,rfl,rfl,trivial⟩
    ·exact rfl
end Go.Proofs.YtpfnfpaahefdaaaGreat
