import Derived.Test.YtdicfgideclbdaaGreatDoorAk41
set_option maxHeartbeats 64000000
namespace Go.TL
open Go
theorem TO.zzt{P:Program}{n:Nat}{env:Env}{K:TK}{all:Array Oper}{ops:List Oper}{H:Heap}(id:Nat){cs cs':List SV}{H':Heap}(hH:H[id]?=some (.cells cs))(hl:cs'.length=cs.length)(h0:0<cs.length)
  (hle:∀(q:Nat) c',cs'[q]?=some c'->∃c,cs[q]?=some c/\Le c c')(hH':H.set id (.cells cs')=H')
  (k:TO false P n all ops env H' K):TO false P n all ops env H K:=by
 intro φ m a h1 h2 h3 h4;have hid:=(qaa.1 hH).1;have hH1:m.H[id]?=some (.cells cs):=by rw[h1];exact hH
 obtain⟨p,hp⟩:∃p,m.β[id]?=some p:=⟨_,qad (by rw[h2.len,h1];exact hid)⟩;obtain⟨b1,b2,b3⟩:=h2.blk id p _ hp hH1;have hlt:=hl
 obtain⟨s2,hm2⟩:=upd h2 (cs':=cs') (w':=m.w) hp hH1 rfl rfl rfl rfl (fun _ _=>rfl) (fun _ _=>rfl) (fun _=>rfl) (fun _=>rfl) (fun _ h=>h) oA oA (fun q c hc=>by
  obtain⟨c0,hc0,hle0⟩:=hle q c hc;obtain⟨y,hy1,hy0,hy2⟩:=b3 q c0 hc0;exact⟨y,hy1,hy0,hle0 _ _ hy2⟩)
 refine za4 (fun _ _ _ hp=>hp.step s2) (fun _ _=>Post.zdv) _ _ _ (k φ ⟨m.A,m.β,m.H.set id (.cells cs'),m.w⟩ a ?_ hm2 (h3.step h2 s2) (h4.step h2 s2));rw[<-hH',<-h1]
theorem zgS{z z':List T}(hz:z'.length=z.length)(h:∀(q:Nat) c',z'[q]?=some c'->∃c,z[q]?=some c/\Le (.t c) (.t c')):∀(n:Nat) (q:Nat) (c':SV),(zaK z' n)[q]?=some c'->∃c,(zaK z n)[q]?=some c/\Le c c'
 | 0,q,c',hq=>by simp[zaK]at hq
 | n+1,q,c',hq=>by
   have e:∀z:List T,zaK z (n+1)=z.map .t++zaK z n:=fun z=>by simp[zaK,qbN]
   rw[e]at hq⊢;by_cases hlt:q<z.length
   ·rw[qat (by simpa [hz]using hlt),qan]at hq;rw[qat (by simpa using hlt),qan];cases hc:z'[q]? with
    | none=>rw[hc]at hq;cases hq
    | some c1=>
      rw[hc]at hq;cases hq;obtain⟨c,h1,h2⟩:=h q c1 hc;exact⟨.t c,by rw[h1];rfl,h2⟩
   ·rw[qas (by simpa [hz]using hlt),qac,hz]at hq;rw[qas (by simpa using hlt),qac];exact zgS hz h n _ _ hq
end Go.TL
set_option linter.all false
namespace Go.Proofs.YtdicfgideclbdaaGreatDoor
open Go Go.TL
attribute [local irreducible] TR TO Then zaj RetK Sound zac Kf GG zaQ
variable {R:Rd}{j:Nat}{u:Unit}{l:List Tok}{es:List En}
abbrev zey (l:List Ex):List SV:=((l.map exT).map T.cells).flatten.map SV.t
theorem zlM(l:List Ex):(zey l).length=l.length*6:=by
 rw[qac,(zbR (l.map exT) (sz:=6) (fun e he=>by obtain⟨a,_,rfl⟩:=qaL.1 he;rw[zan];rfl)).1,qac]
theorem zlN(e:Ex):∀(l:List Ex) (w:Nat),w<l.length->splice (zey l) (0+w*6) ((exC e).map .t)=zey (l.set w e)
 | a::l,0,_=>by
   simp only[zey,qaf,qaK,qaw,qch,splice,qcy,qaV,qbr,qaP];rw[zan a,zan e];rfl
 | a::l,w+1,h=>by
   have ih:=zlN e l w (by simpa using h);have e1:zey (a::l)=(exC a).map .t++zey l:=by simp[zey,zan,T.cells]
   have e2:zey ((a::l).set (w+1) e)=(exC a).map .t++zey (l.set w e):=by simp[zey,zan,T.cells]
   have e3:((exC a).map SV.t).length=6:=rfl;rw[e1,e2,<-ih];unfold splice;rw[show 0+(w+1)*6=((exC a).map SV.t).length+(0+w*6) by rw[e3];omega,List.take_length_add_append,qay,qay,qay];congr 2;rw[qa1,List.drop_length_add_append]
theorem ze5(c:Nat):zey (List.replicate c noE)=zaK (exC noE) c:=by
 simp[zey,zaK,List.map_replicate,zan,T.cells]
theorem zmY{t v:Nat}{known:Bool}{i:Nat}(h:R.wanted t v known i= .ok u j):j=i:=by
 unfold Rd.wanted at h;repeat' split at h
 all_goals first
  | (cases h;done)
  | (cases h;rfl)
theorem zpf{s:Str}{i:Nat}(h:R.must [s] i= .ok u j):j=i+1:=by
 simp only[Rd.must]at h;split at h
 ·cases h;rfl
 ·cases h
theorem zx7{t:Nat}(h:t=1\/3≤t):zbf es (t:Int)=((rdr l es).size t:Nat):=by
 unfold zbf Rd.size;rcases h with rfl|h
 ·rfl
 ·rw[oH oA,oH oA,oH oA,oH oA];show(((zaL es (t:Int)).1.tags.length:Nat):Int)=((match es[t-3]? with|some u=>u.tags.length|none=>0:Nat):Int);unfold zaL;by_cases hlt:t-3<es.length
  ·rw[oG ⟨oA,oA⟩,show((t:Int)-3).toNat=t-3 by omega,qad hlt]
  ·rw[oH oA,qa8 oA];rfl
theorem zr2(he:EsOk es){w i:Nat}{tv:Nat×Nat}(hw1:w=1->(rdr l es).isAt i [116,114,117,101]=true)(hw2:w≤1)(h:(rdr l es).aTag i= .ok tv j):
  (tv.1=1\/3≤tv.1)/\w<(rdr l es).size tv.1:=by
 obtain⟨_,h2⟩:=zj9 he h;rcases h2 with ⟨h2,_⟩|⟨h2,u,h3,h4⟩
 ·refine⟨.inl h2,?_⟩;rw[h2];show w<2;omega
 ·refine⟨.inr h2,?_⟩
  have hs:(rdr l es).size tv.1=u.tags.length:=by
   unfold Rd.size;rw[oH oA,oH oA];show(match es[tv.1-3]? with|some u=>u.tags.length|none=>0)=_;rw[h3]
  rw[hs];by_cases hw:w=1
  ·unfold Rd.aTag at h;rw[oG (hw1 hw)]at h;cases h;omega
  ·omega
theorem size_le(he:EsOk es){t:Nat}(h:t=1\/3≤t):(rdr l es).size t≤3000000:=by
 rcases h with rfl|h
 ·show 2≤3000000;decide
 ·unfold Rd.size;rw[oH oA,oH oA];show(match es[t-3]? with|some u=>u.tags.length|none=>0)≤_;cases hq:es[t-3]? with
  | none=>exact qaM _
  | some u=>exact he.tags u (qau hq)
end Go.Proofs.YtdicfgideclbdaaGreatDoor
