import Derived.Test.YtpnnpgbaiobbjaaGreatDoorAk31
set_option linter.all false
namespace Go.Proofs.YtpnnpgbaiobbjaaGreatDoor
open Go Go.TL
attribute [local irreducible] TR TO Then zao RetK Sound zab Kf GG zaZ
theorem w_vr{s:Str}(h:Sh s):(exT (vrE s)).w≤47:=by unfold vrE;rw[znn];show 7+s.length+0≤_;omega
theorem w_cn(t v:I64):(exT (cnE t v)).w=7:=by unfold cnE;rw[znn];rfl
theorem w_sm{s:Str}{o:OnC}(h:Sh s)(ho:Sh o.name):(exT (smE s o)).w≤94:=by
 have:=w_vr h
 unfold smE
 rw[znn,zaR]
 show 7+o.name.length+((exT (vrE s)).w+0)≤_
 omega
theorem zoz{c:Nat}{e:Ex}:∀ {l:List (Ex×Ex)},(∀p∈l,(exT p.1).w+(exT p.2).w+7≤c)->(exT (zdn l e)).w≤(exT e).w+c*l.length
 | [],_=>qag _
 | p::l,h=>by
   have h1:=h p (qas ..)
   have h2:=zoz (c:=c) (e:=e) (l:=l) fun y hy=>h y (qar _ hy)
   unfold zdn
   rw[znn,zaR,zaR,zaR,qam,qcs]
   show 7+0+((exT p.1).w+((exT p.2).w+((exT (zdn l e)).w+0)))≤_
   omega
theorem zt3{l:List Str}(h:∀s∈l,Sh s):wsum T.s l≤41*l.length:=zdp fun s hs=>by rw[w_s];have:=h s hs;omega
theorem zkt{s:Str}{e:Ex}(h:Sh s):(equT ⟨[s],e⟩).w≤(exT e).w+42:=by
 rw[zr4]
 have:=zt3 (l:=[s]) (by simpa using h)
 simp only[qam,qaD]at this
 dsimp only
 omega
theorem zr6(t:Tran):(zah t).w=(exT t.cond).w+2:=by
 rw[show zah t= .ag [T.n t.cond.kind,T.n t.cond.op,T.n t.cond.t,T.n t.cond.v,.s t.cond.name,.sl 6 (t.cond.args.map exT),T.n t.to,.b t.resume] from rfl,w_ag,zay,w_ag]
 have hb:(T.b t.resume).w=1:=by show(T.v _).w=1;rw[T.w];rfl
 simp only[exC,qaj,qay,qao,qaI,w_n,hb]
 omega
theorem zol:Sh []:=by show 0≤40;omega
theorem zrE{x:KS}(h:∀c∈x.cs,∀y∈c,Sh y)(i j:Nat):Sh (zbf x i j):=by
 unfold zbf
 cases hc:x.cs[i]? with
 | none=>exact zol
 | some c=>
   show Sh ((c[j]?).getD [])
   cases hd:c[j]? with
   | none=>exact zol
   | some s=>exact h c (qat hc) s (qat hd)
theorem zu7{x:KS}(h:∀c∈x.parts,∀y∈c,Sh y)(i j:Nat):Sh (partAt x i j):=by
 unfold partAt
 cases hc:x.parts[i]? with
 | none=>exact zol
 | some c=>
   show Sh ((c[j]?).getD [])
   cases hd:c[j]? with
   | none=>exact zol
   | some s=>exact h c (qat hc) s (qat hd)
theorem zvc{nm:Str}{t:I64}{l:List Ex}{c:Nat}(h:Sh nm)(hl:∀e∈l,(exT e).w≤c):(exT (mrgE nm t l)).w≤47+c*l.length:=by
 have:=zdp hl
 unfold mrgE
 rw[znn]
 omega
theorem zr5{L0:List Decl}{n:Nat}{x:KS}(h:KW L0 n x)(i:Nat)(s:Sta)(hs:s.unl.length≤4){th:Tran->Ex}(ht:∀t,(exT (th t)).w≤7){e:Ex}(he:(exT e).w≤94):(exT (zbl x i s th e)).w≤526:=by
 have h1:=zoz (c:=108) (e:=e) (l:=s.unl.mapIdx (chL x i th)) fun p hp=>by
  obtain⟨j,hj,rfl⟩:=qbJ.1 hp
  have h1:=w_sm (s:=zbf x i j) (o:=onL x x.was i) (zrE h.cs i j) h.was
  have h2:=ht s.unl[j]
  show(exT (smE (zbf x i j) (onL x x.was i))).w+(exT (th s.unl[j])).w+7≤108
  omega
 rw[qa2]at h1
 have h2:108*s.unl.length≤108*4:=qbk _ hs
 unfold zbl
 omega
theorem zrQ:∀(l:List Sta),(l.map fun s=>wsum zah s.unl+168).sum≤wsum staT l+168*l.length
 | []=>qaK _
 | s::l=>by
   have h1:=zrQ l
   have h2:=zdK s
   have h3:=zno 8 zah s.unl
   rw[qaj,qao,zaR,qam,qcs]
   omega
theorem zv5{L0:List Decl}{n v W:Nat}{x:KS}(h:KW L0 n x)(hn:Sh x.next/\Sh x.back)(hl:x.sts.length≤8)(hu:∀s∈x.sts,s.unl.length≤4)(hW:wsum staT x.sts≤W)(hd:x.defs.length≤v)(hb:x.bodies.length≤8)(hi:∀b∈x.bodies,b.ins.length≤v)(hp:∀p∈x.parts,p.length≤v+2):
  wsum equT (zfv x)≤W+15000+8*(324+135*v)+465*(v+2):=by
 have e12:wsum equT (zjL x)≤206:=by
  have h1:=zkt (s:=x.was) (e:=fbyE (cnE x.t z64) (vrE x.next)) h.was
  have h2:=zkt (s:=x.flag) (e:=fbyE (cnE bT z64) (vrE x.back)) h.flag
  have h3:=w_vr hn.1
  have h4:=w_vr hn.2
  unfold fbyE at h1 h2
  rw[znn,zaR,zaR,w_cn]at h1 h2
  have hz:wsum exT ([]:List Ex)=0:=rfl
  rw[hz]at h1 h2
  simp only[qaD]at h1 h2
  unfold zjL fbyE
  rw[zaR,zaR]
  show _+(_+0)≤_
  omega
 have eU:wsum equT (x.sts.mapIdx (eqU x)).flatten≤W+1344:=by
  have h1:=zlV (f:=equT) (h:=fun s=>wsum zah s.unl+168) (l:=x.sts) (g:=eqU x) fun i s hs=>by
   have hus:=hu s hs
   have:∀(l:List Tran) (g:Nat->Str),(∀j,Sh (g j))->wsum equT (l.mapIdx fun j t=>(⟨[g j],t.cond⟩:Equ))≤wsum zah l+42*l.length:=by
    intro l
    induction l with
    | nil=>intro _ _;exact qaK _
    | cons t l ih=>
      intro g hg
      have h1:=ih (fun j=>g (j+1)) fun j=>hg (j+1)
      have h2:=zkt (s:=g 0) (e:=t.cond) (hg 0)
      have h3:=zr6 t
      rw[qcB,zaR,zaR,qam,qcs]
      omega
   have h2:=this s.unl (fun j=>zbf x i j) fun j=>zrE h.cs i j
   have h3:42*s.unl.length≤42*4:=qbk _ hus
   show wsum equT (s.unl.mapIdx fun j t=>(⟨[zbf x i j],t.cond⟩:Equ))≤wsum zah s.unl+168
   omega
  have h2:=zrQ x.sts
  have h3:168*x.sts.length≤168*8:=qbk _ hl
  omega
 have e34:wsum equT (zmt x)≤8600:=by
  have h1:=zvc (nm:=x.was) (t:=x.t) (c:=526) (l:=x.sts.mapIdx fun i s=>zbl x i s (toL x) (cnE x.t (toI i))) h.was fun e he=>by
   obtain⟨j,hj,rfl⟩:=qbJ.1 he
   exact zr5 h j _ (hu _ (qad hj)) (fun t=>by unfold toL;rw[w_cn];omega) (by rw[w_cn];omega)
  have h2:=zvc (nm:=x.was) (t:=x.t) (c:=526) (l:=x.sts.mapIdx fun i s=>zbl x i s (rsL x) (smE x.flag (onL x x.was i))) h.was fun e he=>by
   obtain⟨j,hj,rfl⟩:=qbJ.1 he
   exact zr5 h j _ (hu _ (qad hj)) (fun t=>by unfold rsL;rw[w_cn];omega) (w_sm h.flag h.was)
  rw[qa2]at h1 h2
  have h3:526*x.sts.length≤526*8:=qbk _ hl
  have h4:=zkt (s:=x.now) (e:=mrgE x.was x.t (x.sts.mapIdx fun i s=>zbl x i s (toL x) (cnE x.t (toI i)))) h.now
  have h5:=zkt (s:=x.reset) (e:=mrgE x.was x.t (x.sts.mapIdx fun i s=>zbl x i s (rsL x) (smE x.flag (onL x x.was i)))) h.reset
  unfold zmt
  rw[zaR,zaR]
  show _+(_+0)≤_
  omega
 have eB:wsum equT (x.bodies.mapIdx (eqB x))≤(324+135*v)*8:=by
  have h1:=zdp (f:=equT) (c:=324+135*v) (l:=x.bodies.mapIdx (eqB x)) fun q hq=>by
   obtain⟨i,hi2,rfl⟩:=qbJ.1 hq
   obtain⟨n1,n2⟩:=h.names _ (qad hi2)
   have n3:=hi _ (qad hi2)
   have hpl:∀y∈(x.parts[i]?).getD [],Sh y:=by
    cases hc:x.parts[i]? with
    | none=>intro y hy;cases hy
    | some c=>exact h.parts c (qat hc)
   have hpn:((x.parts[i]?).getD []).length≤v+2:=by
    cases hc:x.parts[i]? with
    | none=>exact qaK _
    | some c=>exact hp c (qat hc)
   have h2:=zt3 hpl
   have h3:=zdp (f:=exT) (c:=94) (l:=(x.bodies[i].ins.map fun d=>smE d.name (onL x x.now i))++[smE x.reset (onL x x.now i)]) fun e he=>by
    rcases qaF.1 he with he|he
    ·obtain⟨d,hd,rfl⟩:=qa4.1 he
     exact w_sm (n2 d hd) h.now
    ·rw[qaG.1 he]
     exact w_sm h.reset h.now
   rw[qae,qaa,qam,qaD]at h3
   unfold eqB calE
   rw[zr4,znn]
   have h4:41*((x.parts[i]?).getD []).length≤41*(v+2):=qbk _ hpn
   have h5:94*(x.bodies[i].ins.length+(0+1))≤94*(v+1):=qbk _ (by omega)
   dsimp only
   omega
  rw[qa2]at h1
  exact qaE h1 (qbk _ hb)
 have eL:wsum equT ((lefts x).mapIdx (eqL x))≤465*(v+2):=by
  have hls:∀y∈lefts x,Sh y:=by
   intro y hy
   rcases qaF.1 hy with hy|hy
   ·obtain⟨d,hd,rfl⟩:=qa4.1 hy
    exact(h.defs d hd).1
   ·simp only[qbe,qce,or_false]at hy
    rcases hy with rfl|rfl
    ·exact hn.1
    ·exact hn.2
  have h1:=zdp (f:=equT) (c:=465) (l:=(lefts x).mapIdx (eqL x)) fun q hq=>by
   obtain⟨j,hj,rfl⟩:=qbJ.1 hq
   have h2:=zvc (nm:=x.now) (t:=x.t) (c:=47) (l:=x.sts.mapIdx fun i _=>vrE (partAt x i j)) h.now fun e he=>by
    obtain⟨i,hi,rfl⟩:=qbJ.1 he
    exact w_vr (zu7 h.parts i j)
   rw[qa2]at h2
   have h3:=zkt (s:=(lefts x)[j]) (e:=mrgE x.now x.t (x.sts.mapIdx fun i _=>vrE (partAt x i j))) (hls _ (qad hj))
   have h4:47*x.sts.length≤47*8:=qbk _ hl
   unfold eqL
   omega
  rw[qa2]at h1
  have h5:(lefts x).length=x.defs.length+2:=by unfold lefts;simp
  exact qaE h1 (qbk _ (by omega))
 unfold zfv
 rw[zcM,zcM,zcM,zcM]
 omega
theorem zv4{L0:List Decl}{n v:Nat}{x:KS}{vars:List Decl}(h:KW L0 (n+9) x)(hd:x.defs.length≤v)(hvl:vars.length≤v)(hv:∀d∈vars,Sh d.name)(i:Nat)(s:Sta)(hu:s.unt.length≤4)(hsl:∀d∈s.locals,Sh d.name):(nodT (zcB x i s vars).2).w≤(staT s).w+100*v+1500/\∀d∈zaB (zcB x i s vars).2,Sh d.name:=by
 have r1:Room (frF x.a zbM).1 (n+8):=Room.fr1 h.lc.room (by decide)
 have r2:Room (frF (frF x.a zbM).1 zbo).1 (n+7):=Room.fr1 r1 (by decide)
 have r3:Room (frF (frF (frF x.a zbM).1 zbo).1 zcd).1 (n+6):=Room.fr1 r2 (by decide)
 have s1:Sh (frF x.a zbM).2:=zlH h.lc.room (by decide)
 have s2:Sh (frF (frF x.a zbM).1 zbo).2:=zlH r1 (by decide)
 have s3:Sh (frF (frF (frF x.a zbM).1 zbo).1 zcd).2:=zlH r2 (by decide)
 have hi:=zmI (zbF 100000000 s) x.defs vars [] hv (by simp)
 have hic:=zjW (zbF 100000000 s) x.defs vars [] (by simp)
 have hil:=zg8 (zbF 100000000 s) x.defs vars []
 have hD:∀d:Decl,Sh d.name->d.clock=[]->(zaa d).w≤50:=fun d h1 h2=>by
  rw[zr3,h2]
  show 4+d.name.length+0≤_
  omega
 have a1:=zdp (f:=zaa) (c:=50) (l:=vars.foldl (insF (zbF 100000000 s) x.defs) []) fun d hm=>hD d (hi d hm) (hic d hm)
 have a2:=zdp (f:=zaa) (c:=50) (l:=x.defs) fun d hm=>hD d (h.defs d hm).1 (h.defs d hm).2
 have hun:∀(l:List Tran) (m:Nat) (u:List Str×Bd),Room u.1 (m+l.length)->wsum zaa (l.foldl (untF x.t) u).2.locals≤wsum zaa u.2.locals+50*l.length/\wsum equT (l.foldl (untF x.t) u).2.eqs≤wsum equT u.2.eqs+wsum zah l+42*l.length/\
   ((∀p∈u.2.tos,(exT p.1).w+(exT p.2).w+7≤61)->∀p∈(l.foldl (untF x.t) u).2.tos,(exT p.1).w+(exT p.2).w+7≤61)/\((∀p∈u.2.hows,(exT p.1).w+(exT p.2).w+7≤61)->∀p∈(l.foldl (untF x.t) u).2.hows,(exT p.1).w+(exT p.2).w+7≤61)/\
   (l.foldl (untF x.t) u).2.tos.length=u.2.tos.length+l.length/\(l.foldl (untF x.t) u).2.hows.length=u.2.hows.length+l.length/\((∀d∈u.2.locals,Sh d.name)->∀d∈(l.foldl (untF x.t) u).2.locals,Sh d.name):=by
  intro l
  induction l with
  | nil=>intro m u _;exact⟨by simp,by simp[wsum],fun h=>h,fun h=>h,by simp,by simp,fun h=>h⟩
  | cons t l ih=>
    intro m u hr
    have hs:Sh (zaQ u.1 zeb):=zlH hr (by decide)
    have hr2:Room (untF x.t u t).1 (m+l.length):=Room.fr1 (by rw[qam]at hr;exact hr) (by decide)
    obtain⟨i1,i2,i3,i4,i5,i6,i7⟩:=ih m (untF x.t u t) hr2
    have e1:wsum zaa (untF x.t u t).2.locals≤wsum zaa u.2.locals+50:=by
     show wsum zaa (u.2.locals++[_])≤_
     have:=hD ⟨zaQ u.1 zeb,bT,[]⟩ hs rfl
     rw[zcM,zaR]
     show _+(_+0)≤_
     omega
    have e2:wsum equT (untF x.t u t).2.eqs≤wsum equT u.2.eqs+(zah t).w+42:=by
     show wsum equT (u.2.eqs++[_])≤_
     have h1:=zkt (s:=zaQ u.1 zeb) (e:=t.cond) hs
     have h2:=zr6 t
     rw[zcM,zaR]
     show _+(_+0)≤_
     omega
    have hv1:=w_vr hs
    rw[qaU,qam,zaR]
    refine⟨by omega,by omega,fun hh=>i3 fun p hp=>?_,fun hh=>i4 fun p hp=>?_,?_,?_,fun hh=>i7 fun d hd=>?_⟩
    ·rcases qaF.1 (show p∈u.2.tos++[_] from hp)with hp|hp
     ·exact hh p hp
     ·rw[qaG.1 hp]
      dsimp only
      rw[w_cn]
      omega
    ·rcases qaF.1 (show p∈u.2.hows++[_] from hp)with hp|hp
     ·exact hh p hp
     ·rw[qaG.1 hp]
      dsimp only
      rw[w_cn]
      omega
    ·rw[i5,show(untF x.t u t).2.tos.length=u.2.tos.length+1 by simp[untF]];omega
    ·rw[i6,show(untF x.t u t).2.hows.length=u.2.hows.length+1 by simp[untF]];omega
    ·rcases qaF.1 (show d∈u.2.locals++[_] from hd)with hd|hd
     ·exact hh d hd
     ·rw[qaG.1 hd]
      exact hs
 obtain⟨u1,u2,u3,u4,u5,u6,u7⟩:=hun s.unt n ((frF (frF (frF x.a zbM).1 zbo).1 zcd).1,⟨[],[],s.locals,s.eqs⟩) (r3.mono (by omega))
 have hb:(zcB x i s vars).2=⟨(frF x.a zbM).2,vars.foldl (insF (zbF 100000000 s) x.defs) [],x.defs++[⟨(frF (frF x.a zbM).1 zbo).2,x.t,[]⟩,⟨(frF (frF (frF x.a zbM).1 zbo).1 zcd).2,bT,[]⟩],(s.unt.foldl (untF x.t) ((frF (frF (frF x.a zbM).1 zbo).1 zcd).1,⟨[],[],s.locals,s.eqs⟩)).2.locals,
  (s.unt.foldl (untF x.t) ((frF (frF (frF x.a zbM).1 zbo).1 zcd).1,⟨[],[],s.locals,s.eqs⟩)).2.eqs++[⟨[(frF (frF x.a zbM).1 zbo).2],zdn (s.unt.foldl (untF x.t) ((frF (frF (frF x.a zbM).1 zbo).1 zcd).1,⟨[],[],s.locals,s.eqs⟩)).2.tos (cnE x.t (toI i))⟩,⟨[(frF (frF (frF x.a zbM).1 zbo).1 zcd).2],zdn (s.unt.foldl (untF x.t) ((frF (frF (frF x.a zbM).1 zbo).1 zcd).1,⟨[],[],s.locals,s.eqs⟩)).2.hows (cnE bT z64)⟩],s.autos,[],[]⟩:=rfl
 rw[hb]
 clear hb hun
 generalize s.unt.foldl (untF x.t) ((frF (frF (frF x.a zbM).1 zbo).1 zcd).1,⟨[],[],s.locals,s.eqs⟩)=u at*
 have n1:=zoz (c:=61) (e:=cnE x.t (toI i)) (u3 (by simp))
 have n2:=zoz (c:=61) (e:=cnE bT z64) (u4 (by simp))
 rw[w_cn]at n1 n2
 have n3:=zkt (s:=(frF (frF x.a zbM).1 zbo).2) (e:=zdn u.2.tos (cnE x.t (toI i))) s2
 have n4:=zkt (s:=(frF (frF (frF x.a zbM).1 zbo).1 zcd).2) (e:=zdn u.2.hows (cnE bT z64)) s3
 have d1:=hD ⟨(frF (frF x.a zbM).1 zbo).2,x.t,[]⟩ s2 rfl
 have d2:=hD ⟨(frF (frF (frF x.a zbM).1 zbo).1 zcd).2,bT,[]⟩ s3 rfl
 have hst:(staT s).w=1+((T.s s.name).w+(1+wsum zaa s.locals+(1+wsum equT s.eqs+(1+wsum zae s.autos+(1+wsum zah s.unl+(1+wsum zah s.unt+0)))))):=by
  rw[za8,w_ag]
  simp only[qaj,qay,qao,qaI,w_sl]
 refine⟨?_,fun d hd=>?_⟩
 rotate_left
 ·rw[zgm]at hd
  rcases qaF.1 hd with hd|hd
  ·rcases qaF.1 hd with hd|hd
   ·exact hi d hd
   ·rcases qaF.1 hd with hd|hd
    ·exact(h.defs d hd).1
    ·simp only[qbe,qce,or_false]at hd
     rcases hd with rfl|rfl
     ·exact s2
     ·exact s3
  ·exact u7 hsl d hd
 rw[nodT,w_ag]
 simp only[qaj,qay,qao,qaI,w_sl,w_s,qal,qbB]
 simp only[wsum]at a1 a2 u1 u2 hst
 simp only[qaD,qaO]at hil u5 u6
 omega
def gR:Nat->Nat->Nat
 | 0,_=>0
 | k+1,v=>8*(8*v+400)+64*gR k (2*v+300)
def gE:Nat->Nat
 | 0=>0
 | k+1=>8+64*gE k
def gB:Nat->Nat
 | 0=>1
 | k+1=>64*gB k+1
def cQ(v:Nat):Nat:=2215000+8*(324+135*v)+465*(v+2)
structure NdK (es:List En) (k v:Nat) (n:Nod):Prop where
 hal:n.autos.length≤8
 vars:(zaB n).length≤v
 clk:∀d∈zaB n,d.clock.length≤4
 eqs:n.eqs.length≤1000
 autos:∀a∈n.autos,OkA es k a/\(zae a).w≤2200000
 sh:∀d∈zaB n,Sh d.name
 w:(nodT n).w≤2201500+100*v
theorem ztM{es:List En}{d:Decl}(h:OkD es d):Sh d.name:=(zla h.name).1
theorem zvX{a:Auto}{s:Sta}(hs:s∈a.states):(staT s).w≤(zae a).w:=by
 have h3:=zav (f:=staT) (sz:=6) hs
 have h4:=zbJ a
 omega
theorem zsq{es:List En}{k v n:Nat}{au:Auto}{s:Sta}{vars L0:List Decl}(hv:vars.length≤v)(hvs:∀d∈vars,Sh d.name)(ha:OkA es (k+1) au)(hw:(zae au).w≤2200000)(hs:s∈au.states)(x:KS)(i:Nat)(hd:x.defs=zaU vars au)(hk:KW L0 (n+9) x):NdK es k (2*v+300) (zcB x i s vars).2:=by
 obtain⟨_,ho⟩:=ha
 have hS:=ho s hs
 obtain⟨f1,f2,f3,f4,f5⟩:=hS.few
 have hi:=zkF x i s vars
 have hdl:=zg4 vars au
 have hic:=zjW (zbF 100000000 s) x.defs vars [] (by simp)
 have hdc:=zkV vars au
 obtain⟨u1,u2,u3⟩:=zov x.t s.unt ((frF (frF (frF x.a zbM).1 zbo).1 zcd).1,⟨[],[],s.locals,s.eqs⟩)
 dsimp only at u1 u2 u3
 rw[<-hd]at hdl hdc
 obtain⟨b1,b2⟩:=zv4 hk (v:=v) (by omega) hv hvs i s f5 fun d hd=>ztM (hS.locals d hd)
 have b3:=zvX hs
 refine⟨f3,?_,?_,?_,fun a ha=>⟨hS.autos a ha,qaE (zsp hs ha) hw⟩,b2,qaE b1 (by have b4:=qaE b3 hw;clear b1 b2;omega)⟩
 ·rw[zgm]
  show((zcB x i s vars).2.ins++(x.defs++[_,_])++(s.unt.foldl (untF x.t) _).2.locals).length≤_
  exact zwfh
 ·intro d hdm
  rw[zgm]at hdm
  have hdm:d∈vars.foldl (insF (zbF 100000000 s) x.defs) []++(x.defs++[_,_])++(s.unt.foldl (untF x.t) _).2.locals:=hdm
  rcases qaF.1 hdm with h|h
  ·rcases qaF.1 h with h|h
   ·rw[hic d h];exact qaK _
   ·rcases qaF.1 h with h|h
    ·rw[hdc d h];exact qaK _
    ·simp only[qbe,qce,or_false]at h
     rcases h with rfl|rfl <;> exact qaK _
  ·rcases u3 d h with h|h
   ·exact(hS.locals d h).few
   ·rw[h];exact qaK _
 ·show((s.unt.foldl (untF x.t) _).2.eqs++[_,_]).length≤_
  exact zwfh
theorem zi1{P:Nod->Prop}{vars L0 D:List Decl}{v:Nat}(hv:∀d∈vars,Sh d.name)(hD:D.length≤v):∀(l:List Sta) (n:Nat) (q:Nat×KS),(∀s∈l,s.unt.length≤4)->KW L0 (n+l.length*(v+9)) q.2->q.2.defs=D->(∀b∈q.2.bodies,P b)->(∀x i s n,s∈l->x.defs=D->KW L0 (n+9) x->P (zcB x i s vars).2)->∀b∈(l.foldl (fun(p:Nat×KS) s=>(p.1+1,zdN p.2 p.1 s vars)) q).2.bodies,P b
 | [],n,q,_,_,_,h,_=>h
 | s::l,n,q,hu,hk,hd,h,hP=>by
   rw[qam,qbc,<-qaZ]at hk
   rw[qaU]
   refine zi1 hv hD l n _ (fun t ht=>hu t (qar _ ht)) (KW.body (v:=v) hk (by rw[hd];exact hD) hv q.1 s (hu s (qas ..))) hd (fun b hb=>?_) fun x i t n ht=>hP x i t n (qar _ ht)
   rcases qaF.1 (show b∈q.2.bodies++[(zcB q.2 q.1 s vars).2] from hb)with hb|hb
   ·exact h b hb
   ·rw[qaG.1 hb]
    exact hP _ _ s (n+l.length*(v+9)+v) (qas ..) hd hk
theorem zoc{es:List En}{k v:Nat}{n:Nod}(h:NdK es k v n)(hv:v≤90000)(s:List Str×List En)
  (hau:∀au∈n.autos,au.states.length≤8/\∀x∈au.states,x.unl.length≤4/\x.unt.length≤4)
  (hR:∀j (h:j<n.autos.length),Room (autJ s n j).a ((zaU (zaB n) n.autos[j]).length*8+400)/\(autJ s n j).L.length≤10000000/\(autJ s n j).Q.length≤10000000/\(autJ s n j).es.length≤10000000/\(autJ s n (j+1)).bs.length≤1000000)
  (hB:(autJ s n n.autos.length).bs.length≤1000000):zlZ s n:=by
 have h1:=h.vars
 have hl:=zhh n
 have h2:=h.eqs
 exact⟨h.hal,zcP n ⟨by omega,by omega,by omega⟩ fun d hd=>qaE (h.clk d hd) (by decide),by omega,by omega,by omega,fun au ha=>⟨qaE (h.autos au ha).2 (by decide),(hau au ha).1,(hau au ha).2,by have:=zg4 (zaB n) au;omega⟩,hR,hB⟩
theorem zoA(n:Nod):(nodT n).w=9+n.name.length+wsum zaa n.ins+wsum zaa n.outs+wsum zaa n.locals+wsum equT n.eqs+wsum zae n.autos+wsum exT n.assume+wsum exT n.ensure:=by
 rw[nodT,w_ag]
 simp only[qaj,qay,qao,qaI,zno,w_s]
 omega
theorem zoJ(s:Lc)(es:List En)(c:Nc)(Q:List T)(vars:List Decl)(au:Auto)(hl:au.states.length≤8)(hu:∀x∈au.states,x.unl.length≤4/\x.unt.length≤4)(h:Room s.1 ((zaU vars au).length*8+400)):
  (∀b∈(zbv s es c Q vars au).bodies,b.ins.length≤vars.length)/\(∀p∈(zbv s es c Q vars au).parts,p.length=(zaU vars au).length+2):=by
 have h1:=znE s es c Q vars au hl hu 0 (h.mono (by omega))
 exact⟨h1.ins,h1.pa⟩
structure AJ (es:List En) (k v N:Nat) (s:List Str×List En) (n:Nod) (j:Nat) (r:NS):Prop where
 room:Room r.a (N+64*gR k (2*v+300)+(8-j)*(8*v+400))
 L:r.L.length≤v+j*(8*(v+2)+42)
 Q:r.Q.length≤1000+j*(v+100)
 esl:r.es.length=s.2.length+j
 bs:r.bs.length≤8*j
 all:∀b∈r.bs,NdK es k (2*v+300) b
 wl:wsum zaa r.L≤wsum zaa n.locals+j*(100*(8*(v+2)+42))
 wq:wsum equT r.Q≤wsum equT n.eqs+j*cQ v
 tg:∀u∈r.es,u.tags.length≤16
theorem zrk{es:List En}{k:Nat}{a:Auto}(h:OkA es (k+1) a):a.states.length≤8/\∀x∈a.states,x.unl.length≤4/\x.unt.length≤4:=⟨h.1,fun x hx=>⟨(h.2 x hx).few.2.2.2.1,(h.2 x hx).few.2.2.2.2⟩⟩
theorem AJ.next{es:List En}{k v N j:Nat}{s:List Str×List En}{n:Nod}{r:NS}(hn:NdK es (k+1) v n)(h:AJ es k v N s n j r)(hj:j<8){au:Auto}(ha:au∈n.autos):AJ es k v N s n (j+1) (zf0 (ncOf n) (zaB n) r au):=by
 obtain⟨hA,hw⟩:=hn.autos au ha
 obtain⟨f1,f2⟩:=zrk hA
 have hd:=zg4 (zaB n) au
 have hv:=hn.vars
 have hsub:(8-j)*(8*v+400)=(8-(j+1))*(8*v+400)+(8*v+400):=by
  rw[show 8-j=8-(j+1)+1 by omega,qbc]
 have hR:Room r.a (N+64*gR k (2*v+300)+(8-(j+1))*(8*v+400)+((zaU (zaB n) au).length*8+400)):=h.room.mono (by rw[hsub];omega)
 have y1:=zoK (r.a,r.L) r.es (ncOf n) (r.Q.map equT) (zaB n) au f1 f2 _ hR
 have y2:=zuh (r.a,r.L) r.es (ncOf n) (r.Q.map equT) (zaB n) au f1 f2 (hR.mono (by omega))
 obtain⟨_,_,_,y3,y4,y5⟩:=znF (r.a,r.L) r.es (ncOf n) (r.Q.map equT) (zaB n) au f1 f2 (hR.mono (by omega))
 have y6:=zp8 (zbv (r.a,r.L) r.es (ncOf n) (r.Q.map equT) (zaB n) au) (by rw[y3];exact fun x hx=>(f2 x hx).1)
 rw[y3,y4,y5]at y6
 obtain⟨h1,h2,h3,h4,h5,h6,h7,h8,h9⟩:=h
 obtain⟨k1,k2,k3⟩:=KW.auto (s:=(r.a,r.L)) (es:=r.es) (c:=ncOf n) (Q:=r.Q.map equT) (vars:=zaB n) (au:=au) (n:=0) (v:=v) hn.sh f1 f2 (by omega) (h1.mono (by omega))
 refine⟨y1,?_,?_,?_,?_,fun b hb=>?_,?_,?_,fun u hu=>?_⟩
 ·show(zbv _ _ _ _ _ _).L.length≤_
  rw[qbc]
  dsimp only at y2
  omega
 ·show(r.Q++zfv _).length≤_
  rw[qae,qbc]
  omega
 ·show(r.es++[_]).length=_
  rw[qae,h4]
  simp[qaZ]
 ·show(r.bs++(zbv _ _ _ _ _ _).bodies).length≤_
  rw[qae,y5]
  omega
 ·rcases qaF.1 (show b∈r.bs++(zbv _ _ _ _ _ _).bodies from hb)with hb|hb
  ·exact h6 b hb
  ·have hm:au.states.length*(v+9)≤8*(v+9):=qaC _ f1
   obtain⟨k4,_,_⟩:=KW.start (s:=(r.a,r.L)) (es:=r.es) (c:=ncOf n) (Q:=r.Q.map equT) (vars:=zaB n) (au:=au) (n:=au.states.length*(v+9)) hn.sh f1 (fun x hx=>(f2 x hx).1) (h1.mono (by omega))
   exact zi1 hn.sh (v:=v) (D:=zaU (zaB n) au) (qaE hd hv) au.states 0 (0,zbU (r.a,r.L) r.es (ncOf n) (r.Q.map equT) (zaB n) au) (fun x hx=>(f2 x hx).2) (by rw[qaO];exact k4) rfl (fun b hb=>by cases hb) (fun x i t n ht hx hk=>zsq hv hn.sh hA hw ht x i hx hk) b hb
 ·have:=k1.lc.ext.w
  show wsum zaa (zbv _ _ _ _ _ _).L≤_
  rw[qbc]
  dsimp only at y2 this
  omega
 ·obtain⟨g1,g2⟩:=zoJ (r.a,r.L) r.es (ncOf n) (r.Q.map equT) (zaB n) au f1 f2 (hR.mono (by omega))
  have hW:wsum staT au.states≤2200000:=by
   have e1:=zbJ au
   rw[zno]at e1
   omega
  have e2:=zv5 (v:=v) k1 ⟨k2,k3⟩ (by rw[y3];exact f1) (by rw[y3];exact fun x hx=>(f2 x hx).1) (by rw[y3];exact hW) (by rw[y4];omega) (by rw[y5];exact f1) (fun b hb=>qaE (g1 b hb) hv) (fun p hp=>by rw[g2 p hp];omega)
  show wsum equT (r.Q++zfv _)≤_
  rw[zcM,qbc]
  unfold cQ at h8⊢
  omega
 ·rcases qaF.1 (show u∈r.es++[_] from hu)with hu|hu
  ·exact h9 u hu
  ·rw[qaG.1 hu]
   show(zce _ au.states).2.length≤_
   rw[show(zce (frF r.a ze9).1 au.states).2.length=au.states.length from zcq _ _ _]
   omega
theorem AJ.zvj{es:List En}{k v N:Nat}{s:List Str×List En}{n:Nod}(hn:NdK es (k+1) v n)(hR:Room s.1 (N+gR (k+1) v))(ht:∀u∈s.2,u.tags.length≤16):∀j,j≤n.autos.length->AJ es k v N s n j (autJ s n j)
 | 0,_=>by
   have h1:=hn.vars
   have hl:=zhh n
   refine⟨hR.mono (by rw[show gR (k+1) v=8*(8*v+400)+64*gR k (2*v+300) from rfl];omega),?_,?_,rfl,qaK _,(fun b hb=>by cases hb),qbx _ _,qbx _ _,ht⟩
   ·show n.locals.length≤_
    omega
   ·show n.eqs.length≤_
    have:=hn.eqs
    omega
 | j+1,hj=>by
   have h:=AJ.zvj hn hR ht j (by omega)
   have hs:autJ s n (j+1)=zf0 (ncOf n) (zaB n) (autJ s n j) n.autos[j]:=zau _ _ (by omega)
   rw[hs]
   exact h.next hn (by have:=hn.hal;omega) (qad _)
set_option maxRecDepth 8000 in
theorem zob (es:List En):∀(k v:Nat) (s:List Str×List En) (n:Nod) (N:Nat),NdK es k v n->2 ^ k*(v+300)≤5472->Room s.1 (N+gR k v)->s.2.length+gE k≤10000000->gB k≤1000000->(∀u∈s.2,u.tags.length≤16)->
  NodX (k+1) s n/\Room (zaG (k+1) s n).1.1 N/\(zaG (k+1) s n).1.2.length≤s.2.length+gE k/\(zaG (k+1) s n).2.length≤gB k/\(∀u∈(zaG (k+1) s n).1.2,u.tags.length≤16)/\(∀b∈(zaG (k+1) s n).2,(nodT b).w≤90000000)
 | 0,v,s,n,N,h,hv,hR,hE,_,ht=>by
   have ha:n.autos=[]:=by
    rcases hq:n.autos with _|⟨a,l⟩
    ·rfl
    ·exact absurd (h.autos a (by rw[hq];exact qas ..)).1 id
   have hb:∀s,(autJ s n n.autos.length).bs=[]:=fun s=>by rw[ha];rfl
   have hp:∀s,zlZ s n:=fun s=>zoc h (by omega) s (fun au hau=>by rw[ha]at hau;cases hau) (fun j hj=>by rw[ha]at hj;exact absurd hj (qbC _)) (by rw[hb];exact qaK _)
   have hf:zaG 1 s n=((s.1,s.2),[{ n with autos:=[] }]):=by
    unfold zaG
    rw[ha]
    rfl
   refine⟨⟨hp s,fun j hj=>?_,?_⟩,?_,?_,?_,?_,fun b hb1=>?_⟩
   ·rw[hb]at hj
    exact absurd hj (qbC _)
   ·rw[hb]
    exact qaK _
   ·rw[hf]
    exact hR.mono (by omega)
   ·rw[hf]
    exact qbx _ _
   ·rw[hf]
    exact qag _
   ·rw[hf]
    exact ht
   ·rw[hf]at hb1
    rw[qaG.1 hb1]
    have h1:=h.w
    rw[zoA]at h1⊢
    have hz:wsum zae []=0:=rfl
    dsimp only
    omega
 | k+1,v,s,n,N,h,hv,hR,hE,hB,ht=>by
   have hA:=AJ.zvj h hR ht
   have h8:=h.hal
   have hv2:v≤2436/\2 ^ k*(2*v+300+300)≤5472:=by
    rw[Nat.pow_succ,Nat.mul_assoc]at hv
    have h1:1≤2 ^ k:=Nat.one_le_two_pow
    refine⟨?_,by rw[show 2*v+300+300=2*(v+300) by omega];exact hv⟩
    have:1*(2*(v+300))≤2 ^ k*(2*(v+300)):=qaC _ h1
    omega
   have hgE:gE (k+1)=8+64*gE k:=rfl
   have hgB:gB (k+1)=64*gB k+1:=rfl
   have hP:zlZ s n:=by
    refine zoc h (by omega) s (fun au ha=>zrk (h.autos au ha).1) (fun j hj=>?_) ?_
    ·obtain⟨a1,a2,a3,a4,a5,a6,_,_,_⟩:=hA j (by omega)
     have b5:=(hA (j+1) (by omega)).bs
     have hd:=zg4 (zaB n) n.autos[j]
     have hvv:=h.vars
     have hm:1*(8*v+400)≤(8-j)*(8*v+400):=qaC _ (by omega)
     have hm2:j*(8*(v+2)+42)≤8*(8*(v+2)+42):=qaC _ (by omega)
     have hm3:j*(v+100)≤8*(v+100):=qaC _ (by omega)
     exact⟨a1.mono (by omega),by omega,by omega,by omega,by omega⟩
    ·have:=(hA n.autos.length (qag _)).bs
     omega
   obtain⟨a1,a2,a3,a4,a5,a6,a7,a8,a9⟩:=hA n.autos.length (qag _)
   have hr:n.autos.foldl (zf0 (ncOf n) (zaB n)) ⟨s.1,s.2,n.locals,n.eqs,[]⟩=autJ s n n.autos.length:=by unfold autJ;rw[qah]
   generalize hr2:autJ s n n.autos.length=r at*
   have hJ:∀j,j≤r.bs.length->Room (bodJ (k+1) r j).1.1 (N+(64-j)*gR k (2*v+300))/\(bodJ (k+1) r j).1.2.length≤r.es.length+j*gE k/\(bodJ (k+1) r j).2.length≤j*gB k/\(∀i (h:i<r.bs.length),i<j->NodX (k+1) (bodJ (k+1) r i).1 r.bs[i])/\(∀u∈(bodJ (k+1) r j).1.2,u.tags.length≤16)/\(∀b∈(bodJ (k+1) r j).2,(nodT b).w≤90000000):=by
    intro j
    induction j with
    | zero=>
      intro _
      exact⟨a1.mono (by omega),by show r.es.length≤_;omega,qaK _,fun i _ hi=>absurd hi (qbC _),a9,fun b hb=>by cases hb⟩
    | succ j ih=>
      intro hj
      obtain⟨i1,i2,i3,i4,i5,i6⟩:=ih (by omega)
      have hst:bodJ (k+1) r (j+1)=((zaG (k+1) (bodJ (k+1) r j).1 r.bs[j]).1,(bodJ (k+1) r j).2++(zaG (k+1) (bodJ (k+1) r j).1 r.bs[j]).2):=zau (fun(p:(List Str×List En)×List Nod) b=>((zaG (k+1) p.1 b).1,p.2++(zaG (k+1) p.1 b).2)) _ (by omega)
      have hm:(64-j)*gR k (2*v+300)=(64-(j+1))*gR k (2*v+300)+gR k (2*v+300):=by
       rw[show 64-j=64-(j+1)+1 by omega,qbc]
      have hm2:(j+1)*gE k≤64*gE k:=qaC _ (by omega)
      rw[qbc]at hm2
      obtain⟨n1,n2,n3,n4,n5,n6⟩:=zob es k (2*v+300) (bodJ (k+1) r j).1 r.bs[j] (N+(64-(j+1))*gR k (2*v+300)) (a6 _ (qad _)) hv2.2 (i1.mono (by omega)) (by omega) (by omega) i5
      rw[hst]
      refine⟨n2,?_,?_,fun i hi hij=>?_,n5,fun b hb=>?_⟩
      ·dsimp only
       rw[qbc]
       omega
      ·dsimp only
       rw[qae,qbc]
       omega
      ·by_cases he:i=j
       ·subst he
        exact n1
       ·exact i4 i hi (by omega)
      ·rcases qaF.1 hb with hb|hb
       ·exact i6 b hb
       ·exact n6 b hb
   obtain⟨j1,j2,j3,j4,j5,j6⟩:=hJ r.bs.length (qag _)
   have hb64:r.bs.length≤64:=by omega
   have hmE:r.bs.length*gE k≤64*gE k:=qaC _ hb64
   have hmB:r.bs.length*gB k≤64*gB k:=qaC _ hb64
   have hq:r.bs.foldl (fun(p:(List Str×List En)×List Nod) b=>((zaG (k+1) p.1 b).1,p.2++(zaG (k+1) p.1 b).2)) ((r.a,r.es),[])=bodJ (k+1) r r.bs.length:=by unfold bodJ;rw[qah]
   have hf:zaG (k+1+1) s n=((bodJ (k+1) r r.bs.length).1,(bodJ (k+1) r r.bs.length).2++[{ n with locals:=r.L,eqs:=r.Q,autos:=[] }]):=by
    rw[zaG,hr,hq]
   refine⟨?_,?_,?_,?_,by rw[hf];exact j5,fun b hb=>?_⟩
   ·unfold NodX
    rw[hr2]
    refine⟨hP,fun j hj=>⟨j4 j hj hj,?_⟩,?_⟩
    ·have h1:=(hJ (j+1) (by omega)).2.2.1
     have h2:(j+1)*gB k≤64*gB k:=qaC _ (by omega)
     omega
    ·omega
   ·rw[hf]
    exact j1.mono (by omega)
   ·rw[hf]
    dsimp only
    omega
   ·rw[hf]
    dsimp only
    rw[qae,qam,qaD]
    omega
   ·rw[hf]at hb
    rcases qaF.1 hb with hb|hb
    ·exact j6 b hb
    ·rw[qaG.1 hb]
     have h1:=h.w
     have h2:n.autos.length*(100*(8*(v+2)+42))≤8*(100*(8*(v+2)+42)):=qaC _ h8
     have h3:n.autos.length*cQ v≤8*cQ v:=qaC _ h8
     rw[zoA]at h1⊢
     have hz:wsum zae []=0:=rfl
     unfold cQ at a8 h3
     dsimp only
     omega
theorem zhU{σ α:Type}(s:σ):∀(l:List α) (i:Nat),mapN (fun _ (s:σ) (x:α)=>(s,x)) i s l=(s,l)
 | [],_=>rfl
 | x::l,i=>by
   have:=zhU s l (i+1)
   unfold mapN
   rw[this]
set_option maxHeartbeats 16000000 in
theorem zkT (i:Int) (d:Decl) (hd:d.clock.length≤1000000000):Pure Tryz.prog 131 [.i i,.t (zaa d)] (.t (zaa d)):=by
 have cc:=zhv (d.clock.map onT) (by rw[qaa];exact hd)
 unfold zaa
 refine so Tryz.func131 ?_
 repeat' (first|refine zqy ?_|refine zqx ?_|(apply TO.zaE 0 cc;(iterate 3 exact rfl);exact zqb;(iterate 8 exact rfl))|refine TR.region ?_|refine zqi ?_|refine zqh ?_|refine zqj ?_|refine zqg ?_|fail)
 refine RetK.keep 0 rfl (?_:Le _ (.t (.ag [T.s d.name,T.n d.ty,T.sl 3 (d.clock.map onT)]))) rfl rfl rfl rfl rfl ⟨rfl,rfl⟩
 exact Le.tree rfl (TLe.refl _)
set_option maxHeartbeats 16000000 in
theorem zeg (l:List Decl) (hl:l.length≤1000000000) (hd:∀d∈l,d.clock.length≤1000000000):Pure Tryz.prog 82 [.t (.sl 3 (l.map zaa))] (.t (.sl 3 (l.map zaa))):=by
 have cm:=zmN (σ:=Unit) (fun _=>[]) 0 (fun _=>rfl) (fun _=>rfl) 131 [] rfl (fun _ s x=>(s,x)) (fun _ _=>True) l hl (fun i s x hx _=>(zkT i x (hd x (qat hx))).mono (fun r H' h=>h)) (fun _ _ _ _ _=>trivial) () trivial
 rw[zhU]at cm
 refine so Tryz.func82 ?_
 repeat' (first|(apply TO.zdv cm;(iterate 3 exact rfl);exact zqb;exact rfl)|refine TR.region ?_|refine zqi ?_|refine zqh ?_|refine zqj ?_|refine zqg ?_|fail)
 exact zwfj
set_option maxHeartbeats 16000000 in
theorem zc5:∀(m:Nat) (l:List Ex),(T.sl 6 (l.map exT)).w≤m->m≤100000000->Pure Tryz.prog 81 [.t (.sl 6 (l.map exT))] (.t (.sl 6 (l.map exT)))
 | 0,l,h,_=>by have:=zai exT 6 l;omega
 | m+1,l,h,hm=>by
   have hl:=zai exT 6 l
   have hc:∀(i:Int) (e:Ex),e∈l->Pure Tryz.prog 129 [.i i,.t (exT e)] (.t (exT e)):=fun i e he=>by
    have h1:=zav (f:=exT) (sz:=6) he
    have h2:(T.sl 6 (e.args.map exT)).w<(exT e).w:=by
     rw[zay,w_ag]
     simp only[exC,qaj,qao,w_sl]
     omega
    have cc:=zc5 m e.args (by omega) (by omega)
    rw[zay]
    have hc0:exC e=[T.n e.kind,T.n e.op,T.n e.t,T.n e.v,.s e.name,.sl 6 (e.args.map exT)]:=rfl
    rw[hc0]
    clear h1 h2 hc0 hl he h
    refine so Tryz.func129 ?_
    repeat' (first|refine zqy ?_|refine zqx ?_|(apply TO.zaE 0 cc;(iterate 3 exact rfl);exact zqb;(iterate 8 exact rfl))|refine TR.region ?_|refine zqi ?_|refine zqh ?_|refine zqj ?_|refine zqg ?_|fail)
    refine RetK.keep 0 rfl (?_:Le _ (.t (.ag [T.n e.kind,T.n e.op,T.n e.t,T.n e.v,.s e.name,.sl 6 (e.args.map exT)]))) rfl rfl rfl rfl rfl ⟨rfl,rfl⟩
    exact Le.tree rfl (TLe.refl _)
   have cm:=zmP (σ:=Unit) (fun _=>[]) 0 (fun _=>rfl) (fun _=>rfl) 129 [] rfl (fun _ s x=>(s,x)) (fun _ _=>True) l (by omega) (fun i s x hx _=>hc i x (qat hx)) (fun _ _ _ _ _=>trivial) () trivial
   rw[zhU]at cm
   clear hc
   refine so Tryz.func81 ?_
   repeat' (first|(apply TO.zdv cm;(iterate 3 exact rfl);exact zqb;exact rfl)|refine TR.region ?_|refine zqi ?_|refine zqh ?_|refine zqj ?_|refine zqg ?_|fail)
   exact zwfj
end Go.Proofs.YtpnnpgbaiobbjaaGreatDoor
