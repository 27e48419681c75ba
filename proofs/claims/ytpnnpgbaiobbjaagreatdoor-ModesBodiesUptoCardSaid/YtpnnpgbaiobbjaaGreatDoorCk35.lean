import Derived.Test.YtpnnpgbaiobbjaaGreatDoorCk34
set_option linter.all false
namespace Go.Proofs.YtpnnpgbaiobbjaaGreatDoor
open Go Go.TL
attribute [local irreducible] TR TO Then zao RetK Sound zab Kf GG za1
theorem zts{es:List En}:∀(k:Nat) (l:List Auto),(∀a∈l,OkA es k a)->Dp k l
 | 0,l,h=>by
   rcases l with _|⟨a,l⟩
   ·rfl
   ·exact absurd (h a (qar ..)) id
 | k+1,l,h=>fun a ha s hs=>zts k _ ((h a ha).2 s hs).autos
theorem zpm:∀(k:Nat) (l:List Auto),Dp k l->Dp (k+1) l
 | 0,l,h=>fun a ha=>by rw[show l=[] from h]at ha;cases ha
 | k+1,l,h=>fun a ha s hs=>zpm k _ (h a ha s hs)
theorem zvE{p:Prog}(h:OkP p){n:Nod}(hn:n∈p.nodes):Dp 4 n.autos:=zpm 3 _ (zts 3 _ (h.nodes n hn).autos)
theorem zfu(p:Prog)(j:Nat)(h:j<p.nodes.length):expJ p (j+1)=((zaC 4 (expJ p j).1 p.nodes[j]).1,(expJ p j).2++(zaC 4 (expJ p j).1 p.nodes[j]).2):=zau (fun(q:(List Str×List En)×List Nod) n=>((zaC 4 q.1 n).1,q.2++(zaC 4 q.1 n).2)) _ h
def nS(p:Prog)(k:Nat):Nat:=((p.nodes.take k).map fun n=>staD 4 n.autos).sum
theorem zuw{p:Prog}{k:Nat}(h:k<p.nodes.length):nS p (k+1)=nS p k+staD 4 p.nodes[k].autos:=by
 unfold nS
 rw[qax h,qak,qby]
 rfl
def nCn(p:Prog)(k:Nat):Nat:=((p.nodes.take k).map fun n=>cntD 4 n.autos).sum
theorem nCn_next{p:Prog}{k:Nat}(h:k<p.nodes.length):nCn p (k+1)=nCn p k+cntD 4 p.nodes[k].autos:=by
 unfold nCn
 rw[qax h,qak,qby]
 rfl
structure EJ (p:Prog) (k:Nat):Prop where
 sub:zb2 100000000 p ⊆ (expJ p k).1.1
 es:∃E,(expJ p k).1.2=p.enums++E/\E.length=nCn p k
 len:(expJ p k).2.length=nS p k+k
theorem zp5{p:Prog}(h:OkP p):∀k,k≤p.nodes.length->EJ p k
 | 0,_=>⟨fun _ h=>h,⟨[],by simp[expJ],rfl⟩,rfl⟩
 | k+1,hk=>by
   obtain⟨i1,⟨E1,i2,i3⟩,i4⟩:=zp5 h k (by omega)
   obtain⟨r1,⟨E2,r2,r3⟩,B,L,Q,r4,r5,_,_⟩:=zmR 4 (expJ p k).1 p.nodes[k] (zvE h (qad _))
   refine⟨?_,⟨E1++E2,?_,?_⟩,?_⟩
   ·rw[zfu p k (by omega)]
    exact fun m hm=>r1 (i1 hm)
   ·rw[zfu p k (by omega)]
    dsimp only
    rw[r2,i2,qbf]
   ·rw[qae,i3,r3,nCn_next (by omega)]
   ·rw[zfu p k (by omega)]
    dsimp only
    rw[qae,i4,r4,qae,r5,zuw (by omega)]
    simp only[qam,qaE]
    omega
def isC(nm:Str)(x:Ex):Nat:=if x.kind.1=10/\x.name=nm/\x.v.1=1 then 1 else 0
def cntE(nm:Str)(e:Ex):Nat:=((flat e).map (isC nm)).sum
def cntN(nm:Str)(n:Nod):Nat:=(n.eqs.map fun q=>cntE nm q.right).sum
def zcw(nm:Str)(l:List Nod):Nat:=(l.map (cntN nm)).sum
theorem zvq(nm:Str)(x:Ex):isC nm x≤1:=by unfold isC;split <;> omega
theorem zrC{α:Type}{f:α->Nat}:∀(l:List α),(∀x∈l,f x≤1)->(l.map f).sum≤l.length
 | [],_=>qaf _
 | x::l,h=>by
   have h1:=h x (qar ..)
   have h2:=zrC l fun y hy=>h y (qao _ hy)
   rw[qaj,qan,qam]
   omega
theorem zt5(nm:Str)(e:Ex):cntE nm e≤wEx e:=by
 have h:=zrC (flat e) fun x _=>zvq nm x
 rw[zc8]at h
 exact h
theorem zt6(nm:Str)(n:Nod):cntN nm n≤(nodT n).w:=by
 have h1:=zeM (l:=n.eqs) (f:=fun q=>cntE nm q.right) (g:=fun q=>(equT q).w) fun q _=>by
  have h2:=zt5 nm q.right
  have h3:=zdi q.right
  have h4:(equT q).w=1+((T.sl 1 (q.left.map T.s)).w+((exC q.right).map T.w).sum):=by
   rw[show equT q= .ag (.sl 1 (q.left.map T.s)::exC q.right) from rfl,w_ag];rfl
  rw[zax,w_ag]at h3
  have h5:=zki (T.sl 1 (q.left.map T.s))
  omega
 have h2:=zdH n
 have h3:(T.sl 7 (n.eqs.map equT)).w=1+(n.eqs.map fun q=>(equT q).w).sum:=by rw[w_sl,qbi];rfl
 unfold cntN
 omega
theorem zol{α:Type}(f:α->Nat)(l:List α){k:Nat}(h:k<l.length):((l.take (k+1)).map f).sum=((l.take k).map f).sum+f l[k]:=by
 rw[qax h,qak,qby]
 simp
theorem zlD{α:Type}(f:α->Nat)(l:List α)(k:Nat):((l.take k).map f).sum≤(l.map f).sum:=by
 conv=>rhs;rw[<-qaV k l,qak,qby]
 exact qbP _ _
theorem zoj{α:Type}(f:α->Nat)(B:Nat):∀(l:List α),(∀x∈l,f x≤B)->(l.map f).sum≤B*l.length
 | [],_=>qaK _
 | x::l,h=>by
   have h1:=h x (qar ..)
   have h2:=zoj f B l fun y hy=>h y (qao _ hy)
   rw[qaj,qan,qam,qca]
   omega
set_option maxHeartbeats 16000000 in
theorem zl3 (p:Prog) (nm:Str) (hp:zgn p 90000000):Pure Tryz.prog 20 [.t (.ag (zav p)),.s nm] (.i (zcw nm p.nodes:Nat)):=by
 have hmn:(p.nodes.map nodT).length=p.nodes.length:=qaa _
 have b1:=hp.ns
 have bnd:=hp.nd
 have htot:zcw nm p.nodes≤90000000*p.nodes.length:=zoj (cntN nm) 90000000 p.nodes fun n hn=>qaF (zt6 nm n) (bnd n hn)
 have htk:∀k,zcw nm (p.nodes.take k)≤zcw nm p.nodes:=zlD (cntN nm) p.nodes
 have htot2:zcw nm p.nodes≤8100000000000000:=by omega
 unfold zav
 refine so Tryz.func20 ?_
 repeat' (first|refine zqx ?_|refine wkt ?_|refine zab.exit ?_|exact wkc|(intro hc;exact absurd rfl hc)|(intro hc;exfalso;omega)|intro hc|(apply TO.want;exact rfl)|refine wk2 ?_ ?_|refine wk ?_|fail)
 refine TR.zal p.nodes.length (fun _=>True) (fun k=>[(2,.cp [.sl 2 (p.enums.map enT),zaB p.nodes] 0),(3,.cp [.s nm] 0),(5,.ref 0 0),(6,.i k)]) (fun k=>[.cells [.i (zcw nm (p.nodes.take k):Nat)]]) trivial (fun k hlt _=>?_) (fun _=>?_)
 ·have hx:=zfe hlt
  have hN:=zol (cntN nm) p.nodes hlt
  have hk1:=htk (k+1)
  have hk0:=htk k
  have hw:=bnd _ (qad hlt)
  unfold zcw at hk0 hk1 htot2⊢
  rw[hN]at hk1
  clear bnd htk htot
  generalize ((p.nodes.take k).map (cntN nm)).sum=acc at*
  generalize (p.nodes.map (cntN nm)).sum=tot at*
  generalize p.nodes[k]=n at*
  have hwn:=zdH n
  have hln:=zai equT 7 n.eqs
  have hme:(n.eqs.map equT).length=n.eqs.length:=qaa _
  have htq:=zlD (fun q:Equ=>cntE nm q.right) n.eqs
  unfold nodC at hx
  unfold cntN at hk1
  repeat' (first|refine wkt ?_|refine zab.exit ?_|exact wkc|(intro hc;exact absurd rfl hc)|(intro hc;exfalso;omega)|intro hc|(apply TO.want;exact rfl)|refine wk2 ?_ ?_|refine wk ?_|fail)
  refine TR.zal n.eqs.length (fun _=>True) (fun j=>[(2,.cp [.sl 2 (p.enums.map enT),zaB p.nodes] 0),(3,.cp [.s nm] 0),(5,.ref 0 0),(6,.i k),(7,.i j)]) (fun j=>[.cells [.i (acc+((n.eqs.take j).map fun q=>cntE nm q.right).sum:Nat)]]) trivial (fun j hlj _=>?_) (fun _=>?_)
  ·have hy:=zas equT hlj
   have hQ:=zol (fun q:Equ=>cntE nm q.right) n.eqs hlj
   have hq1:=htq (j+1)
   rw[hQ]at hq1
   have hqe:=zi0 (qad hlj)
   have hwx:=zdi n.eqs[j].right
   generalize ((n.eqs.take j).map fun q=>cntE nm q.right).sum=a2 at*
   generalize (n.eqs.map fun q=>cntE nm q.right).sum=t2 at*
   clear htq
   unfold equT at hy
   generalize n.eqs[j]=q at*
   obtain⟨lf,e⟩:=q
   dsimp only at hy hQ hq1 hqe hwx
   have hs:=zcj e
   rw[zax]at hs
   have hc0:exC e=[T.n e.kind,T.n e.op,T.n e.t,T.n e.v,.s e.name,.sl 6 (e.args.map exT)]:=rfl
   rw[hc0]at hs hy
   have hce:∀pre x post,flat e=pre++x::post->(pre.map (isC nm)).sum+isC nm x≤cntE nm e:=fun pre x post h=>by
    unfold cntE
    rw[h,qak,qby,qaj,qan]
    omega
   repeat' (first|refine zqp ?_|refine zqq ?_|refine wv hs ?_|refine wkt ?_|refine zab.exit ?_|exact wkc|(intro hc;exact absurd rfl hc)|(intro hc;exfalso;omega)|intro hc|(apply TO.want;exact rfl)|refine wk2 ?_ ?_|refine wk ?_|fail)
   refine TR.zcY e (fun pre=>[.cells [.i (acc+a2+(pre.map (isC nm)).sum:Nat)]]) (fun _ _=>.go) rfl (by omega) rfl rfl rfl (fun _=>⟨rfl,rfl⟩) (fun _ _=>trivial) (fun fn pre x post hf=>?_) (fun fn=>?_)
   ·have hb:=hce pre x post hf
    have hone:((pre++[x]).map (isC nm)).sum=(pre.map (isC nm)).sum+isC nm x:=by simp
    clear hce hf hs hx hy
    generalize (pre.map (isC nm)).sum=a3 at*
    have hcx:exC x=[T.n x.kind,T.n x.op,T.n x.t,T.n x.v,.s x.name,.sl 6 (x.args.map exT)]:=rfl
    rw[hcx]
    by_cases h:x.kind.1=10/\x.name=nm/\x.v.1=1
    ·have hi:isC nm x=1:=if_pos h
     rw[hi]at hb hone
     obtain⟨g1,g2,g3⟩:=h
     repeat' (first|refine zqw ?_|refine wkt ?_|refine zab.exit ?_|exact wkc|(intro hc;exact absurd rfl hc)|(intro hc;exfalso;omega)|intro hc|(apply TO.want;exact rfl)|refine wk2 ?_ ?_|refine wk ?_|fail)
     refine⟨rfl,?_⟩
     repeat' (first|refine zqw ?_|refine wkt ?_|refine zab.exit ?_|exact wkc|(intro hc;exact absurd rfl hc)|(intro hc;exfalso;omega)|intro hc|(apply TO.want;exact rfl)|refine wk2 ?_ ?_|refine wk ?_|fail)
     all_goals first
      | exact⟨rfl,by(try dsimp only);rw[hone];rfl,rfl⟩
      | (exfalso;omega)
      | (exfalso;simp_all;done)
      | trace_state
    ·have hi:isC nm x=0:=if_neg h
     rw[hi,qb1]at hone
     repeat' (first|refine zqw ?_|refine wkt ?_|refine zab.exit ?_|exact wkc|(intro hc;exact absurd rfl hc)|(intro hc;exfalso;omega)|intro hc|(apply TO.want;exact rfl)|refine wk2 ?_ ?_|refine wk ?_|fail)
     refine⟨rfl,?_⟩
     repeat' (first|refine zqw ?_|refine wkt ?_|refine zab.exit ?_|exact wkc|(intro hc;exact absurd rfl hc)|(intro hc;exfalso;omega)|intro hc|(apply TO.want;exact rfl)|refine wk2 ?_ ?_|refine wk ?_|fail)
     all_goals first
      | exact⟨rfl,by(try dsimp only);rw[hone];rfl,rfl⟩
      | (exfalso;simp_all;done)
      | trace_state
   ·have:∀(l pre:List Ex),za8 (fun _ _=>Out.go) pre l= .go:=by
     exact zwej
    rw[this]
    dsimp only
    have hce2:((flat e).map (isC nm)).sum=cntE nm e:=rfl
    rw[hce2]
    repeat' (first|refine zqw ?_|refine wkt ?_|refine zab.exit ?_|exact wkc|(intro hc;exact absurd rfl hc)|(intro hc;exfalso;omega)|intro hc|(apply TO.want;exact rfl)|refine wk2 ?_ ?_|refine wk ?_|fail)
    exact zab.zlg 1 hlj trivial rfl rfl (by(try dsimp only);rw[hQ,<-qa0];rfl) rfl rfl ⟨rfl,rfl,rfl,rfl,rfl,trivial⟩
  ·rw[qag]
   repeat' (first|refine zqp ?_|refine zqw ?_|refine wkt ?_|refine zab.exit ?_|exact wkc|(intro hc;exact absurd rfl hc)|(intro hc;exfalso;omega)|intro hc|(apply TO.want;exact rfl)|refine wk2 ?_ ?_|refine wk ?_|fail)
   exact zab.zaw hlt trivial (by(try dsimp only);exact⟨rfl,rfl,rfl,rfl,trivial⟩) (by(try dsimp only);rw[hN];rfl)
 ·rw[qag]
  repeat' (first|refine zqw ?_|refine wkt ?_|refine zab.exit ?_|exact wkc|(intro hc;exact absurd rfl hc)|(intro hc;exfalso;omega)|intro hc|(apply TO.want;exact rfl)|refine wk2 ?_ ?_|refine wk ?_|fail)
  exact wkr
theorem ze1(nm:Str)(k o t v:I64)(n:Str)(l:List Ex):cntE nm (.mk k o t v n l)=isC nm (.mk k o t v n l)+(l.map (cntE nm)).sum:=by
 unfold cntE
 rw[zcn,qaj,qan]
 have:∀l:List Ex,((flats l).map (isC nm)).sum=(l.map fun e=>((flat e).map (isC nm)).sum).sum:=by
  intro l
  unfold flats
  rw[zg2,qbi]
  rfl
 rw[show(Ex.mk k o t v n l).args=l from rfl,this]
theorem zi6{nm:Str}{k o t v:I64}{n:Str}{l:List Ex}(h:k.1≠10):isC nm (.mk k o t v n l)=0:=if_neg fun hc=>h hc.1
theorem zup{nm:Str}{k o t v:I64}{n:Str}{l:List Ex}(h:n=nm)(h1:k.1=10)(h2:v.1=1):isC nm (.mk k o t v n l)=1:=if_pos ⟨h1,h,h2⟩
theorem zuo{nm:Str}{k o t v:I64}{n:Str}{l:List Ex}(h:n≠nm):isC nm (.mk k o t v n l)=0:=if_neg fun hc=>h hc.2.1
theorem znI(nm s:Str):cntE nm (vrE s)=0:=by unfold vrE;rw[ze1,zi6 (by decide)];rfl
theorem zhu(nm:Str)(t v:I64):cntE nm (cnE t v)=0:=by unfold cnE;rw[ze1,zi6 (by decide)];rfl
theorem znH(nm s:Str)(o:OnC):cntE nm (smE s o)=0:=by
 unfold smE
 rw[ze1,zi6 (by decide)]
 simp[znI]
theorem zgX(nm:Str)(e:Ex)(he:cntE nm e=0):∀(l:List (Ex×Ex)),(∀p∈l,cntE nm p.1=0/\cntE nm p.2=0)->cntE nm (zcF l e)=0
 | [],_=>he
 | p::l,h=>by
   have h1:=h p (qar ..)
   have h2:=zgX nm e he l fun y hy=>h y (qao _ hy)
   unfold zcF
   rw[ze1,zi6 (by decide)]
   simp[h1.1,h1.2,h2]
theorem zeN{α:Type}{f:α->Nat}:∀ {l:List α},(∀x∈l,f x=0)->(l.map f).sum=0
 | [],_=>rfl
 | x::l,h=>by rw[qaj,qan,h x (qar ..),zeN fun y hy=>h y (qao _ hy)]
theorem zl8(nm s:Str)(t:I64)(l:List Ex)(h:∀e∈l,cntE nm e=0):cntE nm (mrgE s t l)=0:=by
 unfold mrgE
 rw[ze1,zi6 (by decide),zeN h]
abbrev cntL (nm:Str)(l:List Equ):Nat:=(l.map fun q=>cntE nm q.right).sum
theorem zdM(nm:Str)(a b:List Equ):cntL nm (a++b)=cntL nm a+cntL nm b:=by simp[cntL]
theorem zec{nm:Str}{l:List Equ}(h:∀q∈l,cntE nm q.right=0):cntL nm l=0:=zeN h
theorem zjx{α:Type}(nm:Str){h:α->Nat}:∀(l:List α) (f:Nat->α->Equ),(∀i,∀x∈l,cntE nm (f i x).right=h x)->cntL nm (l.mapIdx f)=(l.map h).sum
 | [],_,_=>rfl
 | x::l,f,hf=>by
   have h1:=hf 0 x (qar ..)
   have h2:=zjx nm l (fun i=>f (i+1)) fun i y hy=>hf (i+1) y (qao _ hy)
   rw[qce,qaj,qan]
   show cntE nm (f 0 x).right+cntL nm _=_
   rw[h1,h2]
theorem zkI(nm:Str):∀l:List Nod,(l.map fun b=>if b.name=nm then 1 else 0).sum=(l.map Nod.name).count nm
 | []=>rfl
 | b::l=>by
   rw[qaj,qan,zkI nm l,qaj,qcD]
   by_cases h:b.name=nm
   ·simp[h,qcI]
   ·simp[h]
theorem zsg(nm:Str)(x:KS)(hu:∀s∈x.sts,∀t∈s.unl,cntE nm t.cond=0):cntL nm (zd7 x)=(x.bodies.map Nod.name).count nm:=by
 have e12:cntL nm (zhz x)=0:=zec fun q hq=>by
  unfold zhz at hq
  simp only[qa4,qbD,or_false]at hq
  rcases hq with rfl|rfl <;>
  ·show cntE nm (fbyE _ _)=0
   unfold fbyE
   rw[ze1,zi6 (by decide)]
   simp[zhu,znI]
 have eU:cntL nm (x.sts.mapIdx (eqU x)).flatten=0:=zec fun q hq=>by
  obtain⟨l,hl,hql⟩:=qb0.1 hq
  obtain⟨i,hi,rfl⟩:=qbm.1 hl
  unfold eqU at hql
  obtain⟨j,hj,rfl⟩:=qbm.1 hql
  exact hu _ (qad hi) _ (qad hj)
 have hlv:∀i s th e,(∀t,cntE nm (th t)=0)->cntE nm e=0->cntE nm (zbg x i s th e)=0:=fun i s th e ht he=>zgX nm e he _ fun p hp=>by
  obtain⟨j,hj,rfl⟩:=qbm.1 hp
  exact⟨znH nm _ _,ht _⟩
 have e34:cntL nm (zjD x)=0:=zec fun q hq=>by
  unfold zjD at hq
  simp only[qa4,qbD,or_false]at hq
  rcases hq with rfl|rfl
  ·refine zl8 nm _ _ _ fun e he=>?_
   obtain⟨j,hj,rfl⟩:=qbm.1 he
   exact hlv _ _ _ _ (fun t=>zhu nm _ _) (zhu nm _ _)
  ·refine zl8 nm _ _ _ fun e he=>?_
   obtain⟨j,hj,rfl⟩:=qbm.1 he
   exact hlv _ _ _ _ (fun t=>zhu nm _ _) (znH nm _ _)
 have eB:cntL nm (x.bodies.mapIdx (eqB x))=(x.bodies.map Nod.name).count nm:=by
  rw[<-zkI]
  refine zjx nm x.bodies (eqB x) fun i b _=>?_
  show cntE nm (calE b.name _)=_
  unfold calE
  rw[ze1,zeN fun e he=>?_]
  ·have h10:(i64 10).1=10/\(i64 1).1=1:=by decide
   by_cases hb:b.name=nm
   ·rw[zup hb h10.1 h10.2,if_pos hb]
   ·rw[zuo hb,if_neg hb]
  ·rcases qaB.1 he with he|he
   ·obtain⟨d,_,rfl⟩:=qa1.1 he
    exact znH nm _ _
   ·rw[qaG.1 he]
    exact znH nm _ _
 have eL:cntL nm ((lefts x).mapIdx (eqL x))=0:=by
  rw[zjx nm (h:=fun _=>0) (lefts x) (eqL x) fun j s _=>zl8 nm _ _ _ fun e he=>by
   obtain⟨i,hi,rfl⟩:=qbm.1 he
   exact znI nm _]
  exact zeN fun _ _=>rfl
 unfold zd7
 rw[zdM,zdM,zdM,zdM,e12,eU,e34,eB,eL]
 omega
def NA(nm:Str):Nat->List Auto->Prop
 | 0,_=>True
 | k+1,l=>∀a∈l,∀s∈a.states,(∀q∈s.eqs,cntE nm q.right=0)/\(∀t∈s.unl++s.unt,cntE nm t.cond=0)/\NA nm k s.autos
structure HN (nm:Str) (k:Nat) (n:Nod):Prop where
 eqs:cntL nm n.eqs=0
 autos:NA nm k n.autos
theorem zor(nm:Str)(t:I64):∀(l:List Tran) (u:List Str×Bd),(∀x∈l,cntE nm x.cond=0)->cntL nm (l.foldl (untF t) u).2.eqs=cntL nm u.2.eqs/\((∀p∈u.2.tos,cntE nm p.1=0/\cntE nm p.2=0)->∀p∈(l.foldl (untF t) u).2.tos,cntE nm p.1=0/\cntE nm p.2=0)/\
  ((∀p∈u.2.hows,cntE nm p.1=0/\cntE nm p.2=0)->∀p∈(l.foldl (untF t) u).2.hows,cntE nm p.1=0/\cntE nm p.2=0)
 | [],u,_=>⟨rfl,fun h=>h,fun h=>h⟩
 | x::l,u,h=>by
   obtain⟨h1,h2,h3⟩:=zor nm t l (untF t u x) fun y hy=>h y (qao _ hy)
   rw[qaR]
   refine⟨?_,fun hh=>h2 fun p hp=>?_,fun hh=>h3 fun p hp=>?_⟩
   ·rw[h1]
    show cntL nm (u.2.eqs++[_])=_
    rw[zdM]
    have:=h x (qar ..)
    simp[cntL,this]
   ·rcases qaB.1 (show p∈u.2.tos++[_] from hp)with hp|hp
    ·exact hh p hp
    ·exact zwga
   ·rcases qaB.1 (show p∈u.2.hows++[_] from hp)with hp|hp
    ·exact hh p hp
    ·exact zwga
structure HB (nm:Str) (k:Nat) (b:Nod):Prop extends HN nm k b where
 as0:b.assume=[]
 en0:b.ensure=[]
theorem ztY{nm:Str}{k:Nat}{s:Sta}(h:(∀q∈s.eqs,cntE nm q.right=0)/\(∀t∈s.unl++s.unt,cntE nm t.cond=0)/\NA nm k s.autos)(x:KS)(i:Nat)(vars:List Decl):HB nm k (zch x i s vars).2:=by
 obtain⟨u1,u2,u3⟩:=zor nm x.t s.unt ((frF (frF (frF x.a zbF).1 zbm).1 zb4).1,⟨[],[],s.locals,s.eqs⟩) fun t ht=>h.2.1 t (qbI _ ht)
 refine⟨⟨?_,h.2.2⟩,rfl,rfl⟩
 show cntL nm ((s.unt.foldl (untF x.t) _).2.eqs++[⟨_,zcF _ _⟩,⟨_,zcF _ _⟩])=0
 rw[zdM,u1,zec h.1]
 have n1:=zgX nm (cnE x.t (toI i)) (zhu nm _ _) _ (u2 (by simp))
 have n2:=zgX nm (cnE bT z64) (zhu nm _ _) _ (u3 (by simp))
 show 0+(_+(_+0))=0
 dsimp only at n1 n2⊢
 rw[n1,n2]
 rfl
theorem zhk(P:Nod->Prop)(vars:List Decl):∀(l:List Sta) (q:Nat×KS),(∀b∈q.2.bodies,P b)->(∀x i s,s∈l->P (zch x i s vars).2)->∀b∈(l.foldl (fun(p:Nat×KS) s=>(p.1+1,zdn p.2 p.1 s vars)) q).2.bodies,P b
 | [],_,h,_=>h
 | s::l,q,h,hP=>by
   rw[qaR]
   refine zhk P vars l _ (fun b hb=>?_) fun x i t ht=>hP x i t (qao _ ht)
   rcases qaB.1 (show b∈q.2.bodies++[(zch q.2 q.1 s vars).2] from hb)with hb|hb
   ·exact h b hb
   ·rw[qaG.1 hb]
    exact hP _ _ s (qar ..)
theorem ziP(vars:List Decl):∀(l:List Sta) (q:Nat×KS),(l.foldl (fun(p:Nat×KS) s=>(p.1+1,zdn p.2 p.1 s vars)) q).2.sts=q.2.sts
 | [],_=>rfl
 | s::l,q=>by rw[qaR,ziP vars l];rfl
theorem zpz{nm:Str}{k:Nat}{au:Auto}(h:∀s∈au.states,(∀q∈s.eqs,cntE nm q.right=0)/\(∀t∈s.unl++s.unt,cntE nm t.cond=0)/\NA nm k s.autos)(s:Lc)(es:List En)(c:Nc)(Q:List T)(vars:List Decl):
  cntL nm (zd7 (zbe s es c Q vars au))=((zbe s es c Q vars au).bodies.map Nod.name).count nm/\∀b∈(zbe s es c Q vars au).bodies,HB nm k b:=by
 have hst:(zbe s es c Q vars au).sts=au.states:=ziP vars au.states (0,zbG s es c Q vars au)
 refine⟨zsg nm _ fun t ht u hu=>?_,fun b hb=>?_⟩
 ·rw[hst]at ht
  exact(h t ht).2.1 u (qbx _ hu)
 ·exact zhk (HB nm k) vars au.states (0,zbG s es c Q vars au) (fun b hb=>by cases hb) (fun x i t ht=>ztY (h t ht) x i vars) b hb
theorem zks{nm:Str}{k:Nat}(c:Nc)(vars:List Decl):∀(l:List Auto) (r:NS),NA nm (k+1) l->(∀b∈r.bs,HB nm k b)->cntL nm (l.foldl (zdJ c vars) r).Q+(r.bs.map Nod.name).count nm=cntL nm r.Q+((l.foldl (zdJ c vars) r).bs.map Nod.name).count nm/\∀b∈(l.foldl (zdJ c vars) r).bs,HB nm k b
 | [],r,_,h=>⟨by simp,h⟩
 | a::l,r,hn,h=>by
   obtain⟨y1,y2⟩:=zpz (hn a (qar ..)) (r.a,r.L) r.es c (r.Q.map equT) vars
   have hQ:(zdJ c vars r a).Q=r.Q++zd7 (zbe (r.a,r.L) r.es c (r.Q.map equT) vars a):=rfl
   have hb:(zdJ c vars r a).bs=r.bs++(zbe (r.a,r.L) r.es c (r.Q.map equT) vars a).bodies:=rfl
   obtain⟨i1,i2⟩:=zks c vars l (zdJ c vars r a) (fun b hb=>hn b (qao _ hb)) fun b hm=>by
    rw[hb]at hm
    rcases qaB.1 hm with hm|hm
    ·exact h b hm
    ·exact y2 b hm
   rw[qaR]
   refine⟨?_,i2⟩
   rw[hQ,hb,zdM,y1,qak,qb6]at i1
   omega
structure NT (nm:Str) (n:Nod) (o:List Nod):Prop where
 ex:∃B x,o=B++[x]/\x.name=n.name/\x.assume=n.assume/\x.ensure=n.ensure/\zcw nm o=(B.map Nod.name).count nm/\∀b∈B,b.assume=[]/\b.ensure=[]
theorem zht(nm:Str)(a b:List Nod):zcw nm (a++b)=zcw nm a+zcw nm b:=by simp[zcw]
theorem ziO{nm:Str}{k:Nat}(hN:∀s n,HN nm k n->NT nm n (zaC k s n).2):∀(l:List Nod) (q:(List Str×List En)×List Nod),(∀b∈l,HB nm k b)->(∀b∈q.2,b.assume=[]/\b.ensure=[])->
  (zcw nm (bdF k q l).2+(l.map Nod.name).count nm+(q.2.map Nod.name).count nm=zcw nm q.2+((bdF k q l).2.map Nod.name).count nm)/\∀b∈(bdF k q l).2,b.assume=[]/\b.ensure=[]
 | [],q,_,h=>⟨by simp[bdF],h⟩
 | b::l,q,hl,h=>by
   have hb:=hl b (qar ..)
   obtain⟨B,x,e1,e2,e3,e4,e5,e6⟩:=(hN q.1 b hb.toHN).ex
   obtain⟨i1,i2⟩:=ziO hN l ((zaC k q.1 b).1,q.2++(zaC k q.1 b).2) (fun c hc=>hl c (qao _ hc)) fun c hc=>by
    rcases qaB.1 hc with hc|hc
    ·exact h c hc
    ·rw[e1]at hc
     rcases qaB.1 hc with hc|hc
     ·exact e6 c hc
     ·rw[qaG.1 hc,e3,e4]
      exact⟨hb.as0,hb.en0⟩
   have hst:bdF k q (b::l)=bdF k ((zaC k q.1 b).1,q.2++(zaC k q.1 b).2) l:=rfl
   rw[hst]
   refine⟨?_,i2⟩
   dsimp only at i1
   have e8:((zaC k q.1 b).2.map Nod.name).count nm=(B.map Nod.name).count nm+([x].map Nod.name).count nm:=by rw[e1,qak,qb6]
   rw[zht,e5,qak,qb6,e8]at i1
   rw[qaj,qcD]
   have e7:([x].map Nod.name).count nm=if(b.name == nm)=true then 1 else 0:=by
    rw[qaj,qay,e2,qcD,List.count_nil,qaO]
   rw[e7]at i1
   omega
theorem zn6{nm:Str}:∀(k:Nat) (s:List Str×List En) (n:Nod),HN nm k n->NT nm n (zaC k s n).2
 | 0,s,n,h=>⟨[],{ n with autos:=[] },rfl,rfl,rfl,rfl,by
   show zcw nm [{ n with autos:=[] }]=0
   have:=h.eqs
   simp only[zcw,cntN,qaj,qay,qan,qaH]
   exact this,by intro b hb;cases hb⟩
 | k+1,s,n,h=>by
   obtain⟨a1,a2⟩:=zks (nm:=nm) (k:=k) (ncOf n) (zaz n) n.autos ⟨s.1,s.2,n.locals,n.eqs,[]⟩ h.autos (by intro b hb;cases hb)
   obtain⟨b1,b2⟩:=ziO (zn6 k) (nsF s n).bs (((nsF s n).a,(nsF s n).es),[]) a2 (by intro b hb;cases hb)
   rw[zjc]
   refine⟨_,_,rfl,rfl,rfl,rfl,?_,b2⟩
   rw[zht]
   have h1:=h.eqs
   have e:zcw nm [{ n with locals:=(nsF s n).L,eqs:=(nsF s n).Q,autos:=[] }]=cntL nm (nsF s n).Q:=by simp[zcw,cntN]
   rw[e]
   change cntL nm (nsF s n).Q+0=cntL nm n.eqs+((nsF s n).bs.map Nod.name).count nm at a1
   change zcw nm (bdF k (((nsF s n).a,(nsF s n).es),[]) (nsF s n).bs).2+_+0=0+_ at b1
   omega
theorem zie:∀(m:Nat) (a:List Str) (qs:List Equ) (l:List Auto),a ⊆ zb3 m a qs l
 | 0,a,_,_=>fun _ h=>h
 | m+1,a,qs,l=>fun s hs=>by
   rw[zb3]
   exact sub_fold (fun a y _=>sub_fold fun a s _=>fun x hx=>sub_fold (fun a t _=>zbT a _) (zie m _ _ _ (zgg _ _ (zbX a _ hx)))) (sub_fold (fun a q _=>fun x hx=>zbT _ _ (sub_fold (fun a s _=>zbX a s) hx)) hs)
theorem zfN{α:Type}{f:List Str->α->List Str}{s:Str}{x:α}{l:List α}{a:List Str}(hx:x∈l)(hs:∀a x,x∈l->a ⊆ f a x)(h:s ∉ l.foldl f a):∃b,s ∉ f b x:=qaw fun hc=>h (zjT hx hs fun b=>qaw fun h2=>hc ⟨b,h2⟩)
theorem znG{nm:Str}{a:List Str}{e:Ex}(h:nm ∉ zbb a e):cntE nm e=0:=zeN fun x hx=>qaw fun hc=>by
 refine h (zjT hx (fun a x _=>zoh a x) fun b=>?_)
 unfold isC at hc
 split at hc
 ·rename_i hy
  unfold oneA
  rw[if_neg (by omega),hy.2.1]
  exact zq4 _ _
 ·exact absurd rfl hc
theorem zu0{nm:Str}:∀(k m:Nat) (a:List Str) (qs:List Equ) (l:List Auto),k≤m->nm ∉ zb3 (m+1) a qs l->(∀q∈qs,cntE nm q.right=0)/\NA nm k l
 | k,m,a,qs,l,hm,h=>by
   rw[zb3]at h
   have hS:∀(b:List Str) (s:Sta),b ⊆ (s.unl++s.unt).foldl (fun a t=>zbb a t.cond) (zb3 m (zaZ (ins b s.name) s.locals) s.eqs s.autos):=fun b s x hx=>sub_fold (fun a t _=>zbT a _) (zie m _ _ _ (zgg _ _ (zbX b _ hx)))
   refine⟨fun q hq=>?_,?_⟩
   ·have h1:nm ∉ qs.foldl (fun a q=>zbb (q.left.foldl ins a) q.right) a:=fun hc=>h (sub_fold (fun a y _=>sub_fold fun a s _=>hS a s) hc)
    obtain⟨b,hb⟩:=zfN hq (fun a q _=>fun x hx=>zbT _ _ (sub_fold (fun a s _=>zbX a s) hx)) h1
    exact znG hb
   ·cases k with
    | zero=>exact trivial
    | succ k=>
      intro au hau s hs
      obtain⟨b,hb⟩:=zfN hau (fun a y _=>sub_fold fun a s _=>hS a s) h
      obtain⟨c,hc⟩:=zfN hs (fun a s _=>hS a s) hb
      have hd:nm ∉ zb3 m (zaZ (ins c s.name) s.locals) s.eqs s.autos:=fun hx=>hc (sub_fold (fun a t _=>zbT a _) hx)
      obtain⟨m,rfl⟩:∃j,m=j+1:=⟨m-1,by omega⟩
      obtain⟨e1,e2⟩:=zu0 k m _ _ _ (by omega) hd
      refine⟨e1,fun t ht=>?_,e2⟩
      obtain⟨d,hd⟩:=zfN ht (fun a t _=>zbT a _) hc
      exact znG hd
theorem zvW{p:Prog}{nm:Str}(h:nm ∉ zb2 100000000 p){n:Nod}(hn:n∈p.nodes):HN nm 4 n:=by
 have hS:∀(b:List Str) (n:Nod),b ⊆ zgQ 100000000 b n:=fun b n x hx=>sub_fold (fun a e _=>zbT a e) (sub_fold (fun a e _=>zbT a e) (zie _ _ _ _ (zgg _ _ (zbX b _ hx))))
 obtain⟨b,hb⟩:=zfN hn (fun b n _=>hS b n) h
 have h1:nm ∉ zb3 (99999999+1) (zaZ (ins b n.name) (zaz n)) n.eqs n.autos:=fun hc=>hb (sub_fold (fun a e _=>zbT a e) (sub_fold (fun a e _=>zbT a e) hc))
 obtain⟨e1,e2⟩:=zu0 4 99999999 _ _ _ (by decide) h1
 exact⟨zec e1,e2⟩
structure EB (p:Prog) (k:Nat) (NB:List Str):Prop where
 nd:NB.Nodup
 new:∀m∈NB,m ∉ zb2 100000000 p/\m∈(expJ p k).1.1
 cnt:∀nm,nm ∉ zb2 100000000 p->zcw nm (expJ p k).2=NB.count nm
 who:∀x∈(expJ p k).2,(∃n∈p.nodes,n.name=x.name)\/(x.name∈NB/\x.assume=[]/\x.ensure=[])
theorem zp4{p:Prog}(h:OkP p):∀k,k≤p.nodes.length->∃NB,EB p k NB
 | 0,_=>⟨[],qbh,(by intro m hm;cases hm),fun nm _=>rfl,(by intro x hx;cases hx)⟩
 | k+1,hk=>by
   obtain⟨NB,i1,i2,i3,i4⟩:=zp4 h k (by omega)
   have hsub:=(zp5 h k (by omega)).sub
   have hmem:p.nodes[k]∈p.nodes:=qad _
   obtain⟨r1,_,B,L,Q,r4,r5,r6,r7⟩:=zmR 4 (expJ p k).1 p.nodes[k] (zvE h hmem)
   have hc:∀nm,nm ∉ zb2 100000000 p->zcw nm (zaC 4 (expJ p k).1 p.nodes[k]).2=(B.map Nod.name).count nm/\∀b∈B,b.assume=[]/\b.ensure=[]:=fun nm hnm=>by
    obtain⟨B',x,e1,_,_,_,e5,e6⟩:=(zn6 4 (expJ p k).1 p.nodes[k] (zvW hnm hmem)).ex
    have hB:B'=B:=(List.append_inj' (e1.symm.trans r4) rfl).1
    subst hB
    exact⟨e5,e6⟩
   have hst:=zfu p k (by omega)
   refine⟨NB++B.map Nod.name,?_,fun m hm=>?_,fun nm hnm=>?_,fun x hx=>?_⟩
   ·rw[qbq]
    exact⟨i1,r7,fun x hx y hy e=>(r6 y hy).1 (e ▸ (i2 x hx).2)⟩
   ·rw[hst]
    rcases qaB.1 hm with hm|hm
    ·exact⟨(i2 m hm).1,r1 (i2 m hm).2⟩
    ·exact⟨fun hc=>(r6 m hm).1 (hsub hc),(r6 m hm).2⟩
   ·rw[hst,qb6]
    dsimp only
    rw[zht,i3 nm hnm,(hc nm hnm).1]
   ·rw[hst]at hx
    rcases qaB.1 hx with hx|hx
    ·rcases i4 x hx with g|⟨g1,g2⟩
     ·exact .inl g
     ·exact .inr ⟨qbx _ g1,g2⟩
    ·rw[r4]at hx
     rcases qaB.1 hx with hx|hx
     ·have hxn:x.name∈B.map Nod.name:=qbO hx
      exact .inr ⟨qbI _ hxn,(hc x.name fun hcc=>(r6 _ hxn).1 (hsub hcc)).2 x hx⟩
     ·rw[qaG.1 hx]
      exact .inl ⟨_,hmem,rfl⟩
theorem zpQ(nm:Str)(l:List Nod):zcw nm (l.map plnN)=zcw nm l:=by
 unfold zcw
 rw[qbi]
 rfl
theorem zlZ{p:Prog}(h:OkP p){x:Nod}(hx:x∈(expF p).nodes)(hf:¬∃n∈p.nodes,n.name=x.name):zcw x.name (expF p).nodes=1/\x.assume=[]/\x.ensure=[]:=by
 obtain⟨NB,i1,i2,i3,i4⟩:=zp4 h p.nodes.length (qaf _)
 have hN:(expF p).nodes=(expJ p p.nodes.length).2:=by rw[ztl]
 rw[hN]at hx⊢
 rcases i4 x hx with g|⟨g1,g2⟩
 ·exact absurd g hf
 ·refine⟨?_,g2⟩
  rw[i3 _ (i2 _ g1).1,i1.count,if_pos g1]
mutual
def zmu:Ex->List Ex
 | .mk k o t v n l=>.mk k o t v n l::zi3 l
def zi3:List Ex->List Ex
 | []=>[]
 | a::l=>zmu a++zi3 l
end
mutual
def depS:Ex->Int
 | .mk _ _ _ _ _ l=>zso l 0+1
def zso:List Ex->Int->Int
 | [],a=>a
 | x::l,a=>zso l (max a (depS x))
end
mutual
def resS (w:Plc):Ex->Bool->List Int×Int
 | .mk k o t v n l,b=>if(heads (zpe w l)).2≠0 then([],(heads (zpe w l)).2) else zqQ w (.mk k o t v n l) (heads (zpe w l)).1 b
def zpe (w:Plc):List Ex->List (List Int×Int)
 | []=>[]
 | a::l=>resS w a true::zpe w l
end
theorem znx:∀(m:Nat) (e:Ex),wEx e≤m->flat e=zmu e/\zaY e=depS e/\∀w b,resT w b e=resS w e b
 | 0,e,h=>by have:=zcH e;omega
 | m+1,.mk k o t v n l,h=>by
   have ih:∀a∈l,flat a=zmu a/\zaY a=depS a/\∀w b,resT w b a=resS w a b:=fun a ha=>znx m a (by have:=zbY (e:=.mk k o t v n l) (x:=a) ha;omega)
   have h1:∀l:List Ex,(∀a∈l,flat a=zmu a)->flats l=zi3 l:=by
    intro l
    induction l with
    | nil=>intro _;rfl
    | cons a l ih=>intro h;rw[zi3,<-ih fun b hb=>h b (by simp[hb]),<-h a (by simp)];simp[flats]
   have h2:∀(l:List Ex) (x:Int),(∀a∈l,zaY a=depS a)->(l.map zaY).foldl max x=zso l x:=by
    intro l
    induction l with
    | nil=>intro x _;rfl
    | cons a l ih=>intro x h;rw[zso,qaj,qaR,ih _ fun b hb=>h b (by simp[hb]),h a (by simp)]
   have h3:∀(w:Plc) (l:List Ex),(∀a∈l,∀b,resT w b a=resS w a b)->l.map (resT w true)=zpe w l:=by
    intro w l
    induction l with
    | nil=>intro _;rfl
    | cons a l ih=>intro h;rw[zpe,qaj,ih fun b hb=>h b (by simp[hb]),h a (by simp)]
   refine⟨?_,?_,fun w b=>?_⟩
   ·rw[zcn,zmu];exact congrArg _ (h1 l fun a ha=>(ih a ha).1)
   ·rw[zf1,depS];exact congrArg (·+1) (h2 l 0 fun a ha=>(ih a ha).2.1)
   ·rw[zmY,resS,<-h3 w l fun a ha=>(ih a ha).2.2 w];rfl
theorem znQ(e:Ex):flat e=zmu e:=(znx _ e (qaf _)).1
theorem zv2(e:Ex):zaY e=depS e:=(znx _ e (qaf _)).2.1
theorem zwG(w:Plc)(b:Bool)(e:Ex):resT w b e=resS w e b:=(znx _ e (qaf _)).2.2 w b
theorem zwK(e:Ex):wEx e=(zmu e).length:=by rw[<-znQ,zc8]
theorem zui(l:List Ex):flats l=zi3 l:=by
 induction l with
 | nil=>rfl
 | cons a l ih=>rw[zi3,<-ih,<-znQ];simp[flats]
def upX:Ex:=.mk (i64 3) (i64 6) z64 z64 [] [.mk (i64 5) z64 z64 z64 [] [vrE [120]],cnE (i64 2) (i64 1)]
def staA:Sta:=.mk [65] [] [⟨[[120]],.mk (i64 6) z64 z64 z64 [] [cnE (i64 2) (i64 0),upX]⟩] [] [] [⟨.mk (i64 3) (i64 16) z64 z64 [] [vrE [120],cnE (i64 2) (i64 2)],i64 1,false⟩]
def staB:Sta:=.mk [66] [] [⟨[[120]],cnE (i64 2) (i64 9)⟩] [] [] [⟨cnE (i64 1) (i64 1),i64 0,false⟩]
def exaN:Nod:={ name:=[102],ins:=[],outs:=[⟨[120],i64 2,[]⟩],locals:=[],eqs:=[],autos:=[.mk [staA,staB]],assume:=[],ensure:=[] }
def exaP:Prog:=⟨[],[exaN]⟩
mutual
def exTS:Ex->T
 | .mk k o t v n l=>.ag [T.n k,T.n o,T.n t,T.n v,.s n,.sl 6 (zsr l)]
def zsr:List Ex->List T
 | []=>[]
 | a::l=>exTS a::zsr l
end
theorem zvl(e:Ex):exT e=exTS e:=by
 match e with
 | .mk k o t v n l=>
   have h:∀l:List Ex,(∀a∈l,exT a=exTS a)->l.map exT=zsr l:=by
    intro l
    induction l with
    | nil=>intro _;rfl
    | cons a l ih=>intro h;rw[zsr,<-ih fun b hb=>h b (by simp[hb]),<-h a (by simp)];rfl
   rw[zax,exTS,<-h l fun a ha=>zvl a]
   rfl
termination_by wEx e
decreasing_by exact zbY (e:=.mk k o t v n l) (x:=a) ha
theorem ztR(es:List En):zcv es 0=fun _=>3:=rfl
theorem ztS(es:List En)(k:Nat):zcv es (k+1)=fun a=>orE (if a.states.length=0 then 8 else 0) (orE (if a.states.length≤8 then 0 else 3) (zaf (stE es (zcv es k) a.states.length) a.states)):=rfl
theorem ztU(p:Prog)(seen:List (Int×Str×Int))(node:Int):zb5 p seen node 0=fun _ _ t _=>(t,0):=rfl
theorem ztV(p:Prog)(seen:List (Int×Str×Int))(node:Int)(k:Nat):zb5 p seen node (k+1)=fun vis0 low t a=>(⟨t.own,(zaN (a.states.map (stS p seen node (zb5 p seen node k) (vis0++t.own) (low++t.done)))).foldl ins t.done,t.defs++zaN (a.states.map (stS p seen node (zb5 p seen node k) (vis0++t.own) (low++t.done)))⟩,orE (dupE [] (a.states.map Sta.name)) (orE (zaf Prod.snd (a.states.map (stS p seen node (zb5 p seen node k) (vis0++t.own) (low++t.done)))) (if zcG (a.states.map (stS p seen node (zb5 p seen node k) (vis0++t.own) (low++t.done)))=true then 0 else 8))):=rfl
theorem zr7:zdu 0=fun _ _=>0:=rfl
theorem zr8(k:Nat):zdu (k+1)=fun w a=>zaf (stTy w (zdu k)) a.states:=rfl
def zvM(F:List Str->List Equ->List Auto->List Str)(a:List Str)(qs:List Equ)(l:List Auto):List Str:=l.foldl (fun a x=>x.states.foldl (fun a s=>(s.unl++s.unt).foldl (fun a t=>zbb a t.cond) (F (zaZ (ins a s.name) s.locals) s.eqs s.autos)) a) (qs.foldl (fun a q=>zbb (q.left.foldl ins a) q.right) a)
theorem zpB(m:Nat):zb3 (m+1)=zvM (zb3 m):=by
 funext a qs l
 rfl
set_option maxRecDepth 20000 in
theorem xtaken:zb2 100000000 exaP=[[102],[120],[65],[],[66]]:=by
 unfold zb2 zgQ
 rw[show(100000000:Nat)=99999998+1+1 from rfl,zpB,zpB]
 delta zvM zbb
 simp only[znQ]
 decide +kernel
def xE:Prog:=
 let r:=exaP.nodes.foldl (fun(q:(List Str×List En)×List Nod) n=>((zaC 4 q.1 n).1,q.2++(zaC 4 q.1 n).2)) (([[102],[120],[65],[],[66]],exaP.enums),[])
 ⟨r.1.2,r.2⟩
theorem zpl:expF exaP=xE:=by
 unfold expF
 rw[xtaken]
 rfl
set_option maxRecDepth 20000 in
theorem xshape:za9 exaP=((0,0),0)/\(za9 (expF exaP)).2=0:=by
 delta za9 zci zpj
 simp only[ztS,ztR]
 delta stE zfa equE zca zho sless
 rw[zpl]
 simp only[znQ,zv2,zwK]
 constructor <;> decide +kernel
set_option maxRecDepth 20000 in
theorem xscope:zcy exaP=((0,0),0):=by
 unfold zcy
 rw[xshape.1]
 delta nodF zdd zuB
 simp only[ztV,ztU]
 delta stS equS ziT zpR zd8
 simp only[zui]
 decide +kernel
set_option maxRecDepth 20000 in
theorem xtypes:zaM exaP=((0,0),0):=by
 unfold zaM
 rw[xscope]
 show zfW exaP [(exaN,0)]=_
 unfold zfW
 delta nodG zq8 zrl
 simp only[zr8,zr7]
 delta stTy eqnT zcD
 simp only[zwG]
 decide +kernel
mutual
def twS:T->Nat
 | .v x=>1+strW x
 | .sl _ es=>1+twSs es
 | .ag cs=>1+twSs cs
def twSs:List T->Nat
 | []=>0
 | a::l=>twS a+twSs l
end
theorem tw_S(t:T):t.w=twS t:=by
 have h:∀l:List T,(∀a∈l,a.w=twS a)->(l.map T.w).sum=twSs l:=by
  intro l
  induction l with
  | nil=>intro _;rfl
  | cons a l ih=>intro h;rw[twSs,<-ih fun b hb=>h b (by simp[hb]),<-h a (by simp)];rfl
 match t with
 | .v x=>rw[T.w,twS]
 | .sl _ es=>rw[w_sl,twS,h es fun a ha=>tw_S a]
 | .ag cs=>rw[w_ag,twS,h cs fun a ha=>tw_S a]
decreasing_by
 all_goals
  have:=qbj ha
  simp;omega
theorem zud:exT=exTS:=funext zvl
theorem xw:(T.ag (zav exaP)).w≤1000:=by
 rw[tw_S]
 delta zav zaB exaP exaN
 simp only[nodT,List.map,zb6,Auto.states,zbc,staA,staB,Sta.eqs,Sta.name,Sta.locals,Sta.autos,Sta.unl,Sta.unt,equT,zah,exC,zud]
 decide +kernel
theorem xw2:(T.ag (zav (expF exaP))).w≤90000000:=by
 rw[tw_S,zpl]
 delta zav zaB nodT equT exC
 rw[zud]
 decide +kernel
end Go.Proofs.YtpnnpgbaiobbjaaGreatDoor
