import Derived.Test.YtpnnpgbaiobbjaaGreatDoorPz
import Derived.Lib.SliceRun
import Derived.Test.YtpnnpgbaiobbjaaGreatDoorPk6
import Derived.Test.YtpnnpgbaiobbjaaGreatDoorPk11
import Derived.Test.YtpnnpgbaiobbjaaGreatDoorPk15
import Derived.Test.YtpnnpgbaiobbjaaGreatDoorPk19
set_option linter.unusedSimpArgs false
set_option linter.unusedVariables false
namespace Go.Proofs.YtpnnpgbaiobbjaaGreatDoor
open Go Go.TL
attribute [local irreducible] TR TO Then zam RetK Sound zab Kf GG zaX
set_option maxHeartbeats 4000000 in
theorem zgn:∀(m:Nat) (l:List Auto),(T.sl 1 (l.map zae)).w≤100000000->(T.sl 1 (l.map zae)).w≤m->Pure Tryz.prog 41 [.t (.sl 1 (l.map zae))] (.i (zaO m l:Nat))
 | 0,l,_,hm=>by have:=zis (T.sl 1 (l.map zae));omega
 | m+1,l,hl,hm=>by
   have ih:=zgn m
   have hml:(l.map zae).length=l.length:=qaa _
   have hlb:=zai zae 1 l
   have htot:=count_le (m+1) l
   unfold zaO at htot⊢
   obtain⟨fs,hfs⟩:∃fs:Nat->Sta->Nat,fs=fun n s=>n+zaO m s.autos:=⟨_,rfl⟩
   obtain⟨g,hg⟩:∃g:Nat->Auto->Nat,g=fun n x=>x.states.foldl fs n:=⟨_,rfl⟩
   rw[show(fun(n:Nat) (a:Auto)=>a.states.foldl (fun n s=>n+zaO m s.autos) n)=g by rw[hg,hfs]]at htot⊢
   have hge:∀a n,n≤g n a:=fun a n=>by rw[hg,hfs];exact zhf m a n
   refine so Tryz.func41 ?_
   repeat' (first|refine wkt ?_|fail)
   refine TR.zak l.length (fun _=>True) (fun j=>[(0,.t (.sl 1 (l.map zae))),(3,.i (((l.take j).foldl g l.length:Nat):Int)),(4,.i j)]) (fun _=>[]) trivial (fun j hlt _=>?_) (fun _=>?_) ⟨rfl,by rw[<-hml];rfl,rfl,trivial⟩ rfl
   ·have hx:=zar zae hlt
    rw[zbA]at hx
    have hn:=zas g l.length hlt
    have hup:(l.take (j+1)).foldl g l.length≤l.foldl g l.length:=zd1 hge l _ _
    have hsi:=fun s hs=>zfC (qad hlt) (s:=s) hs
    have hsb:l[j].states.length≤100000000:=by
     exact zwdg
    rw[hn]at hup
    generalize (l.take j).foldl g l.length=acc at*
    have hgx:g acc l[j]=l[j].states.foldl fs acc:=by rw[hg]
    rw[hgx]at hn hup
    clear hgx hge
    generalize l[j]=x at*
    obtain⟨sts⟩:=x
    simp only[Auto.states]at hx hn hup hsi hsb
    have hmc:(sts.map staT).length=sts.length:=qaa _
    repeat' (first|refine wkt ?_|exact wkc|intro hc|refine wk2 ?_ ?_|fail)
    refine TR.zak sts.length (fun _=>True) (fun k=>[(0,.t (.sl 1 (l.map zae))),(3,.i (((sts.take k).foldl fs acc:Nat):Int)),(4,.i j),(5,.i k)]) (fun _=>[]) trivial (fun k hlk _=>?_) (fun _=>?_) ⟨rfl,rfl,rfl,rfl,trivial⟩ rfl
    ·have hy:=zar staT hlk
     rw[za6]at hy
     have hn2:=zas fs acc hlk
     have hup2:(sts.take (k+1)).foldl fs acc≤sts.foldl fs acc:=zd1 (fun s n=>by rw[hfs];exact qct _ _) sts _ _
     rw[hn2]at hup2
     have hw:=hsi _ (qad hlk)
     generalize (sts.take k).foldl fs acc=acc2 at*
     have hfx:fs acc2 sts[k]=acc2+zaO m sts[k].autos:=by rw[hfs]
     rw[hfx]at hn2 hup2
     have c2:=ih sts[k].autos (by omega) (by omega)
     generalize zaO m sts[k].autos=c at*
     generalize sts[k]=s at*
     repeat' (first|refine wkt ?_|refine zqo ?_|refine zqp ?_|refine wv c2 ?_|refine zqv ?_|refine zab.exit ?_|exact wkc|intro hc|refine wk2 ?_ ?_|refine wk ?_|fail)
     exact zab.zat hlk trivial (by(try dsimp only);rw[hn2,qbB];exact⟨rfl,rfl,rfl,rfl,trivial⟩) rfl
    ·exact zwbh
   ·exact zwcw
theorem zjC(m:Nat):∀(l:List Sta) (n:Nat),n≤m+1->l.foldl (fun n s=>max n (1+zfZ m s.autos)) n≤m+1
 | [],n,h=>h
 | s::l,n,h=>by
   have h1:=zea m s.autos
   rw[<-zgT]at h1
   exact zjC m l _ (by show max n (1+zfZ m s.autos)≤m+1;omega)
theorem zkZ(m:Nat):∀(l:List Auto) (n:Nat),n≤m+1->l.foldl (fun n a=>a.states.foldl (fun n s=>max n (1+zfZ m s.autos)) (max n 1)) n≤m+1
 | [],n,h=>h
 | a::l,n,h=>zkZ m l _ (zjC m a.states (max n 1) (by omega))
set_option maxHeartbeats 4000000 in
theorem zhF:∀(m:Nat) (l:List Auto),m≤100000001->(T.sl 1 (l.map zae)).w≤100000000->(T.sl 1 (l.map zae)).w≤m->Pure Tryz.prog 43 [.t (.sl 1 (l.map zae))] (.i (zfZ m l:Nat))
 | 0,l,_,_,hm=>by have:=zis (T.sl 1 (l.map zae));omega
 | m+1,l,hm0,hl,hm=>by
   have ih:=zhF m
   have hml:(l.map zae).length=l.length:=qaa _
   have hlb:=zai zae 1 l
   have htot:=fun l=>zkZ m l 0 (by omega)
   have htos:=zjC m
   unfold zfZ
   obtain⟨fs,hfs⟩:∃fs:Nat->Sta->Nat,fs=fun n s=>max n (1+zfZ m s.autos):=⟨_,rfl⟩
   rw[<-hfs]at htos
   obtain⟨g,hg⟩:∃g:Nat->Auto->Nat,g=fun n x=>x.states.foldl fs (max n 1):=⟨_,rfl⟩
   rw[show(fun(n:Nat) (a:Auto)=>a.states.foldl (fun n s=>max n (1+zfZ m s.autos)) (max n 1))=g by rw[hg,hfs]]at htot⊢
   refine so Tryz.func43 ?_
   repeat' (first|refine wkt ?_|fail)
   refine TR.zak l.length (fun _=>True) (fun j=>[(0,.t (.sl 1 (l.map zae))),(3,.i (((l.take j).foldl g 0:Nat):Int)),(4,.i j)]) (fun _=>[]) trivial (fun j hlt _=>?_) (fun _=>?_) ⟨rfl,rfl,rfl,trivial⟩ rfl
   ·have hx:=zar zae hlt
    rw[zbA]at hx
    have hn:=zas g 0 hlt
    have hup:=htot (l.take j)
    have hsi:=fun s hs=>zfC (qad hlt) (s:=s) hs
    have hsb:l[j].states.length≤100000000:=by
     exact zwdg
    generalize (l.take j).foldl g 0=acc at*
    have hgx:g acc l[j]=l[j].states.foldl fs (max acc 1):=by rw[hg]
    rw[hgx]at hn
    clear hgx htot
    generalize l[j]=x at*
    obtain⟨sts⟩:=x
    simp only[Auto.states]at hx hn hsi hsb
    have hmc:(sts.map staT).length=sts.length:=qaa _
    repeat' (first|refine wkt ?_|(apply TO.maxi;(iterate 3 exact rfl))|exact wkc|intro hc|refine wk2 ?_ ?_|fail)
    refine TR.zak sts.length (fun _=>True) (fun k=>[(0,.t (.sl 1 (l.map zae))),(3,.i (((sts.take k).foldl fs (max acc 1):Nat):Int)),(4,.i j),(5,.i k)]) (fun _=>[]) trivial (fun k hlk _=>?_) (fun _=>?_) ⟨rfl,by rw[qbk,qcF,zeJ];rfl,rfl,rfl,trivial⟩ rfl
    ·have hy:=zar staT hlk
     rw[za6]at hy
     have hn2:=zas fs (max acc 1) hlk
     have hup2:=htos (sts.take k) (max acc 1) (by omega)
     have hw:=hsi _ (qad hlk)
     generalize (sts.take k).foldl fs (max acc 1)=acc2 at*
     have hfx:fs acc2 sts[k]=max acc2 (1+zfZ m sts[k].autos):=by rw[hfs]
     rw[hfx]at hn2
     have c2:=ih sts[k].autos (by omega) (by omega) (by omega)
     have hc3:=zea m sts[k].autos
     rw[<-zgT]at hc3
     generalize zfZ m sts[k].autos=c at*
     generalize sts[k]=s at*
     repeat' (first|refine wkt ?_|refine zqo ?_|refine zqp ?_|refine wv c2 ?_|refine zqv ?_|(apply TO.maxi;(iterate 3 exact rfl))|refine zab.exit ?_|exact wkc|intro hc|refine wk2 ?_ ?_|refine wk ?_|fail)
     exact zab.zat hlk trivial (by(try dsimp only);rw[hn2,zeJ,qbB];exact⟨rfl,rfl,rfl,rfl,trivial⟩) rfl
    ·exact zwbh
   ·exact zwcw
set_option maxHeartbeats 4000000 in
theorem zj1 (p:Prog) (hw:(T.ag (zay p)).w≤100000000):Pure Tryz.prog 15 [.t (.ag (zay p))] (.i (countP p.nodes:Nat)):=by
 have hm2:(p.nodes.map nodT).length=p.nodes.length:=qaa _
 have hl2:=zai nodT 8 p.nodes
 have hwn:=znw hw
 have hno:∀n∈p.nodes,(T.sl 1 (n.autos.map zae)).w≤100000000:=fun n h=>zfu hw h
 have htot:=countP_le p.nodes
 have htk:=zeL p.nodes
 unfold countP at*
 obtain⟨g,hg⟩:∃g:Nat->Nod->Nat,g=fun n x=>n+zaO 100000001 x.autos:=⟨_,rfl⟩
 rw[<-hg]at htot htk⊢
 unfold zay
 clear hw
 refine so Tryz.func15 ?_
 repeat' (first|refine wkt ?_|fail)
 refine TR.zak p.nodes.length (fun _=>True) (fun j=>[(1,.cp [.sl 2 (p.enums.map enT),zax p.nodes] 0),(3,.i (((p.nodes.take j).foldl g 0:Nat):Int)),(4,.i j)]) (fun _=>[]) trivial (fun j hlt _=>?_) (fun _=>?_) ⟨rfl,rfl,rfl,trivial⟩ rfl
 ·have hx:=zdQ hlt
  have hn:=zas g 0 hlt
  have hb1:=htk j
  have hb2:=htk (j+1)
  rw[hn]at hb2
  have hwa:=hno _ (qad hlt)
  generalize (p.nodes.take j).foldl g 0=acc at*
  have hgx:g acc p.nodes[j]=acc+zaO 100000001 p.nodes[j].autos:=by rw[hg]
  rw[hgx]at hn hb2
  have c2:=zgn 100000001 p.nodes[j].autos (by omega) (by omega)
  clear hgx hno
  generalize zaO 100000001 p.nodes[j].autos=c at*
  generalize p.nodes[j]=x at*
  unfold nodC at hx
  repeat' (first|refine wkt ?_|refine zqo ?_|refine wv c2 ?_|refine zqv ?_|refine zab.exit ?_|exact wkc|intro hc|refine wk2 ?_ ?_|refine wk ?_|fail)
  exact zab.zat hlt trivial (by(try dsimp only);rw[hn,qbB];exact⟨rfl,rfl,rfl,trivial⟩) rfl
 ·exact zwcw
set_option maxHeartbeats 4000000 in
theorem zly (p:Prog) (hw:(T.ag (zay p)).w≤100000000):Pure Tryz.prog 17 [.t (.ag (zay p))] (.i (zdl p.nodes:Nat)):=by
 have hm2:(p.nodes.map nodT).length=p.nodes.length:=qaa _
 have hl2:=zai nodT 8 p.nodes
 have hwn:=znw hw
 have hno:∀n∈p.nodes,(T.sl 1 (n.autos.map zae)).w≤100000000:=fun n h=>zfu hw h
 have htk:=fun j=>zjB (p.nodes.take j) 0 (by decide)
 unfold zdl at*
 obtain⟨g,hg⟩:∃g:Nat->Nod->Nat,g=fun n x=>max n (zbP 100000001 x.autos):=⟨_,rfl⟩
 rw[<-hg]at htk⊢
 unfold zay
 clear hw
 refine so Tryz.func17 ?_
 repeat' (first|refine wkt ?_|fail)
 refine TR.zak p.nodes.length (fun _=>True) (fun j=>[(1,.cp [.sl 2 (p.enums.map enT),zax p.nodes] 0),(3,.i (((p.nodes.take j).foldl g 0:Nat):Int)),(4,.i j)]) (fun _=>[]) trivial (fun j hlt _=>?_) (fun _=>?_) ⟨rfl,rfl,rfl,trivial⟩ rfl
 ·have hx:=zdQ hlt
  have hn:=zas g 0 hlt
  have hb1:=htk j
  have hwa:=hno _ (qad hlt)
  generalize (p.nodes.take j).foldl g 0=acc at*
  have hgx:g acc p.nodes[j]=max acc (zbP 100000001 p.nodes[j].autos):=by rw[hg]
  rw[hgx]at hn
  have hb2:=zea 100000001 p.nodes[j].autos
  have c2:=zhF 100000001 p.nodes[j].autos (by omega) (by omega) (by omega)
  rw[zgT]at c2
  clear hgx hno
  generalize zbP 100000001 p.nodes[j].autos=c at*
  generalize p.nodes[j]=x at*
  unfold nodC at hx
  repeat' (first|refine wkt ?_|refine zqo ?_|refine wv c2 ?_|(apply TO.maxi;(iterate 3 exact rfl))|refine zab.exit ?_|exact wkc|intro hc|refine wk2 ?_ ?_|refine wk ?_|fail)
  exact zab.zat hlt trivial (by(try dsimp only);rw[hn,zeJ];exact⟨rfl,rfl,rfl,trivial⟩) rfl
 ·exact zwcw
end Go.Proofs.YtpnnpgbaiobbjaaGreatDoor
namespace Go.TL
open Go
section rules
variable {P:Program}{all:Array Oper}
def allH(Q:Heap->Prop):List Heap->Prop
 | []=>True
 | H::l=>Q H/\allH Q l
theorem zmU{Q:Heap->Prop}:∀ {l:List Heap},allH Q l->∀H∈l,Q H
 | [],_,H,h=>by cases h
 | x::l,h,H,hm=>by
   rcases qby.1 hm with rfl|hm
   ·exact h.1
   ·exact zmU h.2 H hm
def atG(c:Nat)(g:Prop)(i:Nat):Prop:=bif Nat.beq i c then g else True
def zi6(P:Program)(n:Nat)(K:TK)(c:Nat)(g:Prop)(all:Array Oper)(full:Env)(G:List Heap):Nat->List Oper->List (SV×Nat×Nat)->List Heap->Prop
 | _,[],[],_=>True
 | i,o::l,(v,lo,hi)::t,hs=>bif Nat.blt hi lo then(match hs with
    | H1::H2::hs=>(∀env,TO false P n all [o] (zaq full (slotsOf all o)++env) H1 (NKP K (atG c g i) (putE o.dst v (zaq full (slotsOf all o)++env)) H2))/\zi6 P n K c g all full G (i+1) l t (H2::hs)
    | _=>False)
   else allH (fun H=>∀env,TO false P n all [o] (zaq full (slotsOf all o)++env) H (NKP K (atG c g i) (putE o.dst v (zaq full (slotsOf all o)++env)) H)) ((G.drop lo).take (hi+1-lo))/\zi6 P n K c g all full G (i+1) l t hs
 | _,_,_,_=>False
abbrev efX (x:SV×Nat×Nat):Bool:=Nat.blt x.2.2 x.2.1
def effX(t:List (SV×Nat×Nat))(i:Nat):Nat:=((t.take i).filter efX).length
theorem zi6.get{n:Nat}{K:TK}{c:Nat}{g:Prop}{full:Env}{G:List Heap}:∀ {l:List Oper} {t:List (SV×Nat×Nat)} {hs:List Heap} {k:Nat},zi6 P n K c g all full G k l t hs->l.length=t.length/\∀(i:Nat) o x,l[i]?=some o->t[i]?=some x->
   (efX x=false->allH (fun H=>∀env,TO false P n all [o] (zaq full (slotsOf all o)++env) H (NKP K (atG c g (k+i)) (putE o.dst x.1 (zaq full (slotsOf all o)++env)) H)) ((G.drop x.2.1).take (x.2.2+1-x.2.1)))/\
   (efX x=true->∃H1 H2,hs[effX t i]?=some H1/\hs[effX t i+1]?=some H2/\∀env,TO false P n all [o] (zaq full (slotsOf all o)++env) H1 (NKP K (atG c g (k+i)) (putE o.dst x.1 (zaq full (slotsOf all o)++env)) H2))
 | [],[],hs,k,_=>by simp
 | o::l,(v,lo,hi)::t,hs,k,h=>by
   simp only[zi6]at h
   cases hb:Nat.blt hi lo with
   | false=>
     rw[hb]at h
     obtain⟨h1,h2⟩:=h
     obtain⟨g1,g2⟩:=zi6.get h2
     refine⟨by simp[g1],fun i o' x' ho hv=>?_⟩
     cases i with
     | zero=>simp at ho hv;subst hv;subst ho;exact⟨fun _=>h1,fun e=>by rw[show efX (v,lo,hi)=Nat.blt hi lo from rfl,hb]at e;cases e⟩
     | succ i=>
       have:=g2 i o' x' (by simpa using ho) (by simpa using hv)
       have e:effX ((v,lo,hi)::t) (i+1)=effX t i:=by simp[effX,efX,hb]
       rw[e,show k+(i+1)=k+1+i by omega]
       exact this
   | true=>
     rw[hb]at h
     match hs,h with
     | H1::H2::hs,h=>
       obtain⟨h1,h2⟩:=h
       obtain⟨g1,g2⟩:=zi6.get h2
       refine⟨by simp[g1],fun i o' x' ho hv=>?_⟩
       cases i with
       | zero=>simp at ho hv;subst hv;subst ho;exact⟨fun e=>by(rw[show efX (v,lo,hi)=Nat.blt hi lo from rfl,hb]at e;cases e),fun _=>⟨H1,H2,rfl,rfl,h1⟩⟩
       | succ i=>
         have:=g2 i o' x' (by simpa using ho) (by simpa using hv)
         have e:effX ((v,lo,hi)::t) (i+1)=effX t i+1:=by simp[effX,efX,hb]
         rw[e,show k+(i+1)=k+1+i by omega]
         simpa using this
     | [],h=>exact h.elim
     | [_],h=>exact h.elim
 | [],_::_,_,_,h=>by exact h.elim
 | _::_,[],_,_,h=>by exact h.elim
def zsm(ops:Array Oper)(t:List (Nat×Nat))(m:Nat):Bool:=
 (List.range t.length).all fun i=>match t[i]? with
   | some x=>Nat.blt x.2 x.1 || (List.range m).all fun c=>!okC ops (t.map fun x=>Nat.blt x.2 x.1) i c || (Nat.ble x.1 c && Nat.ble c x.2)
   | none=>true
theorem TR.zaB(c:Nat){g:Prop}{n:Nat}{env0 envF:Env}{H0 HF:Heap}{K:TK}{id':Nat}{l:List Oper}(t:List (SV×Nat×Nat))(hs:List Heap)(hm:P.follows .mixedOrders=true)
  (hB:(mixB l.toArray ((t.map (·.2)).map fun x=>Nat.blt x.2 x.1) && zsm l.toArray (t.map (·.2)) hs.length)=true)(h0:hs[0]?=some H0)
  (hp:zi6 P n K c g l.toArray (zaZ l.toArray (t.map (·.1)) env0) hs 0 l t hs)(hc:Nat.blt c l.length=true)(hF:hs[(t.filter efX).length]?=some HF)(hE:zbf (zaZ l.toArray (t.map (·.1)) env0)=some envF)(hK:g->K .normal envF HF):
  TR P n (.region id' l.toArray true) env0 H0 K:=by
 obtain⟨g1,g2⟩:=hp.get
 rw[qav]at hB
 obtain⟨hB,hR⟩:=hB
 have hfl:(t.map (·.2)).map (fun x=>Nat.blt x.2 x.1)=t.map efX:=by rw[qbo];rfl
 rw[hfl]at hB
 intro φ m a h1 h2 h3 h4
 have hef:∀i,((t.map efX).take i |>.filter id).length=effX t i:=by
  exact zwfc
 have hall:((t.map efX).filter id).length=(t.filter efX).length:=by
  rw[qbU,qaa];rfl
 have s0:Step m ⟨m.A,m.β,m.H,{ m.w with drawn:=m.w.drawn+1 }⟩/\HRel ⟨m.A,m.β,m.H,{ m.w with drawn:=m.w.drawn+1 }⟩:=zcD h2 ⟨rfl,rfl,rfl,qae _,fun _ _=>rfl⟩
 refine zba (wpIn_region_any hm ?_)
 refine zgL [] (G:=fun i=>atG c g (0+i)) (vs:=t.map (·.1)) (fl:=t.map efX) (hs:=hs) (m0:=m) (fun t ht=>by cases ht) hB (by simp[g1]) (by simp[g1]) ?_ ?_ (by rw[hall];exact hF) (fun hG=>by
   rw[zaR hE]at hK
   have:=hG c (by have:=qah hc;simp;omega)
   unfold atG at this
   rw[qaN,show Nat.beq c c=true from qbh c]at this
   exact hK this) l.toArray.size (Array.replicate l.toArray.size false)
  ⟨m.A,m.β,m.H,{ m.w with drawn:=m.w.drawn+1 }⟩ a (by simp) ?_ ?_ ?_ s0.1 s0.2 ?_ (h4.step h2 s0.1)
 ·exact zwd
 ·exact zwbb
 ·exact zwfl
 ·exact zwco
 ·exact zwcf
 ·exact zwh
end rules
end Go.TL
namespace Go.Proofs.YtpnnpgbaiobbjaaGreatDoor
open Go Go.TL
attribute [local irreducible] TR TO Then zam RetK Sound zab Kf GG zaX
section rules
variable {n:Nat}{env env':Env}{H H':Heap}{K:TK}{all:Array Oper}{rest l:List Oper}{d:Nat}{ty:TypeId}{pos:String}{aft:Array Edge}{q:Bool}{st:St}{fr fr':List Fr1}
theorem goA(h:run1 tab n true 300 ⟨.ops q all l,env,H,fr⟩=some ⟨st,env',H',fr'⟩)(hk:GG Tryz.prog n K ⟨st,env',H',fr'⟩):TO q Tryz.prog n all l env H (Kf Tryz.prog n fr K):=TO.go zah 300 true h hk
theorem goB(h:run1 tab n true 300 ⟨.ops q all l,env,H,[]⟩=some ⟨st,env',H',fr'⟩)(hk:GG Tryz.prog n K ⟨st,env',H',fr'⟩):TO q Tryz.prog n all l env H K:=TO.go0 zah 300 true h hk
theorem goC{e:zcL}(h:run1 tab n true 300 ⟨.ex e,env,H,fr⟩=some ⟨st,env',H',fr'⟩)(hk:GG Tryz.prog n K ⟨st,env',H',fr'⟩):Kf Tryz.prog n fr K e env H:=zcL.go zah 300 true h hk
theorem ztN{cargs:List SV}{v:SV}{f:Operand}{fid:FuncId}{caps:List SV}{args:Array Operand}{ts:Array TypeId}{vs:List SV}(hs:Pure Tryz.prog fid cargs v)(hd:Nat.ble (d+1) n=true)
  (hf:env.val f=some (.fn fid caps))(ha:env.vals args.toList=some vs)(hl:Les (vs++caps) cargs)(hu:unders 0 cargs=true)(hv:v.under 0=true)
  (k:TO false Tryz.prog n all rest ((d,v)::env) H K):
  TO false Tryz.prog n all (⟨some d,.call { callee:=.value f,args:=args,argTypes:=ts },ty,pos,aft,none⟩::rest) env H K:=TO.zdN hs hd hf ha hl hu hv k
end rules
theorem wma{G Q:Prop}(k:Q)(h:Hold Q->G:=by
  first
  | (intro k;apply goA;exact rfl;(first|apply GG.to|apply GG.stop|apply GG.ex);exact k.p)
  | (intro k;apply goC;exact rfl;(first|apply GG.to|apply GG.stop|apply GG.ex);exact k.p)
  | (intro k;apply goB;exact rfl;(first|apply GG.to|apply GG.stop|apply GG.ex);exact k.p)):G:=h ⟨k⟩
theorem wmk{G Q:Prop}(k:Q)(h:Hold Q->G:=by
  first
  | (intro k;apply TO.want;exact rfl;exact k.p)
  | (intro k;apply TO.add;(iterate 3 exact rfl);exact zql;exact zql;exact k.p)
  | (intro k;apply TO.cat;(iterate 3 exact rfl);exact zql;exact k.p)):G:=h ⟨k⟩
theorem wmv{G Q:Prop}{f:FuncId}{cargs:List SV}{v:SV}(hs:Pure Tryz.prog f cargs v)(k:Q)(h:Pure Tryz.prog f cargs v->Hold Q->G:=by
  intro hs k
  apply ztN;exact hs;(iterate 3 exact rfl);exact zqb;exact rfl;exact rfl;exact k.p):G:=h hs ⟨k⟩
end Go.Proofs.YtpnnpgbaiobbjaaGreatDoor
namespace Go.TL
open Go
theorem ztX{m:M}(hm:HRel m){R:Nat}{e:TypeId}{ts:List T}{p:Place}(hp:m.β[R]?=some p)(hH:m.H[R]?=some (.row e ts)):
  Step m ⟨m.A,m.β++[p],m.H.set R .dead++[.cells (ts.map .t)],m.w⟩/\HRel ⟨m.A,m.β++[p],m.H.set R .dead++[.cells (ts.map .t)],m.w⟩:=by
 have hR:=(qab.1 hH).1
 have hlen:=hm.len
 have pick:∀(i:Nat) q c,(m.β++[p])[i]?=some q->(m.H.set R .dead++[Blk.cells (ts.map .t)])[i]?=some c->c.live=true->(i=m.H.length/\q=p/\c= .cells (ts.map .t))\/(i≠R/\i<m.H.length/\m.β[i]?=some q/\m.H[i]?=some c):=by
  intro i q c h1 h2 hl
  by_cases hi:i<m.H.length
  ·rw[qao (by rw[hlen];exact hi)]at h1
   rw[qao (by simpa using hi)]at h2
   by_cases hir:i=R
   ·subst hir
    rw[qau hR]at h2
    cases h2;cases hl
   ·rw[qaz (by omega)]at h2
    exact .inr ⟨hir,hi,h1,h2⟩
  ·rw[qax (by rw[hlen];omega)]at h1
   rw[qax (by simp;omega)]at h2
   have:i=m.H.length:=by
    have:=(qab.1 h2).1
    simp at this;omega
   subst this
   simp[hlen]at h1 h2
   exact .inl ⟨rfl,h1.symm,h2.symm⟩
 have own:∀b o,Own ⟨m.A,m.β++[p],m.H.set R .dead++[.cells (ts.map .t)],m.w⟩ b o->Own m b o:=by
  rintro b o ⟨i,q,c,h1,h2,h3,h4⟩
  rcases pick i q c h1 h2 h3 with ⟨rfl,rfl,rfl⟩|⟨_,_,g1,g2⟩
  ·exact⟨R,q,_,hp,hH,rfl,h4⟩
  ·exact⟨i,q,c,g1,g2,h3,h4⟩
 have s:Step m ⟨m.A,m.β++[p],m.H.set R .dead++[.cells (ts.map .t)],m.w⟩:=by
  refine⟨rfl,rfl,rfl,qae _,fun _ _ h=>h,fun _ _ h=>.inl h,fun b o h=>.inl (own b o h),fun _ _ _ _=>rfl,fun _ _ _ _ _=>rfl,fun _ _ _=>rfl,fun _ _ h=>h,fun _ L h=>⟨L,h⟩,fun _ _ _ h=>h,fun i q hq=>⟨q,?_,?_⟩⟩
  ·show(m.β++[p])[i]?=some q
   exact zwfh
  ·have hi:i<m.H.length:=by rw[<-hlen];exact(qab.1 hq).1
   show zaU m.H[i]? (m.H.set R .dead++[Blk.cells (ts.map .t)])[i]? q q
   rw[qao (by simpa using hi)]
   by_cases hir:i=R
   ·subst hir
    rw[qau hR,hH]
    intro n' h
    cases h
   ·rw[qaz (by omega)]
    exact zaU.refl _ _
 obtain⟨⟨r1,r2,r3⟩,r4,r5⟩:=hm.blk R p _ hp hH
 refine⟨s,by simp[hlen],fun i q c h1 h2=>?_,fun i j q q' c c' hij h1 h2 h3 h4 hc hc'=>?_,fun b o h hn=>hm.still b o h (own b o hn),hm.inA,fun i q c h1 h2 hc hq=>?_,s.glob hm⟩
 ·cases hlv:c.live with
  | false=>cases c <;> simp[Blk.live]at hlv;trivial
  | true=>
    rcases pick i q c h1 h2 hlv with ⟨rfl,rfl,rfl⟩|⟨_,_,g1,g2⟩
    ·refine⟨by simp[r1];exact r2,r4,fun j c hc=>?_⟩
     rw[qaq]at hc
     cases ht:ts[j]? with
     | none=>rw[ht]at hc;cases hc
     | some t=>
       rw[ht]at hc;cases hc
       obtain⟨y,y1,y2,y3⟩:=r5 j t ht
       exact⟨y,y1,y2,.t _ _ y3⟩
    ·exact(hm.blk i q c g1 g2).step hm s (fun o _ _=>⟨rfl,fun _=>rfl⟩) (fun _=>rfl)
 ·rcases pick i q c h1 h2 hc with ⟨rfl,rfl,rfl⟩|⟨a0,a1,a2,a3⟩
  ·rcases pick j q' c' h3 h4 hc' with ⟨rfl,rfl,rfl⟩|⟨b0,b1,b2,b3⟩
   ·exact absurd rfl hij
   ·exact hm.apart R j _ _ _ _ (fun e=>b0 e.symm) hp hH b2 b3 rfl hc'
  ·rcases pick j q' c' h3 h4 hc' with ⟨rfl,rfl,rfl⟩|⟨b0,b1,b2,b3⟩
   ·exact hm.apart i R _ _ _ _ a0 a2 a3 hp hH hc rfl
   ·exact hm.apart i j _ _ _ _ hij a2 a3 b2 b3 hc hc'
 ·rcases pick i q c h1 h2 hc with ⟨rfl,rfl,rfl⟩|⟨a0,a1,a2,a3⟩
  ·exact hm.inO R _ _ hp hH rfl hq
  ·exact hm.inO i q c a2 a3 hc hq
section rules
variable {P:Program}{n:Nat}{env:Env}{H:Heap}{K:TK}{all:Array Oper}{rest:List Oper}{tab:Tab}
variable {d:Nat}{ty:TypeId}{pos:String}{aft:Array Edge}{q:Bool}
theorem TO.fix(x:Nat){R len:Nat}{e:TypeId}{ts:List T}{H':Heap}{ops:List Oper}(hx:env.look x=some (.rw R len))(hH:H[R]?=some (.row e ts))(hl:len=ts.length)(hpos:0<ts.length)(hH':H.set R .dead++[.cells (ts.map .t)]=H')
  (k:TO false P n all ops ((x,.ms 1 H.length 0 len)::env) H' K):TO false P n all ops env H K:=by
 intro φ m a h1 h2 h3 h4
 obtain⟨y,y1,y2⟩:=h3.2 x _ hx
 cases y2 with
 | rw _ _ _ p hp hxs ho=>
   have hH1:m.H[R]?=some (.row e ts):=by rw[h1];exact hH
   obtain⟨s,hm'⟩:=ztX h2 hp hH1
   have hho:=(ho ts.length (by rw[hH1];rfl)).2 (by rw[hl])
   obtain⟨ad,cap,hyq,hc1,hc2,hc3,hc4⟩:=hho
   have hE:ERel ⟨m.A,m.β++[p],m.H.set R .dead++[.cells (ts.map .t)],m.w⟩ n ((x,.ms 1 H.length 0 len)::env) a.tmps:=by
    refine⟨h3.1,fun i v hv=>?_⟩
    by_cases hi:x=i
    ·subst hi
     rw[Env.zal]at hv
     cases hv
     refine⟨y,y1,?_⟩
     cases ad with
     | none=>simp only at hc4;omega
     | some a0=>
       obtain⟨hc4,hc5⟩:=hc4
       subst hyq hc4
       have hz:(⟨p.b,0,none⟩:Addr)=⟨p.b,p.lo+0,none⟩:=by rw[hc2]
       rw[hz]
       refine .ms 1 H.length 0 len cap p ?_ ?_ hc1 (by omega)
       ·show(m.β++[p])[H.length]?=some p
        rw[<-h1,<-h2.len,qax (qae _)];simp
       ·intro n' hn
        have:(m.H.set R .dead++[Blk.cells (ts.map .t)])[H.length]?=some (.cells (ts.map .t)):=by
         rw[<-h1,qax (by simp)];simp
        rw[show(M.H ⟨m.A,m.β++[p],m.H.set R .dead++[.cells (ts.map .t)],m.w⟩)[H.length]?=_ from this]at hn
        cases hn
    ·rw[Env.zaj _ _ hi]at hv
     exact(h3.step h2 s).2 i v hv
   exact TO.zee (m':=⟨m.A,m.β++[p],m.H.set R .dead++[.cells (ts.map .t)],m.w⟩) s (k φ ⟨m.A,m.β++[p],m.H.set R .dead++[.cells (ts.map .t)],m.w⟩ a (by show m.H.set R .dead++_=H';rw[h1];exact hH') hm' hE (h4.step h2 s))
theorem TO.effV{op:Op}{H':Heap}
  (h:∀(m:M) (a:Act),m.H=H->HRel m->ERel m n env a.tmps->∃x m',(execOp a.eval ⟨none,op,ty,pos,aft,none⟩).run P m.w= .ok (.value x) m'.w/\Step m m'/\HRel m'/\m'.H=H')
  (k:TO false P n all rest env H' K):TO false P n all (⟨none,op,ty,pos,aft,none⟩::rest) env H K:=by
 intro φ m a h1 h2 h3 h4
 obtain⟨x,m',hx,s,hm',hH'⟩:=h m a h1 h2 h3
 refine wpListIn_plain rfl fun K' hK=>?_
 unfold Oper.wpIn
 refine⟨fun _ _=>trivial,?_⟩
 rw[zaW hx (by intro d e;cases e)]
 simp only[Oper.uponIn]
 exact hK _ _ (TO.zee s (k φ m' _ hH' hm' (by simpa [Act.put]using h3.step h2 s) (by simpa [Act.put]using h4.step h2 s)))
theorem TO.ztR(hT:zau P tab){t e:TypeId}{i ie:TyI}{z:T}{x:Operand}{id off len:Nat}{cs:List SV}{H':Heap}(ht:tab.get t=some i)(hk:i.k= .slice e)(he:tab.get e=some ie)(hz:ie.zero=[z])(hag:ie.k.agg=false)
  (hx:env.val x=some (.ms 1 id off len))(hH:H[id]?=some (.cells cs))(hpos:0<len)(hl:off+len≤cs.length)(hH':H.set id (.cells (splice cs off (List.replicate len (.t z))))=H')
  (k:TO false P n all rest env H' K):TO false P n all (⟨none,.call { callee:=.builtin .clear,args:=#[x],argTypes:=#[t] },ty,pos,aft,none⟩::rest) env H K:=
 TO.effV (fun m ac h1 h2 h3=>by
  obtain⟨zz,hz1,hz2,_,hz4⟩:=(hT e ie he).zero
  obtain⟨g1,g0,g2⟩:=zbL (A:=m.A) (w:=m.w) _ _ hz2
  have hzz:zz.cells= #[zz]:=by
   exact zwfz
  have h:=h3.val hx
  generalize hq:ac.eval x=u at h
  cases h with
  | ms _ _ _ _ cap p hp hn hc hh=>
    have hH1:m.H[id]?=some (.cells cs):=by rw[h1];exact hH
    obtain⟨b1,b2,b3⟩:=h2.blk id p _ hp hH1
    have hzr:TRel m.A m.w z zz:=g2 0 z zz (by rw[hz];rfl) (by rw[hzz];rfl)
    obtain⟨s,hm'⟩:=zfJ h2 (off:=off) (vs:=List.replicate len (.t z)) (ys:=List.replicate len zz) hp hH1 (by simpa using hl) (by simpa using hpos) (by simp) (fun u hu=>by rw[List.eq_of_mem_replicate hu];exact hz4 hag)
     (fun j c y hc hy=>by
       rw[qbV]at hc hy
       split at hc
       ·rename_i hj
        rw[if_pos hj]at hy
        cases hc;cases hy
        exact .t _ _ hzr
       ·cases hc)
    refine⟨.tuple #[],_,?_,s,hm',by rw[h1];exact hH'⟩
    have hun:=(hT t i ht).slice hk
    have hrun:=Go.Lib.run_clear_slice (P:=P) m.w t e ty zz hun (fun w=>hz1 w) hzz (hz4 hag) p.b (p.lo+off) len cap hpos (fun j hj=>(b2 _ (by omega) (by omega)).1) (fun j hj=>(b2 _ (by omega) (by omega)).2)
    simp[execOp,resolve,invoke,hq,builtin,hrun]) k
theorem TO.ziZ(hT:zau P tab){t e:TypeId}{i ie:TyI}{x z:Operand}{sz id off len b:Nat}{ik:IntKind}(hd:Nat.ble (d+1) n=true)(ht:tab.get t=some i)(hk:i.k= .slice e)(he:tab.get e=some ie)(hsz:ie.size=sz)
  (hx:env.val x=some (.ms sz id off len))(hz:env.val z=some (.t (.v (.int ik (b:Int)))))(h2:b<len)
  (k:TO q P n all rest ((d,.ms sz id (off+b*sz) (len-b))::env) H K):TO q P n all (⟨some d,.slice t x (some z) none none,ty,pos,aft,none⟩::rest) env H K:=
 TO.op hd (fun m ac g1 g2 g3=>by
  have h:=g3.val hx
  generalize hq:ac.eval x=v at h
  cases h with
  | ms _ _ _ _ cap p hp hn hc hh=>
    refine⟨.slice (some ⟨p.b,p.lo+(off+b*sz),none⟩) (len-b) (cap-b),fun w' hw'=>?_,.ms sz id (off+b*sz) (len-b) (cap-b) p hp hn (by omega) ?_⟩
    ·have:=zck (P:=P) hT ht hk he (some ⟨p.b,p.lo+off,none⟩) len cap (some (ac.eval z)) none b len w' (.inr ⟨ik,by rw[(g3.val hz).v_eq]⟩) (.inl ⟨rfl,rfl⟩) (by omega) (by omega)
     rw[if_neg (by omega),hsz]at this
     simp only[qa3,zbh,qaZ]at this
     simp[execOp,hq,this]
    ·have:b*sz+(cap-b)*sz=cap*sz:=by rw[<-qaX];congr 1;omega
     omega) k
theorem TO.zjn{ops:List Oper}(i sz id len:Nat){cs:List SV}{es:List T}{H':Heap}(hi:env.look i=some (.ms sz id 0 len))(hH:H[id]?=some (.cells cs))(hcl:es.length*sz≤cs.length)(hcs:∀(j:Nat) c,((es.map T.cells).flatten.map SV.t)[j]?=some c->cs[j]?=some c)(hlen:len=es.length)(hsz:∀e∈es,e.cells.length=sz)
  (hpos:Nat.ble 1 sz=true)(hH':H.set id .dead=H')(k:TO false P n all ops ((i,.t (.sl sz es))::env) H' K):TO false P n all ops env H K:=by
 intro φ m a h1 h2 h3 h4
 have hp':=qah hpos
 obtain⟨x,hx1,hx2⟩:=h3.2 i _ hi
 subst hlen
 obtain⟨l1,l2⟩:=zb8 es hsz
 cases hx2 with
 | ms _ _ _ _ cap p hp hn hc hh=>
   have hH1:m.H[id]?=some (.cells cs):=by rw[h1];exact hH
   obtain⟨b1,b2,b3⟩:=h2.blk id p _ hp hH1
   have hex:∀j,∃y,j<cs.length->m.w.cell? ⟨p.b,p.lo+j,none⟩=some y/\y.oneCell'=true/\∀c,cs[j]?=some c->SRel m c y:=by
    exact zwbi
   let f:Nat->Value:=fun j=>Classical.choose (hex j)
   have hf:=fun j=>qcv (hex j)
   obtain⟨s,hm'⟩:=zhD h2 (k1:=.dead) (p':=p) (A':=fun b o=>m.A b o\/(b=p.b/\p.lo≤o/\o<p.lo+cs.length)) (w':=m.w) hp hH1 rfl rfl rfl rfl (qae _) (fun _ _ _ _=>rfl) (fun _ _ _ _ _=>rfl) (fun _ _ _=>rfl) (fun _ _ _ h=>h) (fun _ _ h=>h)
    (fun _ _ h=>.inl h) (fun b o h=>by
      rcases h with h|h
      ·exact .inl h
      ·exact .inr (.inl (by omega))) (fun h=>by cases h) (fun h=>by cases h) (fun o q1 q2=>(b2 o q1 q2).1) ⟨rfl,fun n'=>by simp[tlOf]⟩ (fun _=>trivial)
   have hlt:∀q j,q<es.length->j<sz->q*sz+j<cs.length:=fun q j hq hj=>by
    exact zwek
   have hr:SRel ⟨fun b o=>m.A b o\/(b=p.b/\p.lo≤o/\o<p.lo+cs.length),m.β.set id p,m.H.set id .dead,m.w⟩ (.t (.sl sz es)) (.slice (some ⟨p.b,p.lo+0,none⟩) es.length cap):=by
    refine .t _ _ (.sl sz es p.b (p.lo+0) cap f hc (fun j e he=>hsz e (qas he)) (fun q j hq hj=>.inr ⟨rfl,by omega,by have:=hlt q j hq hj;omega⟩) (fun q j hq hj=>(hf _ (hlt q j hq hj)).1) (fun q j hq hj=>(hf _ (hlt q j hq hj)).2.1) (fun q e j c he hc'=>?_))
    have hq:=(qab.1 he).1
    have hj:=(qab.1 hc').1
    rw[hsz e (qas he)]at hj
    have hcc:cs[q*sz+j]?=some (.t c):=hcs _ _ (by rw[qaq,l2 q j e c he hc'];rfl)
    exact zweq
   refine TO.zee (m':=⟨fun b o=>m.A b o\/(b=p.b/\p.lo≤o/\o<p.lo+cs.length),m.β.set id p,m.H.set id .dead,m.w⟩) s (k φ ⟨fun b o=>m.A b o\/(b=p.b/\p.lo≤o/\o<p.lo+cs.length),m.β.set id p,m.H.set id .dead,m.w⟩ a (by rw[h1];exact hH') hm' ⟨h3.1,fun j v hv=>?_⟩ (h4.step h2 s))
   by_cases hj:i=j
   ·exact zwgb
   ·exact zwfs
end rules
end Go.TL
