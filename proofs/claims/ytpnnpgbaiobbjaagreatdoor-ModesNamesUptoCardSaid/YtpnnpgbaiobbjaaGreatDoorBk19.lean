import Derived.Shelf.LaysM
import Derived.Shelf.Strings.OnBuilder
import Derived.Shelf.Strings.Repeat
import Derived.Shelf.Strconv.Itoa3
import Derived.Shelf.SlSorted.Search
import Derived.Test.YtpnnpgbaiobbjaaGreatDoorBk18
set_option linter.all false
namespace Go.Proofs.YtpnnpgbaiobbjaaGreatDoor
open Go Go.TL
attribute [local irreducible] TR TO Then zap RetK Sound zab Kf GG za3
abbrev toF:SV:=.fn 101 [.ref 1 0]
abbrev knH (a:List Str):Heap:=[setB a,.cells [.mp 0]]
theorem znw:∀(l pre:List Ex),zbh (fun _ _=>Out.go) pre l= .go
 | [],_=>rfl
 | x::l,pre=>by simp[zbh,znw l]
set_option maxHeartbeats 4000000 in
theorem zeB (a:List Str) (ha:zaw a) (e:Ex) (he:zkL e) (hw:wEx e≤1000000000):Sound Tryz.prog 101 [.t (exT e),.ref 1 0] (knH a) (fun r H'=>r= .ret (.tup [])/\H'=knH (zbW a e)):=by
 have hs:=zct e
 rw[zay]at hs⊢
 have hc0:exC e=[T.n e.kind,T.n e.op,T.n e.t,T.n e.v,.s e.name,.sl 6 (e.args.map exT)]:=rfl
 unfold zbW
 rw[hc0]at hs⊢
 refine so Tryz.func101 ?_
 repeat' (first|refine wu ?_|exact wkc|intro hc|refine wk2 ?_ ?_|refine wv hs ?_|fail)
 refine TR.zc4 e (fun pre=>knH (pre.foldl oneL a)) (fun _ _=>.go) rfl hw rfl rfl rfl (fun _=>⟨rfl,rfl⟩) (fun _ _=>trivial) (fun fn pre x post hf=>?_) (fun fn=>?_)
 ·have hxm:x∈flat e:=by rw[hf];simp
  have hnm:=he x hxm
  have hk:zaw (pre.foldl oneL a):=zaJ ha fun a y hy ha=>ok_one ha (he y (by rw[hf];exact qbu _ hy))
  have hone:(pre++[x]).foldl oneL a=oneL (pre.foldl oneL a) x:=by rw[qa5];rfl
  generalize pre.foldl oneL a=acc at*
  have hol:oneL acc x=if zh8 x.kind.1=true then ins acc x.name else acc:=rfl
  have hcx:exC x=[T.n x.kind,T.n x.op,T.n x.t,T.n x.v,.s x.name,.sl 6 (x.args.map exT)]:=rfl
  rw[hcx]
  clear hf hxm hs
  by_cases h0:x.kind.1=1\/x.kind.1=3\/x.kind.1=4\/x.kind.1=5\/x.kind.1=6\/x.kind.1=7\/x.kind.1=11
  ·rw[if_neg (by unfold zh8;simp only[decide_eq_true_eq];omega)]at hol
   repeat' (first|refine wu ?_|exact wkc|intro hc|refine wk2 ?_ ?_|fail)
   exact zwcc
  ·rw[if_pos (by unfold zh8;simp only[decide_eq_true_eq];omega)]at hol
   repeat' (first|refine wu ?_|exact wkc|intro hc|refine wk2 ?_ ?_|fail)
   refine⟨rfl,?_⟩
   repeat' (first|refine wu ?_|exact wkc|intro hc|refine wk2 ?_ ?_|(apply TO.zee;(iterate 4 exact rfl);exact hk;exact hnm;exact rfl)|fail)
   all_goals exact zwen
 ·rw[znw]
  repeat' (first|refine wu ?_|exact wkc|intro hc|refine wk2 ?_ ?_|fail)
  exact zwgc
theorem ziG(s:Sta):[s.unl,s.unt].flatten=s.unl++s.unt:=by simp
set_option maxHeartbeats 8000000 in
theorem zhU:∀(m:Nat) (a:List Str) (qs:List Equ) (l:List Auto),zaw a->(T.sl 7 (qs.map equT)).w≤100000000->(T.sl 1 (l.map zae)).w≤100000000->(T.sl 1 (l.map zae)).w≤m->
  Sound Tryz.prog 154 [.t (.sl 7 (qs.map equT)),.t (.sl 1 (l.map zae)),toF] (knH a) (fun r H'=>r= .ret (.tup [])/\H'=knH (zbI m a qs l))
 | 0,_,_,l,_,_,_,hm=>by have:=zgA (T.sl 1 (l.map zae));omega
 | m+1,a,qs,l,ha,hq,hl,hm=>by
   have ih:=zhU m
   have hmq:(qs.map equT).length=qs.length:=qaa _
   have hml:(l.map zae).length=l.length:=qaa _
   have hqb:=zai equT 7 qs
   have hlb:=zai zae 1 l
   have hqe:=fun q hh=>(zgU (l:=qs) (q:=q) hh).2.1
   unfold zbI
   obtain⟨f,hf⟩:∃f:List Str->Equ->List Str,f=fun a q=>zbW a q.right:=⟨_,rfl⟩
   obtain⟨fs,hfs⟩:∃fs:List Str->Sta->List Str,fs=fun a s=>(s.unl++s.unt).foldl (fun a t=>zbW a t.cond) (zbI m a s.eqs s.autos):=⟨_,rfl⟩
   obtain⟨g,hg⟩:∃g:List Str->Auto->List Str,g=fun a x=>x.states.foldl fs a:=⟨_,rfl⟩
   rw[<-hf]
   rw[show(fun(a:List Str) (x:Auto)=>x.states.foldl (fun a s=>(s.unl++s.unt).foldl (fun a t=>zbW a t.cond) (zbI m a s.eqs s.autos)) a)=g by rw[hg,hfs]]
   have hok:=za7 (f:=f) (l:=qs) ha (fun a q hh ha=>by rw[hf];exact zgr ha (za1 (by have:=hqe q hh;omega)))
   have hokS:∀x∈l,∀s∈x.states,∀a,zaw a->zaw (fs a s):=fun x hx s hs a ha=>by
    have h1:=zef hx hs
    rw[hfs]
    exact zwbw
   have hok1:=hok qs.length
   rw[qae]at hok1
   have hokA:=za7 (f:=g) (l:=l) hok1 (fun a x hx ha=>by rw[hg];exact zaJ ha fun a s hs ha=>hokS x hx s hs a ha)
   refine so Tryz.func154 ?_
   repeat' (first|refine wkt ?_|fail)
   refine TR.zal qs.length (fun _=>True) (fun j=>[(1,.t (.sl 1 (l.map zae))),(2,toF),(14,.t (.sl 7 (qs.map equT))),(15,.i qs.length),(16,.i j)]) (fun j=>knH ((qs.take j).foldl f a)) trivial (fun j hlt _=>?_) (fun _=>?_) ⟨rfl,rfl,rfl,by rw[<-hmq];rfl,rfl,trivial⟩ rfl
   ·have hx:(qs.map equT)[j]?=some (.ag [T.sl 1 (qs[j].left.map T.s),T.n qs[j].right.kind,T.n qs[j].right.op,T.n qs[j].right.t,T.n qs[j].right.v,T.s qs[j].right.name,T.sl 6 (qs[j].right.args.map exT)]):=zao equT hlt
    have hn:=zam f a hlt
    have hk:=hok j
    have hwq:=hqe _ (qad hlt)
    generalize (qs.take j).foldl f a=acc at*
    have hfe:f acc qs[j]=zbW acc qs[j].right:=by rw[hf]
    rw[hfe]at hn
    have c1:=zeB acc hk qs[j].right (za1 (by omega)) (by have:=zcT qs[j].right;omega)
    rw[zay]at c1
    unfold exC at c1
    clear hfe ih hokA hokS hok
    generalize zbW acc qs[j].right=a2 at*
    generalize qs[j]=q at*
    repeat' (first|refine wkt ?_|refine zqq ?_|(apply TO.zaD 2 c1;(iterate 3 exact rfl);exact Les.refl _;(iterate 8 exact rfl))|refine zab.exit ?_|exact wkc|intro hc|refine wk2 ?_ ?_|refine wk ?_|fail)
    exact zwdo
   rw[qae]
   clear hok hqe
   generalize qs.foldl f a=a1 at*
   repeat' (first|refine wkt ?_|refine zab.exit ?_|exact wkc|intro hc|refine wk2 ?_ ?_|fail)
   refine TR.zal l.length (fun _=>True) (fun j=>[(2,toF),(25,.t (.sl 1 (l.map zae))),(26,.i l.length),(27,.i j)]) (fun j=>knH ((l.take j).foldl g a1)) trivial (fun j hlt _=>?_) (fun _=>?_) ⟨rfl,rfl,by rw[<-hml];rfl,rfl,trivial⟩ rfl
   ·have hx:=zao zae hlt
    rw[zbQ]at hx
    have hn:=zam g a1 hlt
    have hk:=hokA j
    have hoS:=hokS _ (qad hlt)
    have hsi:=fun s hs=>zef (qad hlt) (s:=s) hs
    have hsb:l[j].states.length≤100000000:=by
     exact zwdk
    generalize (l.take j).foldl g a1=acc at*
    have hge:g acc l[j]=l[j].states.foldl fs acc:=by rw[hg]
    rw[hge]at hn
    have hok2:=za7 (f:=fs) (l:=l[j].states) hk (fun a s hs ha=>hoS s hs a ha)
    clear hge hokA hokS
    generalize l[j]=x at*
    obtain⟨sts⟩:=x
    simp only[Auto.states]at hx hn hoS hsi hok2 hsb
    have hmc:(sts.map staT).length=sts.length:=qaa _
    repeat' (first|refine wkt ?_|refine zqq ?_|refine zab.exit ?_|exact wkc|intro hc|refine wk2 ?_ ?_|fail)
    refine TR.zal sts.length (fun _=>True) (fun k=>[(2,toF),(25,.t (.sl 1 (l.map zae))),(26,.i l.length),(27,.i j),(32,.t (.sl 6 (sts.map staT))),(33,.i sts.length),(34,.i k)]) (fun k=>knH ((sts.take k).foldl fs acc)) trivial (fun k hlk _=>?_) (fun _=>?_) ⟨rfl,rfl,rfl,rfl,rfl,by rw[<-hmc];rfl,rfl,trivial⟩ rfl
    ·have hy:=zao staT hlk
     rw[za8]at hy
     have hn2:=zam fs acc hlk
     have hk2:=hok2 k
     have hw:=hsi _ (qad hlk)
     generalize (sts.take k).foldl fs acc=acc2 at*
     have hfse:fs acc2 sts[k]=(sts[k].unl++sts[k].unt).foldl (fun a t=>zbW a t.cond) (zbI m acc2 sts[k].eqs sts[k].autos):=by rw[hfs]
     rw[hfse]at hn2
     have c2:=ih acc2 sts[k].eqs sts[k].autos hk2 (by omega) (by omega) (by omega)
     have hk3:=zhs m acc2 sts[k].eqs sts[k].autos hk2 (by omega) (by omega)
     have hu1:=zai zah 8 sts[k].unl
     have hu2:=zai zah 8 sts[k].unt
     have c3:=zjW [sts[k].unl,sts[k].unt] (by show 2≤_;decide) (by rw[ziG,qaf];omega)
     rw[ziG]at c3
     dsimp only[List.map]at c3
     have htr:∀t∈sts[k].unl++sts[k].unt,(exT t.cond).w≤100000000:=fun t ht=>by
      exact zwet
     have hub:(sts[k].unl++sts[k].unt).length≤1000000000:=by rw[qaf];omega
     clear hfse hw hoS hsi hok2 ih
     generalize zbI m acc2 sts[k].eqs sts[k].autos=a3 at*
     unfold lsQ at c3
     generalize hTL:sts[k].unl++sts[k].unt=tl at*
     generalize sts[k]=s at*
     have hok4:=za7 (f:=fun a (t:Tran)=>zbW a t.cond) (l:=tl) hk3 (fun a t ht ha=>zgr ha (za1 (by have:=htr t ht;omega)))
     have hmt:(tl.map zah).length=tl.length:=qaa _
     repeat' (first|refine wkt ?_|refine zqr ?_|(apply TO.zaD 2 c2;(iterate 3 exact rfl);exact Les.refl _;(iterate 8 exact rfl))|refine wv c3 ?_|refine zab.exit ?_|exact wkc|intro hc|refine wk2 ?_ ?_|fail)
     refine TR.zal tl.length (fun _=>True) (fun i=>[(2,toF),(25,.t (.sl 1 (l.map zae))),(26,.i l.length),(27,.i j),(32,.t (.sl 6 (sts.map staT))),(33,.i sts.length),(34,.i k),(49,.t (.sl 8 (tl.map zah))),(50,.i tl.length),(51,.i i)]) (fun i=>knH ((tl.take i).foldl (fun a t=>zbW a t.cond) a3)) trivial (fun i hli _=>?_) (fun _=>?_) ⟨rfl,rfl,rfl,rfl,rfl,rfl,rfl,rfl,by rw[<-hmt];rfl,rfl,trivial⟩ rfl
     ·have hz:(tl.map zah)[i]?=some (.ag [T.n tl[i].cond.kind,T.n tl[i].cond.op,T.n tl[i].cond.t,T.n tl[i].cond.v,.s tl[i].cond.name,.sl 6 (tl[i].cond.args.map exT),T.n tl[i].to,.b tl[i].resume]):=zao zah hli
      have hn3:=zam (fun a (t:Tran)=>zbW a t.cond) a3 hli
      have hk4:=hok4 i
      have hwt:=htr _ (qad hli)
      generalize (tl.take i).foldl (fun a (t:Tran)=>zbW a t.cond) a3=acc3 at*
      have c1:=zeB acc3 hk4 tl[i].cond (za1 (by omega)) (by have:=zcT tl[i].cond;omega)
      rw[zay]at c1
      unfold exC at c1
      generalize zbW acc3 tl[i].cond=a4 at*
      generalize tl[i]=t at*
      repeat' (first|refine wkt ?_|refine zqs ?_|(apply TO.zaD 2 c1;(iterate 3 exact rfl);exact Les.refl _;(iterate 8 exact rfl))|refine zab.exit ?_|exact wkc|intro hc|refine wk2 ?_ ?_|refine wk ?_|fail)
      exact zab.zaz hli trivial (by(try dsimp only);exact⟨rfl,rfl,rfl,rfl,rfl,rfl,rfl,rfl,rfl,rfl,trivial⟩) (by(try dsimp only);rw[hn3])
     ·rw[qae,<-hn2]
      repeat' (first|refine wkt ?_|refine zab.exit ?_|exact wkc|intro hc|refine wk2 ?_ ?_|refine wk ?_|fail)
      exact zab.zaz hlk trivial (by(try dsimp only);exact⟨rfl,rfl,rfl,rfl,rfl,rfl,rfl,trivial⟩) rfl
    ·exact zwbn
   ·exact zwcp
theorem zhK(n:Nod):[n.assume,n.ensure].flatten=n.assume++n.ensure:=by simp
set_option maxHeartbeats 4000000 in
theorem zmR (a:List Str) (n:Nod) (ha:zaw a) (hw:(nodT n).w≤100000000):Sound Tryz.prog 100 [.t (.ag (nodC n)),toF] (knH a) (fun r H'=>r= .ret (.tup [])/\H'=knH (zhT 100000000 a n)):=by
 have hwn:=zda n
 have c1:=zhU 100000000 a n.eqs n.autos ha (by omega) (by omega) (by omega)
 have hk1:=zhs 100000000 a n.eqs n.autos ha (by omega) (by omega)
 have hu1:=zai exT 6 n.assume
 have hu2:=zai exT 6 n.ensure
 have c3:=zjV [n.assume,n.ensure] (by show 2≤_;decide) (by rw[zhK,qaf];omega)
 rw[zhK]at c3
 dsimp only[List.map]at c3
 have htr:∀e∈n.assume++n.ensure,(exT e).w≤100000000:=fun t ht=>by
  rcases qaF.1 ht with ht|ht
  ·have:=zau (f:=exT) (sz:=6) ht;omega
  ·have:=zau (f:=exT) (sz:=6) ht;omega
 have hub:(n.assume++n.ensure).length≤1000000000:=by rw[qaf];omega
 unfold zhT
 generalize zbI 100000000 a n.eqs n.autos=a1 at*
 unfold lsE at c3
 unfold nodC zad
 generalize n.assume++n.ensure=tl at*
 have hok4:=za7 (f:=zbW) (l:=tl) hk1 (fun a t ht ha=>zgr ha (za1 (by have:=htr t ht;omega)))
 have hmt:(tl.map exT).length=tl.length:=qaa _
 clear hwn hw
 refine so Tryz.func100 ?_
 repeat' (first|refine wkt ?_|(apply TO.zaD 2 c1;(iterate 3 exact rfl);exact Les.refl _;(iterate 8 exact rfl))|refine wv c3 ?_|refine zab.exit ?_|exact wkc|intro hc|refine wk2 ?_ ?_|fail)
 refine TR.zal tl.length (fun _=>True) (fun i=>[(1,toF),(17,.t (.sl 6 (tl.map exT))),(18,.i tl.length),(19,.i i)]) (fun i=>knH ((tl.take i).foldl zbW a1)) trivial (fun i hli _=>?_) (fun _=>?_) ⟨rfl,rfl,by rw[<-hmt];rfl,rfl,trivial⟩ rfl
 ·have hz:=zao exT hli
  rw[zay]at hz
  have hn3:=zam zbW a1 hli
  have hk4:=hok4 i
  have hwt:=htr _ (qad hli)
  generalize (tl.take i).foldl zbW a1=acc3 at*
  have c1:=zeB acc3 hk4 tl[i] (za1 (by omega)) (by have:=zcT tl[i];omega)
  rw[zay]at c1
  generalize zbW acc3 tl[i]=a4 at*
  generalize tl[i]=t at*
  have hc0:exC t=[T.n t.kind,T.n t.op,T.n t.t,T.n t.v,.s t.name,.sl 6 (t.args.map exT)]:=rfl
  rw[hc0]at hz c1
  repeat' (first|refine wkt ?_|refine zqs ?_|(apply TO.zaD 2 c1;(iterate 3 exact rfl);exact Les.refl _;(iterate 8 exact rfl))|refine zab.exit ?_|exact wkc|intro hc|refine wk2 ?_ ?_|refine wk ?_|fail)
  exact zab.zaz hli trivial (by(try dsimp only);exact⟨rfl,rfl,rfl,rfl,trivial⟩) (by(try dsimp only);rw[hn3])
 ·exact zwcp
end Go.Proofs.YtpnnpgbaiobbjaaGreatDoor
namespace Go.TL
open Go
section rules
variable {P:Program}{all:Array Oper}
def zuB(g:Prop):List Oper->Prop
 | []=>g
 | _::_=>True
def zpJ(P:Program)(n:Nat)(K:TK)(g:Prop)(all:Array Oper)(full:Env)(H0:Heap):List Oper->List (SV×Bool)->Prop
 | [],[]=>True
 | o::l,(v,_)::t=>(∀env,TO false P n all [o] (zat full (slotsOf all o)++env) H0 (NKP K (zuB g l) (putE o.dst v (zat full (slotsOf all o)++env)) H0))/\zpJ P n K g all full H0 l t
 | _,_=>False
theorem zpJ.get{n:Nat}{K:TK}{g:Prop}{full:Env}{H0:Heap}:∀ {l:List Oper} {t:List (SV×Bool)},zpJ P n K g all full H0 l t->l.length=t.length/\∀(i:Nat) o v b,l[i]?=some o->t[i]?=some (v,b)->
  ∀env,TO false P n all [o] (zat full (slotsOf all o)++env) H0 (NKP K (zuB g (l.drop (i+1))) (putE o.dst v (zat full (slotsOf all o)++env)) H0)
 | [],[],_=>⟨rfl,fun i o v b h=>by simp at h⟩
 | [],_::_,h=>h.elim
 | _::_,[],h=>h.elim
 | o::l,(v,b)::t,h=>by
   obtain⟨h1,h2⟩:=h
   obtain⟨g1,g2⟩:=zpJ.get h2
   refine⟨by simp[g1],fun i o' v' b' ho hv=>?_⟩
   cases i with
   | zero=>simp at ho hv;obtain⟨rfl,rfl⟩:=hv;subst ho;exact h1
   | succ i=>exact g2 i o' v' b' (by simpa using ho) (by simpa using hv)
theorem TR.znt{g:Prop}{n:Nat}{env0 envF:Env}{H0:Heap}{K:TK}{id':Nat}{l:List Oper}(t:List (SV×Bool))(hm:P.follows .mixedOrders=true)(hB:mixB l.toArray (t.map (·.2))=true)
  (hp:zpJ P n K g l.toArray (zba l.toArray (t.map (·.1)) env0) H0 l t)(hE:zbv (zba l.toArray (t.map (·.1)) env0)=some envF)(hne:0<l.length)(hK:g->K .normal envF H0):
  TR P n (.region id' l.toArray true) env0 H0 K:=by
 obtain⟨g1,g2⟩:=hp.get
 intro φ m a h1 h2 h3 h4
 let hs:=List.replicate (((t.map (·.2)).filter id).length+1) H0
 have hsg:∀(c:Nat) H,hs[c]?=some H->H=H0:=by
  intro c H h
  rw[qbZ]at h
  split at h
  ·cases h;rfl
  ·cases h
 have hsi:∀c:Nat,c≤((t.map (·.2)).filter id).length->hs[c]?=some H0:=by
  intro c hc
  rw[qbZ,if_pos (by omega)]
 have s0:Step m ⟨m.A,m.β,m.H,{ m.w with drawn:=m.w.drawn+1 }⟩/\HRel ⟨m.A,m.β,m.H,{ m.w with drawn:=m.w.drawn+1 }⟩:=zcO h2 ⟨rfl,rfl,rfl,qag _,fun _ _=>rfl⟩
 refine zbn (wpIn_region_any hm ?_)
 refine zfm [] (G:=fun i=>zuB g (l.drop (i+1))) (vs:=t.map (·.1)) (fl:=t.map (·.2)) (hs:=hs) (HF:=H0) (m0:=m) (fun t ht=>by simp at ht) hB (by simp[g1]) (by simp[g1]) ?_ ?_ (hsi _ (qag _)) (fun hg=>by rw[zaV hE]at hK;exact hK (by have:=hg (l.length-1) (by simp;omega);rw[qa8 (by omega)]at this;exact this)) l.toArray.size (Array.replicate l.toArray.size false)
  ⟨m.A,m.β,m.H,{ m.w with drawn:=m.w.drawn+1 }⟩ a (by simp) ?_ ?_ ?_ s0.1 s0.2 ?_ (h4.step h2 s0.1)
 ·intro i o v ho hv hb c H hc _ env
  obtain⟨⟨v',b⟩,hx,rfl⟩:∃x,t[i]?=some x/\x.1=v:=by simpa using hv
  rw[hsg c H hc]
  exact g2 i o v' b (by simpa using ho) hx env
 ·intro i o v ho hv hb
  obtain⟨⟨v',b⟩,hx,rfl⟩:∃x,t[i]?=some x/\x.1=v:=by simpa using hv
  have hlt:(((t.map (·.2)).take i).filter id).length<((t.map (·.2)).filter id).length:=by
   have hm:∀(fl':List Bool) (x:Nat),fl'.getD x false=true->((fl'.take x).filter id).length<(fl'.filter id).length:=by
    exact zwbo
   exact hm _ i hb
  exact⟨H0,H0,hsi _ (by omega),hsi _ (by omega),fun env=>g2 i o v' b (by simpa using ho) hx env⟩
 ·exact zwfv
 ·exact zwct
 ·refine⟨0,fun i hi=>⟨fun h=>by omega,fun h=>?_⟩,qaK _,by rw[hsi 0 (qaK _)];simp[h1],fun j h=>?_⟩
  all_goals
   rw[qaN]at h
   split at h <;> cases h
 ·exact zwh
end rules
end Go.TL
namespace Go.Proofs.YtpnnpgbaiobbjaaGreatDoor
open Go Go.Shelf Go.Proofs
def renF:Nat->Nat
 | 104=>323
 | 109=>248
 | 110=>179
 | 129=>285
 | 145=>322
 | 171=>48
 | 207=>338
 | 211=>334
 | 217=>339
 | 219=>337
 | 220=>333
 | 224=>341
 | 225=>340
 | 243=>102
 | 246=>156
 | 266=>343
 | 267=>342
 | 283=>233
 | 284=>234
 | 285=>235
 | 286=>236
 | 314=>344
 | 317=>284
 | 318=>286
 | 319=>287
 | 320=>288
 | 337=>315
 | 338=>316
 | 347=>345
 | 348=>346
 | 349=>347
 | 350=>348
 | 351=>349
 | 352=>350
 | 353=>351
 | 354=>352
 | 355=>353
 | 356=>354
 | 357=>355
 | 358=>356
 | 359=>357
 | 360=>358
 | 361=>359
 | 366=>361
 | n=>n
def renT:Nat->Nat
 | 22=>358
 | 24=>346
 | 25=>347
 | 27=>357
 | 28=>171
 | 29=>272
 | 31=>43
 | 32=>299
 | 33=>197
 | 37=>288
 | 41=>278
 | 45=>231
 | 46=>321
 | 47=>322
 | 51=>319
 | 52=>342
 | 53=>285
 | 54=>286
 | 55=>359
 | 59=>344
 | 60=>345
 | 69=>107
 | 73=>166
 | 80=>362
 | 81=>368
 | 83=>90
 | 84=>218
 | 101=>72
 | 102=>128
 | 104=>213
 | 111=>305
 | 112=>341
 | 114=>203
 | 127=>372
 | 131=>40
 | 146=>360
 | 151=>361
 | 164=>377
 | 171=>284
 | 172=>287
 | 173=>289
 | 174=>290
 | 211=>317
 | 212=>318
 | 213=>320
 | 229=>295
 | 232=>354
 | 233=>355
 | 238=>363
 | 239=>364
 | 240=>365
 | 241=>366
 | 242=>367
 | 243=>369
 | 244=>370
 | 245=>371
 | 246=>373
 | 247=>374
 | 248=>375
 | 249=>376
 | n=>n
def renG:Nat->Nat
 | 1=>3
 | 17=>0
 | 18=>1
 | 19=>2
 | n=>n
def ren:Ren:=⟨renF,renT,renG⟩
set_option maxRecDepth 100000 in
theorem zu4:Lays.n171 Tryz.prog ren:=by
 constructor <;> first|kernel_rfl|(intro w;kernel_rfl)
set_option maxRecDepth 100000 in
theorem zvV:LaysM.n171 Tryz.prog ren:=by
 constructor <;> first|exact zu4|kernel_rfl|(intro w;kernel_rfl)
end Go.Proofs.YtpnnpgbaiobbjaaGreatDoor
namespace Go.Proofs.YtpnnpgbaiobbjaaGreatDoor
open Go Go.TL Go.Shelf
theorem zm7{w w':World}(h:RowKit.Below w.heap.size w w'):Keeps w w':=⟨h.os,h.tape,h.output,h.size,h.block⟩
theorem zpA{f:FuncId}{args:List SV}{l:Str}(hc:Callable Tryz.prog f)
  (h:∀(m:M) (vs:Array Value),HRel m->m.H=[]->ARel m args vs->Calls Tryz.prog f vs m.w fun e w'=>e= .returned (str l)/\RowKit.Below m.w.heap.size m.w w'):Pure Tryz.prog f args (.s l):=by
 unfold Go.TL.Pure Go.TL.Sound
 refine⟨hc,fun m vs h1 h2 h3=>Calls.mono (h m vs h2 h1 h3) ?_⟩
 rintro e w' ⟨rfl,hb⟩
 obtain⟨st,hm⟩:=zcO h2 (zm7 hb)
 exact⟨_,.ret (.s l),rfl,st,hm,.t _ _ (.v _),rfl,h1⟩
theorem zh6(n:Int)(h:-9223372036854775808≤n/\n≤9223372036854775807):Pure Tryz.prog 48 [.i n] (.s (Go.Lib.itoa n)):=by
 refine zpA ⟨_,Tryz.func48,by kernel_rfl,rfl⟩ fun m vs hm _ hA=>?_
 obtain⟨g1,g2⟩:=hA
 match vs,g1,g2 with
 | ⟨[x]⟩,_,g2=>
   have hx:=(g2 0 _ x rfl rfl).v_eq
   subst hx
   have ht:Go.Lib.TabIs Tryz.prog m.w "internal/strconv.uint64pow10" .u64 Go.Lib.pow10Tab:=by
    obtain⟨_,e,f,hg⟩:=hm.glob gPow powA zsM
    unfold Go.Lib.TabIs World.var?
    rw[show Tryz.prog.globalNamed "internal/strconv.uint64pow10"=some gPow by kernel_rfl]
    simp only[Option.bind_some]
    rw[hg]
    kernel_rfl
   refine Calls.mono (Go.Proofs.Any.strconv_Itoa zvV n h.1 h.2 m.w ht) ?_
   rintro e w' ⟨rfl,k,os,rfl⟩
   exact⟨rfl,Go.Proofs.below_grown_sl _ _ _ _ (qag _)⟩
end Go.Proofs.YtpnnpgbaiobbjaaGreatDoor
namespace Go.Proofs.YtpnnpgbaiobbjaaGreatDoor
open Go Go.TL
attribute [local irreducible] TR TO Then zap RetK Sound zab Kf GG za3
theorem zwI{α:Type}{a b x:α}(h:x∈[a,b]):x=a\/x=b:=by simpa using h
theorem zdx{u:En}(h:(enT u).w≤100000000):zdc u.name/\(∀s∈u.tags,zdc s)/\u.tags.length≤100000000:=by
 rw[show enT u= .ag [.s u.name,.sl 1 (u.tags.map T.s)] from rfl,w_ag]at h
 simp only[qaj,qaw,qan,qaG,w_s]at h
 refine⟨by show _≤_;omega,fun s hs=>?_,?_⟩
 ·have h2:=zau (f:=T.s) (sz:=1) hs
  rw[w_s]at h2
  show _≤_
  omega
 ·have h2:=zai T.s 1 u.tags
  omega
theorem zhr{n:Nod}(h:(nodT n).w≤100000000):zdc n.name:=by
 rw[show nodT n= .ag (nodC n) from rfl,w_ag]at h
 simp only[nodC,qaj,qaw,qan,qaG,w_s]at h
 show _≤_
 omega
theorem zoL{n:Nod}(h:(nodT n).w≤90000000):znO n/\(∀d∈zav n,d.clock.length≤100000000)/\(zad (zav n)).w≤100000000:=by
 have hw:=zda n
 have e:∀l:List Decl,(zad l).w=1+((l.map zaa).map T.w).sum:=fun l=>w_sl 3 _
 have h3:(zad (zav n)).w≤(zad n.ins).w+(zad n.outs).w+(zad n.locals).w:=by
  exact zwfa
 have h4:(zad (zav n)).w≤100000000:=by omega
 have l1:=zai zaa 3 n.ins
 have l2:=zai zaa 3 n.outs
 have l3:=zai zaa 3 n.locals
 have q:∀l:List Decl,(zad l).w=(T.sl 3 (l.map zaa)).w:=fun _=>rfl
 have q1:=q n.ins
 have q2:=q n.outs
 have q3:=q n.locals
 exact⟨⟨by omega,by omega,by omega⟩,fun d hd=>(zbu h4 d hd).few,h4⟩
theorem zrr{a:List Str}{n:Nod}(ha:zaw a)(h:(nodT n).w≤90000000):zaw (zgq 100000000 a n):=by
 have hw:=zda n
 have h1:=zcp (ha.ins (zhr (qaC h (by decide)))) (zbu (zoL h).2.2)
 have h2:=zio 100000000 _ n.eqs n.autos h1 (by omega) (by omega)
 have h3:=zhs 100000000 _ n.eqs n.autos h2 (by omega) (by omega)
 refine zaJ h3 fun a e he ha=>zgr ha (za1 ?_)
 rcases qaF.1 he with he|he
 ·have:=zau (f:=exT) (sz:=6) he;omega
 ·have:=zau (f:=exT) (sz:=6) he;omega
set_option maxHeartbeats 8000000 in
theorem zm8 (p:Prog) (hw:(T.ag (zax p)).w≤90000000):Sound Tryz.prog 47 [.t (.ag (zax p))] [] (fun r H'=>r= .ret (.mp 0)/\H'=[setB (zec 100000000 p)]):=by
 have hm1:(p.enums.map enT).length=p.enums.length:=qaa _
 have hm2:(p.nodes.map nodT).length=p.nodes.length:=qaa _
 have hww:=hw
 rw[w_ag]at hww
 simp only[zax,zaA,qaj,qaw,qan,qaG]at hww
 have hl1:=zai enT 2 p.enums
 have hl2:=zai nodT 8 p.nodes
 have hen:∀u∈p.enums,(enT u).w≤90000000:=fun u hu=>by have:=zau (f:=enT) (sz:=2) hu;omega
 have hno:∀n∈p.nodes,(nodT n).w≤90000000:=fun u hu=>by have:=zau (f:=nodT) (sz:=8) hu;omega
 have hb1:p.enums.length≤100000000:=by have:(T.sl 2 (p.enums.map enT)).w=(T.sl 2 (p.enums.map enT)).w:=rfl;omega
 have hb2:p.nodes.length≤100000000:=by omega
 have hokE:=za7 (f:=zdW) (l:=p.enums) zaw.nil (fun a u hu ha=>zaJ (ha.ins (zdx (qaC (hen u hu) (by decide))).1) fun a s hs ha=>ha.ins ((zdx (qaC (hen u hu) (by decide))).2.1 s hs))
 have hok1:=hokE p.enums.length
 rw[qae]at hok1
 have hokN:=za7 (f:=zgq 100000000) (l:=p.nodes) hok1 (fun a n hn ha=>zrr ha (hno n hn))
 unfold zec zax
 clear hw hww
 refine so Tryz.func47 ?_
 repeat' (first|refine wkt ?_|(apply TO.makeMap 9 4;exact rfl)|refine zqy ?_|refine zab.exit ?_|exact wkc|intro hc|refine wk2 ?_ ?_|fail)
 refine TR.zal p.enums.length (fun _=>True) (fun j=>[(1,.cp [.sl 2 (p.enums.map enT),zaA p.nodes] 0),(3,.ref 1 0),(12,.t (.sl 2 (p.enums.map enT))),(13,.i p.enums.length),(14,.i j)]) (fun j=>knH ((p.enums.take j).foldl zdW [])) trivial (fun j hlt _=>?_) (fun _=>?_) ⟨rfl,rfl,rfl,by rw[<-hm1];rfl,rfl,trivial⟩ rfl
 ·have hx:(p.enums.map enT)[j]?=some (.ag [.s p.enums[j].name,.sl 1 (p.enums[j].tags.map T.s)]):=zao enT hlt
  have hn:=zam zdW [] hlt
  have hk:=hokE j
  obtain⟨g1,g2,g3⟩:=zdx (qaC (hen _ (qad hlt)) (by decide))
  generalize (p.enums.take j).foldl zdW []=acc at*
  have hfe:zdW acc p.enums[j]=p.enums[j].tags.foldl ins (ins acc p.enums[j].name):=rfl
  rw[hfe]at hn
  have hok2:=za7 (f:=ins) (l:=p.enums[j].tags) (hk.ins g1) (fun a s hs ha=>ha.ins (g2 s hs))
  have hmc:(p.enums[j].tags.map T.s).length=p.enums[j].tags.length:=qaa _
  clear hfe hokE hokN hen hno
  generalize p.enums[j]=u at*
  repeat' (first|refine wkt ?_|refine zqq ?_|(apply TO.zee;(iterate 4 exact rfl);exact hk;exact g1;exact rfl)|refine zab.exit ?_|exact wkc|intro hc|refine wk2 ?_ ?_|fail)
  refine TR.zal u.tags.length (fun _=>True) (fun k=>[(1,.cp [.sl 2 (p.enums.map enT),zaA p.nodes] 0),(3,.ref 1 0),(12,.t (.sl 2 (p.enums.map enT))),(13,.i p.enums.length),(14,.i j),(22,.t (.sl 1 (u.tags.map T.s))),(23,.i u.tags.length),(24,.i k)]) (fun k=>knH ((u.tags.take k).foldl ins (ins acc u.name))) trivial (fun k hlk _=>?_) (fun _=>?_) ⟨rfl,rfl,rfl,rfl,rfl,rfl,by rw[<-hmc];rfl,rfl,trivial⟩ rfl
  ·have hy:=zao T.s hlk
   have hn2:=zam ins (ins acc u.name) hlk
   have hk2:=hok2 k
   have hs2:=g2 _ (qad hlk)
   generalize (u.tags.take k).foldl ins (ins acc u.name)=acc2 at*
   generalize u.tags[k]=s at*
   repeat' (first|refine wkt ?_|refine zqr ?_|(apply TO.zee;(iterate 4 exact rfl);exact hk2;exact hs2;exact rfl)|refine zab.exit ?_|exact wkc|intro hc|refine wk2 ?_ ?_|refine wk ?_|fail)
   exact zwdd
  ·exact zwbl
 rw[qae]
 clear hokE
 generalize p.enums.foldl zdW []=a0 at*
 repeat' (first|refine wkt ?_|refine zab.exit ?_|exact wkc|intro hc|refine wk2 ?_ ?_|fail)
 refine TR.zal p.nodes.length (fun _=>True) (fun j=>[(3,.ref 1 0),(33,.t (zaA p.nodes)),(34,.i p.nodes.length),(35,.i j)]) (fun j=>knH ((p.nodes.take j).foldl (zgq 100000000) a0)) trivial (fun j hlt _=>?_) (fun _=>?_) ⟨rfl,rfl,by rw[<-hm2];rfl,rfl,trivial⟩ rfl
 ·have hx:=zfo hlt
  have hn:=zam (zgq 100000000) a0 hlt
  have hk:=hokN j
  have hwn:=hno _ (qad hlt)
  generalize (p.nodes.take j).foldl (zgq 100000000) a0=acc at*
  have hnm:=zhr (qaC hwn (by decide))
  obtain⟨v1,v2,v3⟩:=zoL hwn
  have c0:=zcz p.nodes[j] v1 v2
  have c1:=zgW (ins acc p.nodes[j].name) (hk.ins hnm) (zav p.nodes[j]) v3
  have hk1:=zcp (hk.ins hnm) (zbu v3)
  have hws:=zda p.nodes[j]
  have c2:=zg1 100000000 _ p.nodes[j].eqs p.nodes[j].autos hk1 (by omega) (by omega) (by omega)
  have hk2:=zio 100000000 _ p.nodes[j].eqs p.nodes[j].autos hk1 (by omega) (by omega)
  have c3:=zmR _ p.nodes[j] hk2 (by omega)
  have hfe:zgq 100000000 acc p.nodes[j]=zhT 100000000 (zaT 100000000 (zaE (ins acc p.nodes[j].name) (zav p.nodes[j])) p.nodes[j].eqs p.nodes[j].autos) p.nodes[j]:=rfl
  rw[hfe]at hn
  clear hfe hokN hno hen hws v1 v2 v3 hk1 hk2 hwn
  generalize zhT 100000000 (zaT 100000000 (zaE (ins acc p.nodes[j].name) (zav p.nodes[j])) p.nodes[j].eqs p.nodes[j].autos) p.nodes[j]=a3 at*
  generalize zaT 100000000 (zaE (ins acc p.nodes[j].name) (zav p.nodes[j])) p.nodes[j].eqs p.nodes[j].autos=a2 at*
  generalize zaE (ins acc p.nodes[j].name) (zav p.nodes[j])=a1 at*
  generalize zav p.nodes[j]=vs at*
  generalize p.nodes[j]=n at*
  unfold nodC at hx c0 c3
  repeat' (first|refine wkt ?_|refine zqq ?_|(apply TO.zee;(iterate 4 exact rfl);exact hk;exact hnm;exact rfl)|refine zab.exit ?_|exact wkc|intro hc|refine wk2 ?_ ?_|fail)
  apply TR.zuV (envF:=_) (HF:=knH a1) [(_,false),(_,false),(_,false),(_,true)] [knH (ins acc n.name),knH a1] hmix
  case hB=>(dsimp only[List.map];decide +kernel)
  case h0=>exact rfl
  case hF=>exact rfl
  case hp=>
   repeat' (first|(refine qah (fun H hH env=>?_) ?_;rcases zwI hH with rfl|rfl)|refine qah (fun env=>?_) ?_|refine wma ?_|refine wmv c0 ?_|(apply TO.zaD 1 c1;(iterate 3 exact rfl);exact Les.refl _;(iterate 8 exact rfl))|exact trivial|exact qah rfl rfl|refine wmk ?_|fail)
   done
  case hE=>exact rfl
  case hK=>
   repeat' (first|refine wkt ?_|(apply TO.zaD 1 c2;(iterate 3 exact rfl);exact Les.refl _;(iterate 8 exact rfl))|(apply TO.zaD 2 c3;(iterate 3 exact rfl);exact Les.refl _;(iterate 8 exact rfl))|(apply TO.makeFunc;exact rfl;exact rfl)|refine zab.exit ?_|exact wkc|intro hc|refine wk2 ?_ ?_|refine wk ?_|fail)
   exact zab.zaz hlt trivial (by(try dsimp only);exact⟨rfl,rfl,rfl,rfl,trivial⟩) (by(try dsimp only);rw[hn])
 ·rw[qae]
  repeat' (first|refine wu ?_|exact wkc|intro hc|refine wk2 ?_ ?_|fail)
  exact RetK.keep 1 rfl (Le.refl _) rfl rfl rfl rfl rfl ⟨rfl,rfl⟩
theorem zs5(p:Prog)(hw:(T.ag (zax p)).w≤90000000):zaw (zec 100000000 p):=by
 rw[w_ag]at hw
 simp only[zax,zaA,qaj,qaw,qan,qaG]at hw
 have hen:∀u∈p.enums,(enT u).w≤90000000:=fun u hu=>by have:=zau (f:=enT) (sz:=2) hu;omega
 have hno:∀n∈p.nodes,(nodT n).w≤90000000:=fun u hu=>by have:=zau (f:=nodT) (sz:=8) hu;omega
 exact zaJ (zaJ zaw.nil fun a u hu ha=>zaJ (ha.ins (zdx (qaC (hen u hu) (by decide))).1) fun a s hs ha=>ha.ins ((zdx (qaC (hen u hu) (by decide))).2.1 s hs)) fun a n hn ha=>zrr ha (hno n hn)
theorem zqU(l:List Str)(base:Str):∀(f n:Nat),n≤frs l base f n
 | 0,n=>qag _
 | f+1,n=>by
   unfold frs
   split
   ·have:=zqU l base f (n+1)
    omega
   ·exact qag _
theorem zh7(n:Nat)(h:n<10 ^ 18):(Go.Lib.itoa (n:Int)).length≤30:=by
 unfold Go.Lib.itoa
 rw[if_neg (by omega)]
 have hd:∀(m u:Nat),u<10 ^ m->(Go.Lib.decDigits u).length≤m+1:=by
  intro m
  induction m with
  | zero=>intro u h;rw[Go.Lib.decDigits,dif_pos (by simp at h;omega)];simp
  | succ m ih=>
    intro u h
    rw[Go.Lib.decDigits]
    split
    ·simp
    ·have:=ih (u / 10) (by rw[Nat.pow_succ]at h;omega)
     exact zwfy
 have:=hd 18 (n:Int).toNat (by simpa using h)
 omega
set_option maxHeartbeats 8000000 in
theorem zmX (p:Prog) (hw:(T.ag (zax p)).w≤90000000) (base:Str) (hb:base.length≤1000) (hL:(zec 100000000 p).length≤100000000000000):Pure Tryz.prog 22 [.t (.ag (zax p)),.s base] (.s (zaF (zec 100000000 p) base)):=by
 have c0:=zm8 p hw
 have hk:=zs5 p hw
 generalize zec 100000000 p=L at*
 obtain⟨f1,f2,f3⟩:=zjs L base 1
 have hge:=zqU L base (L.length+1) 1
 have hfr:zaF L base=zdz base (frs L base (L.length+1) 1):=rfl
 rw[hfr]
 clear hfr
 generalize frs L base (L.length+1) 1=N at*
 unfold zax at*
 refine so Tryz.func22 ?_
 repeat' (first|refine wkt ?_|(apply TO.zoZ [] (v':=.mp 0) (H':=[setB L]) c0;(iterate 3 exact rfl);exact Les.refl _;exact rfl;exact zeO _;exact rfl;exact rfl)|refine zab.exit ?_|exact wkc|intro hc|refine wk2 ?_ ?_|fail)
 refine TR.zkj (ι:=Nat) (fun n=>1≤n/\n≤N) (fun n=>N-n) (fun n=>[(1,.s base),(5,.mp 0),(6,.i n)]) (fun n=>[setB L]) 1 ⟨qag _,hge⟩ ⟨rfl,rfl,rfl,trivial⟩ rfl ?_
 rintro n ⟨n1,n2⟩
 have hit:=zh6 (n:Int) (by omega)
 have hil:=zh7 n (by have:(10:Nat) ^ 18=1000000000000000000:=(by decide);omega)
 have hnm:zdz base n=base++[95]++Go.Lib.itoa (n:Int):=rfl
 have hsl:(base++[95]++Go.Lib.itoa (n:Int)).length≤1000000000:=by simp only[qaf,qam,qaE];omega
 by_cases hN:n=N
 ·subst hN
  rw[hnm]at f1⊢
  generalize Go.Lib.itoa (n:Int)=it at*
  clear f3
  repeat' (first|refine wkt ?_|refine wv hit ?_|refine zqk ?_|(apply TO.zf1;(iterate 4 exact rfl);exact hk;exact hsl)|(exact fun hc=>absurd hc f1)|(exact fun hc=>absurd f1 hc)|refine zab.exit ?_|exact wkc|intro hc|refine wk2 ?_ ?_|refine wk ?_|fail)
  exact wkr
 ·exact zwl
end Go.Proofs.YtpnnpgbaiobbjaaGreatDoor
