import Derived.Test.YtdicfgideclbdaaGreatDoorAk19
set_option maxHeartbeats 64000000
set_option linter.all false
namespace Go.Proofs.YtdicfgideclbdaaGreatDoor
open Go Go.TL
attribute [local irreducible] TR TO Then zaj RetK Sound zac Kf GG zaQ
variable {B k:Nat}{a:Lv}{α β:Type}{p:Prog}{seen:List (Int×Str×Int)}{u:Equ}{env:Env}{H1:Heap}{rs:List ResultVar}{l:List Str}{es:List En}
def dupE:List Str->List Str->Int
 | _,[]=>0
 | pre,s::l=>if s∈pre then 7 else dupE (pre++[s]) l
def lv0:Lv:=⟨[],[],[]⟩
def stS(p:Prog)(seen:List (Int×Str×Int))(node:Int)(F:List Str->List Str->Lv->Auto->Lv×Int)(vis low:List Str)(s:Sta):List Str×Int:=
 let r1:=zag (zbF seen vis) lv0 s.locals
 let r2:=zag (equS p seen node vis low) r1.1 s.eqs
 let r3:=zag (F vis low) r2.1 s.autos
 (zbL r3.1.own r3.1.defs,
   orE r1.2 (orE (zjV (vis++r1.1.own) s.locals) (orE r2.2 (orE r3.2 (orE (zrD p seen node vis s.unl) (orE (zrD p seen node (vis++r3.1.own) s.unt) (zad (fun d:Decl=>if d.name∈r3.1.done then 0 else 8) s.locals)))))))
def zaS(l:List (List Str×Int)):List Str:=(l.headD ([],0)).1
def zde(l:List (List Str×Int)):Bool:=l.all fun r=>zoo r.1 (zaS l)
def zcQ(p:Prog)(seen:List (Int×Str×Int))(node:Int):Nat->List Str->List Str->Lv->Auto->Lv×Int
 | 0,_,_,t,_=>(t,0)
 | k+1,vis0,low,t,a=>
   let rs:=a.states.map (stS p seen node (zcQ p seen node k) (vis0++t.own) (low++t.done))
   (⟨t.own,(zaS rs).foldl ins t.done,t.defs++zaS rs⟩,orE (dupE [] (a.states.map Sta.name)) (orE (zad Prod.snd rs) (if zde rs=true then 0 else 8)))
def zma:Nat->Auto->Prop
 | 0,_=>False
 | k+1,a=>∀s∈a.states,∀b∈s.autos,zma k b
structure Good (own:List Str) (B:Nat) (a:Lv):Prop where
 ok:a.ok
 own:a.own=own
 len:a.defs.length≤B
 short:∀s∈a.defs,s.length≤1000000000
theorem Good.mono{own:List Str}{B':Nat}(h:Good own B a)(hb:B≤B'):Good own B' a:=⟨h.ok,h.own,qax h.len hb,h.short⟩
theorem zbS{f:β->α->β×Int}{G:Nat->β->Prop}{w:α->Nat}(l:List α)(step:∀B a x,x∈l->G B a->(f a x).2=0->G (B+w x) (f a x).1):∀(B:Nat) (a:β),G B a->(zag f a l).2=0->G (B+(l.map w).sum) (zag f a l).1:=by
 induction l with
 | nil=>intro B a h _;simpa [zag]using h
 | cons x l ih=>
   intro B a h hz;unfold zag at hz⊢;split at hz
   ·rename_i h0;rw[oG h0]
    have:=ih (fun B a y hy=>step B a y (by simp[hy])) _ _ (step B a x oC h h0) hz
    rw[qaf,qaG,<-qa1];exact this
   ·rename_i h0;exact oI hz h0
theorem ze6{f:β->α->β×Int}{G:Nat->β->Prop}{w:α->Nat}(l:List α)(step:∀B a x,x∈l->G B a->(f a x).2=0->G (B+w x) (f a x).1)(B:Nat)(a:β)(h:G B a)(hz:(zag f a (l.take k)).2=0):G (B+((l.take k).map w).sum) (zag f a (l.take k)).1:=
 zbS (l.take k) (fun B a x hx=>step B a x (qaS hx)) B a h hz
theorem ztr{α:Type}:∀(l:List α),(l.map fun _=>1).sum=l.length
 | []=>rfl
 | x::l=>by simp[ztr l];omega
theorem zsp{vis low own:List Str}{s:Str}(hs:s.length≤1000000000)(h:Good own B a):Good own (B+1) (zdm vis low a s).1:=by
 refine⟨h.ok.zdF hs,h.own,?_,fun x hx=>?_⟩
 ·have:=h.len
  simp[zdm,Lv.zdF];omega
 ·simp[zdm,Lv.zdF]at hx;rcases hx with hx|rfl
  ·exact h.short x hx
  ·exact hs
theorem zkl{node:Int}{vis0 low own:List Str}(hw:(equT u).w≤1000000000)(h:Good own B a)(hz:(equS p seen node vis0 low a u).2=0):Good own (B+(equT u).w) (equS p seen node vis0 low a u).1:=by
 unfold equS at hz⊢;simp only[orE]at hz
 have h1:(zag (zdm (vis0++a.own) low) a u.left).2=0:=by
  split at hz
  ·assumption
  ·exact hz
 have:=zbS (G:=Good own) (w:=fun _=>1) u.left (fun B a x hx h _=>zsp (qax (zvY hx) hw) h) B a h h1
 refine this.mono ?_
 have:=ze9 (q:=u)
 rw[ztr];omega
theorem ztm{node:Int}{F:List Str->List Str->Lv->Auto->Lv×Int}{vis low:List Str}{s:Sta}(hw:(staT s).w≤1000000000)
  (hF:∀own B t b,b∈s.autos->Good own B t->(F vis low t b).2=0->Good own (B+(zam b).w) (F vis low t b).1)(hz:(stS p seen node F vis low s).2=0):
  (stS p seen node F vis low s).1.length≤(staT s).w/\∀x∈(stS p seen node F vis low s).1,x.length≤1000000000:=by
 have hws:=zmW s;unfold stS at hz⊢;simp only[orE]at hz⊢;have z1:(zag (zbF seen vis) lv0 s.locals).2=0:=by grind
 have z2:(zag (equS p seen node vis low) (zag (zbF seen vis) lv0 s.locals).1 s.eqs).2=0:=by grind
 have z3:(zag (F vis low) (zag (equS p seen node vis low) (zag (zbF seen vis) lv0 s.locals).1 s.eqs).1 s.autos).2=0:=by grind
 have g0:(fun(B:Nat) (a:Lv)=>a.ok/\a.defs=[]) 0 lv0:=⟨⟨zbm.nil,zbm.nil⟩,rfl⟩;have g1:=zbS (f:=zbF seen vis) (G:=fun(B:Nat) (a:Lv)=>a.ok/\a.defs=[]) (w:=fun _=>0) s.locals (fun B a x hx h _=>⟨h.1.zgU (by have:=(zbq hx).1;omega),h.2⟩) 0 lv0 g0 z1;have g2:=zbS (f:=equS p seen node vis low) (G:=Good (zag (zbF seen vis) lv0 s.locals).1.own) (w:=fun u=>(equT u).w) s.eqs (fun B a x hx h hz=>zkl (by have:=zaY (f:=equT) (sz:=7) hx;omega) h hz) 0 _ ⟨g1.1,rfl,by rw[g1.2];exact qag _,by rw[g1.2];simp⟩ z2;have g3:=zbS (f:=F vis low) (G:=Good (zag (zbF seen vis) lv0 s.locals).1.own) (w:=fun b=>(zam b).w) s.autos (fun B a x hx h hz=>hF _ B a x hx h hz) _ _ g2 z3;refine⟨?_,fun x hx=>g3.short x ((qcg.1 hx).1)⟩;refine qax (zei _ _) ?_;have h3:=g3.len
 have e1:((s.eqs.map fun u=>(equT u).w)).sum≤(T.sl 7 (s.eqs.map equT)).w:=by
  rw[w_sl,qa0];simp only[qcD];omega
 have e2:((s.autos.map fun u=>(zam u).w)).sum≤(T.sl 1 (s.autos.map zam)).w:=by
  rw[w_sl,qa0];simp only[qcD];omega
 omega
theorem zhQ{p:Prog}{seen:List (Int×Str×Int)}{node:Int}:∀(k:Nat) {vis0 low own:List Str} {B:Nat} {t:Lv} {a:Auto},(zam a).w≤1000000000->Good own B t->(zcQ p seen node k vis0 low t a).2=0->Good own (B+(zam a).w) (zcQ p seen node k vis0 low t a).1
 | 0,vis0,low,own,B,t,a,hw,h,hz=>h.mono oA
 | k+1,vis0,low,own,B,t,a,hw,h,hz=>by
   have hwa:=zhc a;unfold zcQ at hz⊢;simp only[orE]at hz⊢;have z1:zad Prod.snd (a.states.map (stS p seen node (zcQ p seen node k) (vis0++t.own) (low++t.done)))=0:=by grind
   have hfs:(zaS (a.states.map (stS p seen node (zcQ p seen node k) (vis0++t.own) (low++t.done)))).length≤(zam a).w/\∀x∈zaS (a.states.map (stS p seen node (zcQ p seen node k) (vis0++t.own) (low++t.done))),x.length≤1000000000:=by
    cases hs:a.states with
    | nil=>simp[zaS]
    | cons s l=>
      have hm:s∈a.states:=by rw[hs];simp
      have hws:=zaY (f:=staT) (sz:=6) hm
      have z2:(stS p seen node (zcQ p seen node k) (vis0++t.own) (low++t.done) s).2=0:=by
       rw[hs,qaf,zad]at z1;split at z1
       ·assumption
       ·exact z1
      have:=ztm oA (fun own B t b hb hg hz=>zhQ k (by have:=zaY (f:=zam) (sz:=1) hb;have:=zmW s;omega) hg hz) z2
      simp only[zaS,qaf,List.headD_cons];exact⟨oA,this.2⟩
   generalize zaS (a.states.map (stS p seen node (zcQ p seen node k) (vis0++t.own) (low++t.done)))=fs at*;refine⟨⟨h.ok.own,?_⟩,h.own,?_,fun x hx=>?_⟩
   ·have:∀(l:List Str) (d:List Str),zbm d->(∀x∈l,x.length≤1000000000)->zbm (l.foldl ins d):=by
     exact zwbr
    exact this fs t.done h.ok.done hfs.2
   ·have:=h.len
    simp;omega
   ·simp at hx;rcases hx with hx|hx
    ·exact h.short x hx
    ·exact hfs.2 x hx
theorem zrL(seen:List (Int×Str×Int))(vis0:List Str)(a:Lv)(d:Decl):zlF seen vis0 a [d]=zbF seen vis0 a d:=by
 unfold zlF;simp only[zag];split
 ·rename_i h;generalize zbF seen vis0 a d=z at*;obtain⟨z1,z2⟩:=z;simp only at h;subst h;rfl
 ·rfl
theorem zzW{H:Heap}{n q c:Int}{N:Nat}{vs:List SV}{v:SV}(hc:c=0)(hr:zbO tab env H rs=some vs)(hl:Le (pack vs) v)(hN:Nat.ble N H1.length=true)(hk:Nat.ble H1.length H.length=true)(hu:v.under H1.length=true)(ht:H.take H1.length=H1)(hb:zaa H1.length H1=true):
  ziZ (RetK tab rs N (Err0 c v (zcu n q c) H1 N)) .ret env H:=RetK.errV hc hr hl hN hk hu ht hb
theorem zul:Pure Tryz.prog 169 [.t (.sl 1 []),.any] (.t (.sl 1 [])):=by
 have hi:Pure Tryz.prog 191 [.t (.sl 1 []),.any] (.i (-1)):=by
  refine so Tryz.func191 ?_;repeat' (first|refine wk ?_|exact wkc|refine wk2 ?_ ?_|intro hc)
  refine TR.zaz 0 (fun _=>True) (fun k=>[(0,.t (.sl 1 [])),(7,.i 0),(8,.i k)]) (fun _=>[]) trivial (fun k hlt _=>?_) (fun _=>?_) ⟨rfl,rfl,rfl,trivial⟩
  ·omega
  ·refine yd ?_;exact wkr
 refine so Tryz.func169 ?_;refine yb hi ?_;exact wkr
theorem zvb(f:α->T)(sz:Nat)(l:List α):(l.map fun x=>(f x).w).sum<(T.sl sz (l.map f)).w:=by
 rw[w_sl,qa0];simp only[qcD];omega
theorem zbP{α:Type}(w:α->Nat):∀(l:List α) (k:Nat),((l.take k).map w).sum≤(l.map w).sum
 | [],k=>oC
 | x::l,0=>oC
 | x::l,k+1=>by
   have:=zbP w l k
   simp only[qaO,qaf,qaG];omega
theorem zu6 (p:Prog) (hp:zgT p) (n q:Int) (seen:List (Int×Str×Int)) (hse:zaV seen) (hsn:zcr p seen) (node:Int) (h:Ch) (hn1:h.N≠5) (hn2:h.N≠19) (hk0:h.ok) (F:List Str->List Str->Lv->Auto->Lv×Int) (s:Sta) (hw:(staT s).w≤1000000000)
  (hF:∀own B tt bb,bb∈s.autos->Good own B tt->(F h.vis (h.low++h.top.done) tt bb).2=0->Good own (B+(zam bb).w) (F h.vis (h.low++h.top.done) tt bb).1)
  (hau:∀bb,bb∈s.autos->∀x:Lv,x.ok->x.defs.length≤1000000000->(∀y∈x.defs,y.length≤1000000000)->SS 105 [.i node,.ref (h.push x).id 0,.t (.ag (zd5 bb))] p n q seen (h.push x) (h.push (F h.vis (h.low++h.top.done) x bb).1) (F h.vis (h.low++h.top.done) x bb).2)
  (hxe:∀u∈s.eqs,∀x∈flat u.right,ExOk x) (hxu:∀t∈s.unl,∀x∈flat t.cond,ExOk x) (hxv:∀t∈s.unt,∀x∈flat t.cond,ExOk x):
  Sound Tryz.prog 146 [.ref 0 0,.i node,.ref h.id 0,.t (.ag (staC s))] (full p n q seen h)
   (Err (stS p seen node F h.vis (h.low++h.top.done) s).2 (.t (.sl 1 ((stS p seen node F h.vis (h.low++h.top.done) s).1.map T.s))) (zcu n q (stS p seen node F h.vis (h.low++h.top.done) s).2) (full p n q seen h)):=by
 revert hn1 hn2 hk0 hF hau;revert h;refine Ch.lt fun h=>?_
 cases h
 case one=>intro g hn1;exact oI rfl hn1
 case c4=>intro g hn1 hn2;exact oI rfl hn2
 all_goals
  intro g hn1 hn2 hk0 hF hau;clear hn1 hn2;have pv:∀x,(g.push x).vis0=g.vis:=fun _=>rfl
  have pl:∀x,(g.push x).low=g.low++g.top.done:=fun _=>rfl
  have pt:∀x,(g.push x).top=x:=fun _=>rfl
  have pw:∀x,(g.push x).vis=g.vis++x.own:=fun _=>rfl
  have ps:∀x y,(g.push x).set y=g.push y:=fun _ _=>rfl
  have pn:∀x,(g.push x).N≠5:=fun _=>Nat.ne_of_beq_eq_false rfl
  have pm:∀x,8≤(g.push x).N:=fun x=>leB
  have hpush:∀x:Lv,x.ok->(g.push x).ok:=by
   first
   | exact fun x hx=>⟨hk0.1,hk0.2,hx⟩
   | exact fun x hx=>⟨hk0.1,hk0.2.1,hk0.2.2,hx⟩
   | exact fun x hx=>⟨hk0.1,hk0.2.1,hk0.2.2.1,hk0.2.2.2,hx⟩
  have hws:=zmW s;have m1:(s.locals.map zak).length=s.locals.length:=qac _;have m2:(s.eqs.map equT).length=s.eqs.length:=qac _;have m3:(s.autos.map zam).length=s.autos.length:=qac _;have b1:=zaD zak 3 s.locals;have b2:=zaD equT 7 s.eqs;have b3:=zaD zam 1 s.autos;have hdT:(zaw s.locals).w=(T.sl 3 (s.locals.map zak)).w:=rfl;have e1:=zvb equT 7 s.eqs;have e2:=zvb zam 1 s.autos;have ek1:=fun k=>zbP (fun u=>(equT u).w) s.eqs k
  have ek2:=fun k=>zbP (fun u=>(zam u).w) s.autos k
  have hz:(stS p seen node F g.vis (g.low++g.top.done) s).2=(stS p seen node F g.vis (g.low++g.top.done) s).2:=rfl
  conv at hz=>rhs;unfold stS
  have hz1:(stS p seen node F g.vis (g.low++g.top.done) s).1=(stS p seen node F g.vis (g.low++g.top.done) s).1:=rfl
  conv at hz1=>rhs;unfold stS
  simp only at hz hz1;generalize stS p seen node F g.vis (g.low++g.top.done) s=Z at*;unfold staC;refine Sound.err rfl (fun _=>rfl) ?_;refine so Tryz.func146 ?_;refine TR.dead ?_;repeat' (first|refine wkt ?_|(apply TO.zxe (zsg p n q seen g);(iterate 3 exact rfl);exact Les.refl _;apply TO.zgb 9 (g.N+2) 4;(iterate 3 exact rfl))|refine wk ?_|fail)
  refine TR.zaz s.locals.length (fun k=>(zag (zbF seen g.vis) lv0 (s.locals.take k)).2=0/\(zag (zbF seen g.vis) lv0 (s.locals.take k)).1.ok/\(zag (zbF seen g.vis) lv0 (s.locals.take k)).1.defs=[]) (fun k=>[(0,.ref 0 0),(1,.i node),(2,.ref g.id 0),(7,.cp [.s s.name,zaw s.locals,.sl 7 (s.eqs.map equT),.sl 1 (s.autos.map zam),.sl 8 (s.unl.map zaA),.sl 8 (s.unt.map zaA)] 0),(9,.ref (g.N+4) 0),(21,.t (zaw s.locals)),(22,.i (s.locals.map zak).length),(23,.i k)]) (fun k=>full p n q seen (g.push (zag (zbF seen g.vis) lv0 (s.locals.take k)).1)++[.cells [.ref (g.N+2) 0]]) ⟨rfl,⟨zbm.nil,zbm.nil⟩,rfl⟩ (fun k hlt ha=>?_) (fun ha=>?_)
  ·have hx:=zd4 hlt;have hno:s.locals[k].name.length≤1000000000:=by have:=(zbq (qak hlt)).1;omega
   have hwd:(zaw [s.locals[k]]).w≤1000000000:=by
    have:=zaY (f:=zak) (sz:=3) (qak hlt)
    rw[show zaw [s.locals[k]]= .sl 3 [zak s.locals[k]] from rfl,w_sl];simp only[qaf,qaD,qaG,qa9];omega
   have g1:=zcI (f:=zbF seen g.vis) hlt ha.1;have g2:=zbB (f:=zbF seen g.vis) hlt ha.1;obtain⟨ha1,ha2,ha3⟩:=ha;generalize (zag (zbF seen g.vis) lv0 (s.locals.take k)).1=st at*;generalize s.locals[k]=x at*;have hs:=zfS p n q seen hse (g.push st) (hpush st ha2) [x] hwd;simp only[pv,pt,ps,zrL]at hs;have hok:(zbF seen g.vis st x).1.ok:=ha2.zgU hno;have hdf:(zbF seen g.vis st x).1.defs=[]:=ha3;generalize zbF seen g.vis st x=fx at*;rw[show zaw [x]= .sl 3 [.ag (zfR x)] from rfl]at hs;unfold zfR at hx hs;clear hau hF;repeat' (first|refine wkt ?_|refine wka ?_|refine wkD ?_|refine wk ?_|exact wkc|refine wk2 ?_ ?_|refine wsx ?_|refine wms ?_|refine wsy ?_ ?_|refine wss hs ?_ ?_|intro hc)
   ·refine zac.zaH hlt ⟨by rw[g2];exact hc,by rw[g2];exact hok,by rw[g2];exact hdf⟩ ?_ (by rw[g2];rfl);repeat' (first|exact trivial|refine qav rfl ?_|fail)
   ·((repeat' (first|refine zac.panic ?_|refine wk ?_|fail));apply retS;(first|assumption|decide);(clear hs hx;first|grind|grind [orE]);(first|exact leB|exact Nat.le_refl _|(simp[Ch.len];done)|(simp[Ch.len];omega)))
  obtain⟨hd1,hd2,hd3⟩:=ha;rw[qap]at hd1 hd2 hd3;rw[qap];rw[hd1]at hz;generalize hL1:(zag (zbF seen g.vis) lv0 s.locals).1=L1 at*;have hsm:=ziy p n q seen (g.push L1) (hpush L1 hd2) s.locals oA;simp only[pw]at hsm;repeat' (first|refine wkt ?_|refine wka ?_|refine wkD ?_|refine wk ?_|exact wkc|refine wk2 ?_ ?_|refine wsx ?_|refine wms ?_|refine wsy ?_ ?_|refine wss hsm ?_ ?_|intro hc)
  all_goals first
   | ((repeat' (first|refine zac.panic ?_|refine wk ?_|fail));apply retS;(first|assumption|decide);(clear hsm hau hF;first|grind|grind [orE]);(first|exact leB|exact Nat.le_refl _|(simp[Ch.len];done)|(simp[Ch.len];omega)))
   | skip
  clear hsm;have G1:Good L1.own 0 L1:=⟨hd2,rfl,by rw[hd3];exact qag _,by rw[hd3];simp⟩;have ge:=fun k hz=>ze6 (f:=equS p seen node g.vis (g.low++g.top.done)) (G:=Good L1.own) (w:=fun u=>(equT u).w) s.eqs (fun B a x hx h hz=>zkl (by have:=zaY (f:=equT) (sz:=7) hx;omega) h hz) 0 L1 G1 (k:=k) hz
  refine TR.zaz s.eqs.length (fun k=>(zag (equS p seen node g.vis (g.low++g.top.done)) L1 (s.eqs.take k)).2=0) (fun k=>[(0,.ref 0 0),(1,.i node),(2,.ref g.id 0),(7,.cp [.s s.name,zaw s.locals,.sl 7 (s.eqs.map equT),.sl 1 (s.autos.map zam),.sl 8 (s.unl.map zaA),.sl 8 (s.unt.map zaA)] 0),(9,.ref (g.N+4) 0),(39,.t (.sl 7 (s.eqs.map equT))),(40,.i (s.eqs.map equT).length),(41,.i k)]) (fun k=>full p n q seen (g.push (zag (equS p seen node g.vis (g.low++g.top.done)) L1 (s.eqs.take k)).1)++[.cells [.ref (g.N+2) 0]]) rfl (fun k hlt ha=>?_) (fun ha=>?_)
  ·have hx:=zlm hlt;have g1:=zcI (f:=equS p seen node g.vis (g.low++g.top.done)) hlt ha;have g2:=zbB (f:=equS p seen node g.vis (g.low++g.top.done)) hlt ha;have hwu:(equT s.eqs[k]).w≤1000000000:=by have:=zaY (f:=equT) (sz:=7) (qak hlt);omega
   have gk:=ge k ha;have gk2:=ek1 k;have hxk:=hxe _ (qak hlt);have hlw:=ze9 (q:=s.eqs[k]);generalize (zag (equS p seen node g.vis (g.low++g.top.done)) L1 (s.eqs.take k)).1=st at*;generalize s.eqs[k]=x at*;have hs:=zlI p hp n q seen hse hsn node (g.push st) (pn st) (hpush st gk.ok) x hwu (by have:=gk.len;simp only[pt];omega) hxk;simp only[pv,pl,pt,ps]at hs;generalize equS p seen node g.vis (g.low++g.top.done) st x=fx at*;unfold equC at hx hs;clear hau hF ge;repeat' (first|refine wkt ?_|refine wka ?_|refine wkD ?_|refine wk ?_|exact wkc|refine wk2 ?_ ?_|refine wsx ?_|refine wms ?_|refine wsy ?_ ?_|refine wss hs ?_ ?_|intro hc)
   ·exact zwci
   ·((repeat' (first|refine zac.panic ?_|refine wk ?_|fail));apply retS;(first|assumption|decide);(clear hs hx;first|grind|grind [orE]);(first|exact leB|exact Nat.le_refl _|(simp[Ch.len];done)|(simp[Ch.len];omega)))
  have ge1:=ge s.eqs.length ha;rw[qap]at ha ge1;rw[qap];rw[ha]at hz;generalize (zag (equS p seen node g.vis (g.low++g.top.done)) L1 s.eqs).1=L2 at*;clear ge;refine wk ?_;repeat' (first|refine wu ?_|exact wkc|refine wk2 ?_ ?_|intro hc)
  have ga:=fun k hz=>ze6 (f:=F g.vis (g.low++g.top.done)) (G:=Good L1.own) (w:=fun b=>(zam b).w) s.autos (fun B a x hx h hz=>hF _ B a x hx h hz) _ L2 ge1 (k:=k) hz
  refine TR.zaz s.autos.length (fun k=>(zag (F g.vis (g.low++g.top.done)) L2 (s.autos.take k)).2=0) (fun k=>[(0,.ref 0 0),(1,.i node),(2,.ref g.id 0),(7,.cp [.s s.name,zaw s.locals,.sl 7 (s.eqs.map equT),.sl 1 (s.autos.map zam),.sl 8 (s.unl.map zaA),.sl 8 (s.unt.map zaA)] 0),(9,.ref (g.N+4) 0),(52,.t (.sl 1 (s.autos.map zam))),(53,.i (s.autos.map zam).length),(54,.i k)]) (fun k=>full p n q seen (g.push (zag (F g.vis (g.low++g.top.done)) L2 (s.autos.take k)).1)++[.cells [.ref (g.N+2) 0]]) rfl (fun k hlt ha=>?_) (fun ha=>?_)
  ·have hx:=zhP hlt;have g1:=zcI (f:=F g.vis (g.low++g.top.done)) hlt ha;have g2:=zbB (f:=F g.vis (g.low++g.top.done)) hlt ha;have gk:=ga k ha;have gk2:=ek2 k;have gk3:=zbP (fun u=>(equT u).w) s.eqs s.eqs.length;generalize (zag (F g.vis (g.low++g.top.done)) L2 (s.autos.take k)).1=st at*;have hs:=hau _ (qak hlt) st gk.ok (by have:=gk.len;omega) gk.short;generalize s.autos[k]=x at*;generalize F g.vis (g.low++g.top.done) st x=fx at*;unfold zd5 at hx hs;clear hau hF ga;repeat' (first|refine wkt ?_|refine wka ?_|refine wkD ?_|refine wk ?_|exact wkc|refine wk2 ?_ ?_|refine wsx ?_|refine wms ?_|refine wsy ?_ ?_|refine wss hs ?_ ?_|intro hc)
   ·exact zwci
   ·((repeat' (first|refine zac.panic ?_|refine wk ?_|fail));apply retS;(first|assumption|decide);(clear hs hx;first|grind|grind [orE]);(first|exact leB|exact Nat.le_refl _|(simp[Ch.len];done)|(simp[Ch.len];omega)))
  have ga1:=ga s.autos.length ha;rw[qap]at ha ga1;rw[qap];rw[ha]at hz;have gk2:=ek2 s.autos.length;have gk3:=zbP (fun u=>(equT u).w) s.eqs s.eqs.length;rw[qap]at gk2 gk3;generalize (zag (F g.vis (g.low++g.top.done)) L2 s.autos).1=L3 at*;clear ga hau hF;refine wk ?_;repeat' (first|refine wu ?_|exact wkc|refine wk2 ?_ ?_|intro hc)
  have hcu:=zjt p hp n q seen hse hsn node g hk0 s.unl oA hxu;have hcv:=zjt p hp n q seen hse hsn node (g.push L3) (hpush L3 ga1.ok) s.unt oA hxv;simp only[pw]at hcv;repeat' (first|refine wkt ?_|refine wka ?_|refine wkD ?_|refine wk ?_|exact wkc|refine wk2 ?_ ?_|refine wsx ?_|refine wms ?_|refine wsy ?_ ?_|refine wss hcu ?_ ?_|refine wss hcv ?_ ?_|intro hc)
  all_goals first
   | ((repeat' (first|refine zac.panic ?_|refine wk ?_|fail));apply retS;(first|assumption|decide);(clear hcu hcv;first|grind|grind [orE]);(first|exact leB|exact Nat.le_refl _|(simp[Ch.len];done)|(simp[Ch.len];omega)))
   | skip
  clear hcu hcv;refine TR.zaz s.locals.length (fun k=>zad (fun d:Decl=>if d.name∈L3.done then 0 else 8) (s.locals.take k)=0) (fun k=>[(0,.ref 0 0),(1,.i node),(2,.ref g.id 0),(7,.cp [.s s.name,zaw s.locals,.sl 7 (s.eqs.map equT),.sl 1 (s.autos.map zam),.sl 8 (s.unl.map zaA),.sl 8 (s.unt.map zaA)] 0),(9,.ref (g.N+4) 0),(77,.t (zaw s.locals)),(78,.i (s.locals.map zak).length),(79,.i k)]) (fun k=>full p n q seen (g.push L3)++[.cells [.ref (g.N+2) 0]]) rfl (fun k hlt ha=>?_) (fun ha=>?_)
  ·have hx:=zd4 hlt;have hno:s.locals[k].name.length≤1000000000:=by have:=(zbq (qak hlt)).1;omega
   have g1:=zaJ (f:=fun d:Decl=>if d.name∈L3.done then 0 else 8) hlt ha;have g2:=zax (f:=fun d:Decl=>if d.name∈L3.done then 0 else 8) hlt ha;have hdn:=ga1.ok.done;generalize s.locals[k]=x at*;unfold zfR at hx;repeat' (first|refine wkt ?_|refine wka ?_|refine wkD ?_|refine wk ?_|exact wkc|refine wk2 ?_ ?_|refine wsx ?_|refine wms ?_|refine wsy ?_ ?_|intro hc)
   ·exact zac.zaH hlt (g2 (by rw[oG hc]))
   ·((repeat' (first|refine zac.panic ?_|refine wk ?_|fail));apply retS;(first|assumption|decide);(clear hx;first|grind|grind [orE]);(first|exact leB|exact Nat.le_refl _|(simp[Ch.len];done)|(simp[Ch.len];omega)))
  have el:=zaF ha;rw[el]at hz;refine wk ?_;repeat' (first|refine wu ?_|exact wkc|refine wk2 ?_ ?_|intro hc)
  have hz2:Z.2=0:=by rw[hz];simp only[orE];grind
  have hdl:=ga1.len;have hsh:=ga1.short;have hown:=ga1.ok.own;obtain⟨z1,z2⟩:=Z;simp only at hz1 hz2;subst hz1 hz2;by_cases hnil:L3.defs=[]
  ·have hk:zbL L3.own L3.defs=[]:=by rw[hnil];rfl
   have hr:(L3.defs.map T.s)=[]:=by rw[hnil];rfl
   rw[hk];refine TO.zzX 96 1 (R:=g.N+3) (e:=9) ?_ ?_ ?_
   ·show some (SV.rw (g.N+3) (L3.defs.map T.s).length)=_;rw[hr];rfl
   ·show some (Blk.row 9 (L3.defs.map T.s))=_;rw[hr]
   repeat' (first|refine wu ?_|exact wkc|refine wk2 ?_ ?_|(apply TO.zgs zul;(iterate 3 exact rfl);exact⟨Le.refl _,Le.any _,trivial⟩;exact rfl;exact rfl)|intro hc)
   exact zzW rfl rfl (Le.refl _) rfl rfl rfl rfl rfl
  ·have hml:(L3.defs.map T.s).length=L3.defs.length:=qac _;have hdel:=zrP p n q seen (g.push L3) (pm L3) (by rw[pt];exact hown) L3.defs oA hsh;rw[<-hml]at hdel;simp only[pt]at hdel;refine TO.fix 96 (R:=g.N+3) (e:=9) (ts:=L3.defs.map T.s) rfl rfl rfl (by rw[hml];exact qbf.2 hnil) rfl ?_;have hkl:=zei L3.own L3.defs;have hlen2:((zbL L3.own L3.defs).map T.s).length=(zbL L3.own L3.defs).length:=qac _;refine TO.zbI (g.N+6) hdel rfl rfl rfl (Les.refl _) rfl rfl rfl (zi3 rfl _) rfl rfl (zi3 rfl _) (zbn _) ?_;refine TO.zr9 98 1 (g.N+5) (zbL L3.own L3.defs).length (es:=(zbL L3.own L3.defs).map T.s) rfl rfl ?_ ?_ hlen2.symm (fun e he=>by obtain⟨x,_,rfl⟩:=qaL.1 he;rfl) rfl rfl ?_
   ·simp only[qac,qab,qb1];omega
   ·intro j c hj
    have hfl:((zbL L3.own L3.defs).map T.s).map T.cells=((zbL L3.own L3.defs).map T.s).map fun t=>[t]:=by
     rw[qa0,qa0];rfl
    have hfl2:∀l:List T,(l.map fun t=>[t]).flatten=l:=by
     intro l
     induction l with
     | nil=>rfl
     | cons a l ih=>simp[ih]
    rw[hfl,hfl2]at hj;rw[qaw,qaw,qat (qaa.1 hj).1];exact hj
   refine ya ?_;exact zzW rfl rfl (Le.refl _) rfl rfl rfl rfl rfl
theorem zgu:∀(a b pre:List Str),dupE pre (a++b)=if dupE pre a=0 then dupE (pre++a) b else dupE pre a
 | [],b,pre=>by simp[dupE]
 | s::a,b,pre=>by
   simp only[qaZ,dupE];by_cases h:s∈pre
   ·simp[h]
   ·simp only[h,if_false];rw[zgu a b (pre++[s])];simp
theorem zun(hk:k<l.length)(h:dupE [] (l.take k)=0)(hn:l[k] ∉ l.take k):dupE [] (l.take (k+1))=0:=by
 rw[qaE hk,zgu,oG h,qaP,dupE,oH hn];rfl
theorem zxn(hk:k<l.length)(h:dupE [] (l.take k)=0)(hn:l[k]∈l.take k):dupE [] l=7:=by
 conv=>lhs;rw[<-qaX k l]
 rw[zgu,oG h,qaN hk,qaP,dupE,oG hn]
theorem zds{l:List (List Str×Int)}(h:0<k):zaS (l.take k)=zaS l:=by
 cases l with
 | nil=>simp[zaS]
 | cons x l=>
   obtain⟨k,rfl⟩:∃j,k=j+1:=⟨k-1,oA⟩;simp[zaS]
theorem zs4{l:List (List Str×Int)}(hk:k<l.length):zde (l.take (k+1))=(zde (l.take k) && zoo l[k].1 (zaS (l.take (k+1)))):=by
 unfold zde;rw[zds (qcW k),qaE hk,qbY];cases k with
 | zero=>simp
 | succ k=>rw[zds (qcW k)];simp
theorem zqY(l:List Sta)(x:Sta):(l.any fun y=>y.name == x.name)=decide (x.name∈l.map Sta.name):=by
 rw[Bool.eq_iff_iff];simp only[qcH,decide_eq_true_eq,qaL,beq_iff_eq]
theorem zt5 (p:Prog) (n q:Int) (seen:List (Int×Str×Int)) (node:Int) (h:Ch) (hn1:h.N≠5) (hk0:h.ok) (hdl:h.top.defs.length≤1000000000) (F:List Str->List Str->Lv->Auto->Lv×Int) (au:Auto) (hw:(zam au).w≤1000000000)
  (hst:∀s∈au.states,Sound Tryz.prog 146 [.ref 0 0,.i node,.ref h.id 0,.t (.ag (staC s))] (full p n q seen h) (Err (stS p seen node F h.vis (h.low++h.top.done) s).2 (.t (.sl 1 ((stS p seen node F h.vis (h.low++h.top.done) s).1.map T.s))) (zcu n q (stS p seen node F h.vis (h.low++h.top.done) s).2) (full p n q seen h)))
  (hgood:∀s∈au.states,(stS p seen node F h.vis (h.low++h.top.done) s).2=0->(stS p seen node F h.vis (h.low++h.top.done) s).1.length≤1000000000/\∀x∈(stS p seen node F h.vis (h.low++h.top.done) s).1,x.length≤1000000000):
  SS 105 [.i node,.ref h.id 0,.t (.ag (zd5 au))] p n q seen h (h.set ⟨h.top.own,(zaS (au.states.map (stS p seen node F h.vis (h.low++h.top.done)))).foldl ins h.top.done,h.top.defs++zaS (au.states.map (stS p seen node F h.vis (h.low++h.top.done)))⟩)
   (orE (dupE [] (au.states.map Sta.name)) (orE (zad Prod.snd (au.states.map (stS p seen node F h.vis (h.low++h.top.done)))) (if zde (au.states.map (stS p seen node F h.vis (h.low++h.top.done)))=true then 0 else 8))):=by
 have hset:=fun{x:Lv} (hx:x.ok)=>Ch.zsI hk0 hx
 have ht0:=Ch.zsJ hk0;clear hk0;revert hn1 hset ht0 hdl hst hgood;revert h;refine Ch.lt fun h=>?_
 cases h
 case one=>intro g hn1;exact oI rfl hn1
 all_goals
  intro g hn1 hdl hst hgood hset ht0;clear hn1;have hwa:=zhc au;have hlb:au.states.length≤1000000000:=by have:=zaD staT 6 au.states;omega
  clear hwa hw;unfold zd5;generalize au.states=l at*;have hml:(l.map staT).length=l.length:=qac _;have hrl:(l.map (stS p seen node F g.vis (g.low++g.top.done))).length=l.length:=qac _;have hnl:(l.map Sta.name).length=l.length:=qac _;have hz:orE (dupE [] (l.map Sta.name)) (orE (zad Prod.snd (l.map (stS p seen node F g.vis (g.low++g.top.done)))) (if zde (l.map (stS p seen node F g.vis (g.low++g.top.done)))=true then 0 else 8))=orE (dupE [] (l.map Sta.name)) (orE (zad Prod.snd (l.map (stS p seen node F g.vis (g.low++g.top.done)))) (if zde (l.map (stS p seen node F g.vis (g.low++g.top.done)))=true then 0 else 8)):=rfl
  conv at hz=>rhs;simp only[orE]
  generalize hzz:orE (dupE [] (l.map Sta.name)) (orE (zad Prod.snd (l.map (stS p seen node F g.vis (g.low++g.top.done)))) (if zde (l.map (stS p seen node F g.vis (g.low++g.top.done)))=true then 0 else 8))=z at hz⊢;clear hzz;refine Sound.err rfl (fun _=>rfl) ?_;refine so Tryz.func105 ?_;refine TR.dead ?_;repeat' (first|refine wu ?_|exact wkc|refine wk2 ?_ ?_|intro hc)
  refine TR.zaz l.length (fun k=>dupE [] ((l.map Sta.name).take k)=0) (fun k=>[(0,.ref 0 0),(1,.i node),(2,.ref g.id 0),(7,.cp [.sl 6 (l.map staT)] 0),(18,.t (.sl 6 (l.map staT))),(19,.i (l.map staT).length),(20,.i k)]) (fun _=>full p n q seen g) rfl (fun k hlt ha=>?_) (fun ha=>?_)
  ·have hx:=zov hlt;have hkn:k<(l.map Sta.name).length:=oA
   have hcon:=zi4 145 [.cp (staC l[k]) 0] rfl (fun y=>y.name == l[k].name) (l.take k) oF (fun y=>zjg y l[k]);rw[zqY,qbB,qbB]at hcon;have g1:=zun hkn ha;have g2:=zxn hkn ha;rw[qcb]at g1 g2;generalize l[k]=x at*;unfold staC at hx hcon;clear hst hgood;by_cases hm:x.name∈(l.map Sta.name).take k
   ·rw[decide_eq_true hm]at hcon;repeat' (first|refine wkt ?_|refine wka ?_|refine wkD ?_|refine wk ?_|exact wkc|refine wk2 ?_ ?_|refine wsx ?_|refine wms ?_|refine wsy ?_ ?_|(apply TO.zgf zaf;(iterate 5 exact rfl);omega)|(apply TO.zgs hcon;(iterate 3 exact rfl);exact Les.refl _;exact rfl;exact rfl)|intro hc)
    (repeat' (first|refine zac.panic ?_|refine wk ?_|fail));apply retS
    ·decide
    ·rw[hz,g2 hm];rfl
    ·exact leB
   ·rw[decide_eq_false hm]at hcon;repeat' (first|refine wkt ?_|refine wka ?_|refine wkD ?_|refine wk ?_|exact wkc|refine wk2 ?_ ?_|refine wsx ?_|refine wms ?_|refine wsy ?_ ?_|(apply TO.zgf zaf;(iterate 5 exact rfl);omega)|(apply TO.zgs hcon;(iterate 3 exact rfl);exact Les.refl _;exact rfl;exact rfl)|intro hc)
    exact zac.zaH hlt (g1 hm)
  have ed:dupE [] (l.map Sta.name)=0:=by rw[<-hnl,qap]at ha;exact ha
  rw[ed]at hz;refine wk ?_;repeat' (first|refine wu ?_|exact wkc|refine wk2 ?_ ?_|intro hc)
  refine TR.less 10 (v':=.t (.sl 1 [])) rfl (Le.nil 1) ?_
  have hgd:∀k (hk:k<l.length) r,(l.map (stS p seen node F g.vis (g.low++g.top.done)))[k]?=some r->stS p seen node F g.vis (g.low++g.top.done) l[k]=r:=fun k hk r hr=>by
   rw[qan,qad hk]at hr;exact qci hr
  have hf1:zad Prod.snd (l.map (stS p seen node F g.vis (g.low++g.top.done)))=0->(zaS (l.map (stS p seen node F g.vis (g.low++g.top.done)))).length≤1000000000/\∀x∈zaS (l.map (stS p seen node F g.vis (g.low++g.top.done))),x.length≤1000000000:=by
   intro h0;cases l with
   | nil=>exact⟨by simp[zaS],by simp[zaS]⟩
   | cons s r=>
     have:(stS p seen node F g.vis (g.low++g.top.done) s).2=0:=by
      rw[qaf,zad]at h0;split at h0
      ·assumption
      ·exact h0
     exact hgood s oC this
  have hrg:∀k (hk:k<l.length),((stS p seen node F g.vis (g.low++g.top.done) l[k])).2=0->(stS p seen node F g.vis (g.low++g.top.done) l[k]).1.length≤1000000000:=fun k hk h0=>(hgood _ (qak hk) h0).1
  have hss:∀k (hk:k<l.length),Sound Tryz.prog 146 [.ref 0 0,.i node,.ref g.id 0,.t (.ag (staC l[k]))] (full p n q seen g) (Err (stS p seen node F g.vis (g.low++g.top.done) l[k]).2 (.t (.sl 1 ((stS p seen node F g.vis (g.low++g.top.done) l[k]).1.map T.s))) (zcu n q (stS p seen node F g.vis (g.low++g.top.done) l[k]).2) (full p n q seen g)):=fun k hk=>hst _ (qak hk)
  have hfl0:∀k,0<k->zad Prod.snd ((l.map (stS p seen node F g.vis (g.low++g.top.done))).take k)=0->(zaS ((l.map (stS p seen node F g.vis (g.low++g.top.done))).take k)).length≤1000000000:=by
   intro k hk h0;cases l with
   | nil=>simp[zaS]
   | cons s r=>
     obtain⟨k,rfl⟩:∃j,k=j+1:=⟨k-1,oA⟩
     have:(stS p seen node F g.vis (g.low++g.top.done) s).2=0:=by
      rw[qaf,qaO,zad]at h0;split at h0
      ·assumption
      ·exact h0
     exact(hgood s oC this).1
  clear hst hgood;generalize hrs:l.map (stS p seen node F g.vis (g.low++g.top.done))=rs at*;refine TR.zaz l.length (fun k=>zad Prod.snd (rs.take k)=0) (fun k=>[(0,.ref 0 0),(1,.i node),(2,.ref g.id 0),(7,.cp [.sl 6 (l.map staT)] 0),(10,.t (.sl 1 ((zaS (rs.take k)).map T.s))),(11,.b (zde (rs.take k))),(36,.t (.sl 6 (l.map staT))),(37,.i (l.map staT).length),(38,.i k)]) (fun _=>full p n q seen g) rfl (fun k hlt ha=>?_) (fun ha=>?_)
  ·have hx:=zov hlt;have hkr:k<rs.length:=oA
   have g1:=zaJ (f:=Prod.snd) hkr ha;have g2:=zax (f:=Prod.snd) hkr ha;have g3:=zs4 hkr;have hs:=hss k hlt;have hg:=hrg k hlt;rw[hgd k hlt _ (qad hkr)]at hs hg;have hfk:=hfl0 k
   have hfk1:k=0->zaS (rs.take (k+1))=rs[k].1:=fun h0=>by
    subst h0;cases rs with
    | nil=>simp at hkr
    | cons r rr=>rfl
   have hfk2:k≠0->zaS (rs.take (k+1))=zaS (rs.take k):=fun h0=>by rw[zds (qcW k),zds oA]
   clear hss hrg hgd hfl0;generalize rs[k]=r at*;generalize l[k]=x at*;generalize zaS (rs.take k)=fs at*;generalize hfs1:zaS (rs.take (k+1))=fs1 at*;obtain⟨r1,r2⟩:=r;simp only at hs hg g1 g2 g3 hfk1;by_cases hr2:r2=0
   ·subst hr2;have hrl1:=hg rfl
    have hal:=zm4 r1 fs1 hrl1 (by
     by_cases h0:k=0
     ·rw[hfk1 h0];exact hrl1
     ·rw[hfk2 h0];exact hfk oA ha)
    unfold staC at hx hs;generalize zde (rs.take k)=sm at*;by_cases h0:k=0
    ·have hf:=hfk1 h0;exact zwe
    ·have hf:=hfk2 h0;exact zwe
   ·unfold staC at hx hs;repeat' (first|refine wkt ?_|refine wka ?_|refine wkD ?_|refine wk ?_|exact wkc|refine wk2 ?_ ?_|refine wsx ?_|refine wms ?_|refine wsy ?_ ?_|refine wss hs ?_ ?_|intro hc)
    all_goals first
     | exact oI hc hr2
     | ((repeat' (first|refine zac.panic ?_|refine wk ?_|fail));apply retS;(first|assumption|decide);(clear hs hx;first|grind|grind [orE]);(first|exact leB|exact Nat.le_refl _|(simp[Ch.len];done)|(simp[Ch.len];omega)))
  have e1:zad Prod.snd rs=0:=by rw[<-hrl,qap]at ha;exact ha
  rw[<-hrl,qap];rw[e1]at hz;obtain⟨hfl,hfs⟩:=hf1 e1;clear hss hrg hgd hfl0 hf1;generalize zaS rs=fs at*;generalize zde rs=sm at*;clear hrs;cases sm
  ·repeat' (first|refine wkt ?_|refine wka ?_|refine wkD ?_|refine wk ?_|exact wkc|refine wk2 ?_ ?_|refine wsx ?_|refine wms ?_|refine wsy ?_ ?_|intro hc)
   all_goals((repeat' (first|refine zac.panic ?_|refine wk ?_|fail));apply retS;(first|assumption|decide);(clear hml;first|grind|grind [orE]);(first|exact leB|exact Nat.le_refl _|(simp[Ch.len];done)|(simp[Ch.len];omega)))
  ·rw[oG rfl]at hz;repeat' (first|refine wkt ?_|refine wka ?_|refine wkD ?_|refine wk ?_|exact wkc|refine wk2 ?_ ?_|refine wsx ?_|refine wms ?_|refine wsy ?_ ?_|intro hc)
   have hml2:(fs.map T.s).length=fs.length:=qac _
   have hins:∀(l:List Str) (d:List Str),zbm d->(∀x∈l,x.length≤1000000000)->zbm (l.foldl ins d):=by
    exact zwbr
   refine TR.zaz fs.length (fun _=>True) (fun k=>[(0,.ref 0 0),(1,.i node),(2,.ref g.id 0),(7,.cp [.sl 6 (l.map staT)] 0),(10,.t (.sl 1 (fs.map T.s))),(61,.t (.sl 1 (fs.map T.s))),(62,.i (fs.map T.s).length),(63,.i k)]) (fun k=>full p n q seen (g.set ⟨g.top.own,(fs.take k).foldl ins g.top.done,g.top.defs⟩)) trivial (fun k hlt _=>?_) (fun _=>?_)
   ·have hx:=at_s hlt;have hno:=hfs _ (qak hlt);have hdn:=hins (fs.take k) g.top.done ht0.done (fun x hx=>hfs x (qaS hx));have g2:(fs.take (k+1)).foldl ins g.top.done=ins ((fs.take k).foldl ins g.top.done) fs[k]:=by rw[qaE hlt,qbJ];rfl
    generalize (fs.take k).foldl ins g.top.done=dn at*;generalize fs[k]=x at*;repeat' (first|refine wkt ?_|refine wka ?_|refine wkD ?_|refine wk ?_|exact wkc|refine wk2 ?_ ?_|refine wsx ?_|refine wms ?_|refine wsy ?_ ?_|intro hc)
    refine zac.zaH hlt trivial ?_ (by rw[g2];rfl);repeat' (first|exact trivial|refine qav rfl ?_|fail)
   ·rw[qap];have hl1:(g.top.defs.map T.s).length=g.top.defs.length:=qac _;have hma:(g.top.defs++fs).map T.s=g.top.defs.map T.s++fs.map T.s:=qaw;generalize fs.foldl ins g.top.done=dn at*;have hone:(fs.map T.s).all T.one=true:=by simp[T.one]
    repeat' (first|refine wkt ?_|refine wka ?_|refine wkD ?_|refine wk ?_|exact wkc|refine wk2 ?_ ?_|refine wsx ?_|refine wms ?_|refine wsy ?_ ?_|(apply TO.zgo zaf;(iterate 9 exact rfl);(exact qbD _);exact rfl;exact rfl;exact hone;exact rfl;(show(g.top.defs.map T.s).length+(fs.map T.s).length≤_;omega);exact rfl)|intro hc)
    refine zmr (H1:=full p n q seen (g.set ⟨g.top.own,dn,g.top.defs++fs⟩)) hz rfl rfl ?_ rfl;show _=full p n q seen (g.set ⟨g.top.own,dn,g.top.defs++fs⟩);simp only[g,full,Ch.set,Ch.top,Ch.heap,nmB,rowB,qaw];rfl
def exA:Nat->Auto->Prop
 | 0,_=>True
 | k+1,a=>∀s∈a.states,(∀u∈s.eqs,∀x∈flat u.right,ExOk x)/\(∀t∈s.unl,∀x∈flat t.cond,ExOk x)/\(∀t∈s.unt,∀x∈flat t.cond,ExOk x)/\∀b∈s.autos,exA k b
section
variable (p:Prog)(hp:zgT p)(n q:Int)(seen:List (Int×Str×Int))(hse:zaV seen)(hsn:zcr p seen)(node:Int)
include hp hse hsn
theorem auc:∀(k:Nat) (h:Ch) (hin:h.N+4*k=19) (hk:h.ok) (hd:h.top.defs.length≤1000000000) (au:Auto) (hw:(zam au).w≤1000000000) (hn:zma k au) (hx:exA k au),
  SS 105 [.i node,.ref h.id 0,.t (.ag (zd5 au))] p n q seen h (h.set (zcQ p seen node k h.vis0 h.low h.top au).1) (zcQ p seen node k h.vis0 h.low h.top au).2
 | 0,h,hin,hk,hd,au,hw,hn,hx=>hn.elim
 | k+1,h,hin,hk,hd,au,hw,hn,hx=>by
   have hws:∀s∈au.states,(staT s).w≤1000000000:=fun s hs=>by have:=zaY (f:=staT) (sz:=6) hs;have:=zhc au;omega
   have hwa:∀s∈au.states,∀bb∈s.autos,(zam bb).w≤1000000000:=fun s hs bb hb=>by have:=zaY (f:=zam) (sz:=1) hb;have:=zmW s;have:=hws s hs;omega
   have hgd:=fun s (hs:s∈au.states) own B tt bb (hb:bb∈s.autos)=>zhQ (p:=p) (seen:=seen) (node:=node) k (vis0:=h.vis) (low:=h.low++h.top.done) (own:=own) (B:=B) (t:=tt) (a:=bb) (hwa s hs bb hb)
   refine zt5 p n q seen node h oA hk hd (zcQ p seen node k) au hw (fun s hs=>?_) (fun s hs hz=>?_)
   ·refine zu6 p hp n q seen hse hsn node h oA oA hk (zcQ p seen node k) s (hws s hs) (hgd s hs) (fun bb hb x hxo hxd hxs=>?_) (hx s hs).1 (hx s hs).2.1 (hx s hs).2.2.1;have ih:=fun h1 h2 h3=>auc k (h.push x) h1 h2 h3 bb (hwa s hs bb hb) (hn s hs bb hb) ((hx s hs).2.2.2 bb hb)
    cases h
    case one=>simp[Ch.N]at hin;omega
    case c1=>exact ih (by simp[Ch.N,Ch.push]at *;omega) ⟨hk.1,hk.2,hxo⟩ hxd
    case c2=>exact ih (by simp[Ch.N,Ch.push]at *;omega) ⟨hk.1,hk.2.1,hk.2.2,hxo⟩ hxd
    case c3=>exact ih (by simp[Ch.N,Ch.push]at *;omega) ⟨hk.1,hk.2.1,hk.2.2.1,hk.2.2.2,hxo⟩ hxd
    case c4=>simp[Ch.N]at hin
   ·have:=ztm (F:=zcQ p seen node k) (hws s hs) (hgd s hs) hz
    have h2:=hws s hs;exact⟨oA,this.2⟩
end
section
variable {n:Nat}{env:Env}{K:TK}{all:Array Oper}{rest:List Oper}{d:Nat}{ty:TypeId}{pos:String}{aft:Array Edge}{H:Heap}{args:Array Operand}{ts:Array TypeId}
theorem TO.zxi{ls:List (List Decl)}(hl:ls.length≤1000000)(hn:ls.flatten.length≤3000000000)(hd:Nat.ble (d+1) n=true)(ha:env.vals args.toList=some [.t (.sl 1 (ls.map dls))])
  (k:TO false Tryz.prog n all rest ((d,.t (dls ls.flatten))::env) (H++[.dead]) K):
  TO false Tryz.prog n all (⟨some d,.call { callee:=.value (.func 140),args:=args,argTypes:=ts },ty,pos,aft,none⟩::rest) env H K:=by
 by_cases h0:ls.flatten=[]
 ·refine TO.zgs (zfP ls hl h0) hd rfl ha (Les.refl _) rfl rfl ?_;refine TO.less d (v':=.t (dls [])) (by rw[Env.zap]) (Le.nil 3) ?_;refine TO.shadow (TO.zw4 ?_);rw[h0]at k;exact k
 ·have h1:1≤ls.flatten.length:=by
   cases hv:ls.flatten with
   | nil=>exact oI hv h0
   | cons a l=>simp
  have hc:=zg2 ls hl hn h1;generalize ls.flatten=L at*;have hcl:(zbd L).length=L.length*3:=zdU L;refine TO.zry (tl:=zbd L) hc hd rfl ha (Les.refl _) rfl ?_;refine TO.zr9 d 3 H.length L.length (cs:=(zbd L).map .t) (es:=L.map zak) (by rw[Env.zap]) oC (by simp[hcl]) (fun j c hj=>hj) oC (fun e he=>by obtain⟨x,_,rfl⟩:=qaL.1 he;rfl) rfl rfl ?_;refine TO.shadow ?_;rw[show(H++[Blk.cells ((zbd L).map SV.t)]).set H.length .dead=H++[.dead] from by rw[qbS _ _ (qag _),qb6];rfl];exact k
end
def seeL(L:List Decl):Lv:=⟨(L.map Decl.name).foldl ins [],[],[]⟩
def zjp(p:Prog)(seen:List (Int×Str×Int))(node:Int)(L:List Decl)(l:List Ex):Int:=zad (zea p seen node (seeL L).own 1) l
theorem zg0(p:Prog)(hp:zgT p)(n q:Int)(seen:List (Int×Str×Int))(hse:zaV seen)(hsn:zcr p seen)(node:Int)(l:List Ex)(ls:List (List Decl))(hl:ls.length≤1000000)(hwl:(dls ls.flatten).w≤1000000000)(hw:(T.sl 6 (l.map exT)).w≤1000000000)(hex:∀e∈l,∀x∈flat e,ExOk x):
  Sound Tryz.prog 106 [.ref 0 0,.i node,.t (.sl 6 (l.map exT)),.t (.sl 1 (ls.map dls))] [lkB p n q,zb8 seen] (Err (zjp p seen node ls.flatten l) (.tup []) (zcu n q (zjp p seen node ls.flatten l)) [lkB p n q,zb8 seen]):=by
 have hfl:ls.flatten.length≤1000000000:=by have:=zaD zak 3 ls.flatten;have:(dls ls.flatten).w=(T.sl 3 (ls.flatten.map zak)).w:=rfl;omega
 have hex2:l.length≤1000000000:=by have:=zaD exT 6 l;omega
 have hm1:(ls.flatten.map zak).length=ls.flatten.length:=qac _;have hm2:(l.map exT).length=l.length:=qac _;unfold zjp;refine Sound.err rfl (fun _=>rfl) ?_;refine so Tryz.func106 ?_;refine TR.dead ?_;repeat' (first|refine wu ?_|(apply TO.zxe (zl1 p n q seen);(iterate 3 exact rfl);exact Les.refl _)|(apply TO.zxi hl oA;exact rfl;exact rfl)|fail)
 generalize ls.flatten=L at*;have hnm:∀x∈L,x.name.length≤1000000000:=fun x hx=>by have:=(zbq hx).1;have:(dls L).w=(zaw L).w:=rfl;omega
 have hins:∀k,zbm (((L.take k).map Decl.name).foldl ins []):=by
  have:∀(l:List Decl) (d:List Str),zbm d->(∀x∈l,x.name.length≤1000000000)->zbm ((l.map Decl.name).foldl ins d):=by
   exact zwbr
  exact fun k=>this _ [] zbm.nil (fun x hx=>hnm x (qaS hx))
 refine TR.zaz L.length (fun _=>True) (fun k=>[(0,.ref 0 0),(1,.i node),(2,.t (.sl 6 (l.map exT))),(8,.ref 4 0),(15,.t (dls L)),(16,.i (L.map zak).length),(17,.i k)]) (fun k=>full p n q seen (.one (seeL (L.take k)))++[.dead]) trivial (fun k hlt _=>?_) (fun _=>?_)
 ·have hx:=zd4 hlt;have hno:=hnm _ (qak hlt);have hdn:=hins k
  have g2:seeL (L.take (k+1))=⟨ins ((L.take k).map Decl.name |>.foldl ins []) L[k].name,[],[]⟩:=by
   unfold seeL;rw[qaE hlt,qaw,qbJ];rfl
  have g1:seeL (L.take k)=⟨((L.take k).map Decl.name).foldl ins [],[],[]⟩:=rfl;rw[g1];generalize ((L.take k).map Decl.name).foldl ins []=dn at*;generalize L[k]=x at*;exact zwk
 have hk:(Ch.one (seeL L)).ok:=by
  have:=hins L.length
  rw[qap]at this;exact⟨this,zbm.nil⟩
 rw[qap];have hvis:Ch.vis (.one (seeL L))=(seeL L).own:=rfl;generalize seeL L=A at*;refine wk ?_;repeat' (first|refine wu ?_|exact wkc|refine wk2 ?_ ?_|intro hc)
 refine TR.zaz l.length (fun k=>zad (zea p seen node A.own 1) (l.take k)=0) (fun k=>[(0,.ref 0 0),(1,.i node),(8,.ref 4 0),(28,.t (.sl 6 (l.map exT))),(29,.i (l.map exT).length),(30,.i k)]) (fun k=>full p n q seen (.one A)++[.dead]) rfl (fun k hlt ha=>?_) (fun ha=>?_)
 ·have hx:=zeA hlt;have g1:=zaJ (f:=zea p seen node A.own 1) hlt ha;have g2:=zax (f:=zea p seen node A.own 1) hlt ha;have hwx:wEx l[k]≤1000000000:=by have:=zj5 l[k];have:=zaY (f:=exT) (sz:=6) (qak hlt);omega
  have hs:=zeK p hp n q seen hse hsn node 1 (.one A) hk l[k] hwx (hex _ (qak hlt));rw[hvis]at hs;generalize l[k]=x at*;generalize zea p seen node A.own 1 x=z at*;unfold exC at hx hs;repeat' (first|refine wkt ?_|refine wka ?_|refine wkD ?_|refine wk ?_|exact wkc|refine wk2 ?_ ?_|refine wsx ?_|refine wms ?_|refine wsy ?_ ?_|refine wss hs ?_ ?_|intro hc)
  ·exact zac.zaH hlt (g2 hc)
  ·((repeat' (first|refine zac.panic ?_|refine wk ?_|fail));apply retS;(first|assumption|decide);(clear hx hs;first|grind|grind [orE]);(first|exact leB|exact Nat.le_refl _|(simp[Ch.len];done)|(simp[Ch.len];omega)))
 ·have e1:=zaF ha;refine wk ?_;refine ya ?_;exact zmr e1 rfl rfl rfl rfl
theorem zhL(p:Prog)(n q:Int)(seen:List (Int×Str×Int))(hse:zaV seen)(k v:Int)(hkk:0≤k/\k≤2)(nm:Str)(hno:nm.length≤1000000000):
  Sound Tryz.prog 47 [.ref 0 0,.t (.ag [.i k,.s nm]),.i v] [lkB p n q,zb8 seen] (Err (if(zaB seen k nm).isSome=true then 7 else 0) (.tup []) (zcu n q (if(zaB seen k nm).isSome=true then 7 else 0)) [lkB p n q,zb8 (seen++[(k,nm,v)])]):=by
 cases hg:zaB seen k nm with
 | none=>
   refine Sound.err rfl (fun _=>rfl) ?_;refine so Tryz.func47 ?_;refine TR.dead ?_;repeat' (first|refine wkt ?_|refine wka ?_|refine wkD ?_|refine wk ?_|exact wkc|refine wk2 ?_ ?_|refine wsx ?_|refine wms ?_|refine wsy ?_ ?_|(apply TO.zwE;(iterate 4 exact rfl);assumption;assumption;assumption;assumption)|(apply TO.zyd;(iterate 4 exact rfl);assumption;assumption;assumption;assumption;exact rfl)|intro hc)
   exact zmr rfl rfl rfl rfl rfl
 | some w=>
   refine Sound.err rfl (fun _=>rfl) ?_;refine so Tryz.func47 ?_;refine TR.dead ?_;repeat' (first|refine wkt ?_|refine wka ?_|refine wkD ?_|refine wk ?_|exact wkc|refine wk2 ?_ ?_|refine wsx ?_|refine wms ?_|refine wsy ?_ ?_|(apply TO.zye;(iterate 4 exact rfl);assumption;assumption;assumption;assumption)|intro hc)
   (apply retB;decide;rfl;exact rfl)
def zr7{α β:Type}(f:β->α->β×Int):β->List α->Int
 | _,[]=>0
 | a,x::l=>if(f a x).2=0 then zr7 f (f a x).1 l+1 else 0
theorem zo0{α β:Type}{f:β->α->β×Int}:∀ {l:List α} {a:β} {k:Nat} (hk:k<l.length),(zag f a (l.take k)).2=0->(f (zag f a (l.take k)).1 l[k]).2≠0->zr7 f a l=k
 | x::l,a,0,hk,h,hn=>by
   simp only[qbr,zag,qcL]at hn;rw[zr7,oH hn];rfl
 | x::l,a,k+1,hk,h,hn=>by
   rw[qaO,zag]at h;by_cases h0:(f a x).2=0
   ·rw[oG h0]at h
    have hn':(f (zag f (f a x).1 (l.take k)).1 (l[k]'(by simpa using hk))).2≠0:=by
     rw[qaO,zag,oG h0]at hn;simpa using hn
    rw[zr7,oG h0,zo0 (by simpa using hk) h hn'];omega
   ·rw[oH h0]at h;exact oI h h0
def zuL(p:Prog)(seen:List (Int×Str×Int))(i:Int)(n:Nod):Int×Int:=
 let inp:=(n.ins.map Decl.name).foldl ins []
 let r1:=zlF seen [] lv0 (zdh n)
 let r2:=zag (equS p seen i [] inp) r1.1 n.eqs
 let r3:=zag (zcQ p seen i 3 [] inp) r2.1 n.autos
 if r1.2≠0 then(-1,r1.2) else if zjV r1.1.own n.locals≠0 then(-1,zjV r1.1.own n.locals) else if r2.2≠0 then(zr7 (equS p seen i [] inp) r1.1 n.eqs,r2.2) else
 (-1,orE r3.2 (orE (zjp p seen i n.ins n.assume) (orE (zjp p seen i (n.ins++n.outs) n.ensure) (zad (fun d:Decl=>if d.name∈r3.1.done then 0 else 8) (n.outs++n.locals)))))
def zdb(p:Prog)(seen:List (Int×Str×Int))(i:Int)(n:Nod):Int×Int:=
 if(zaB seen 1 n.name).isSome=true then(-1,7) else zuL p (seen++[(1,n.name,i)]) i n
structure zyz (n:Nod):Prop where
 w:(nodT n).w≤100000000
 nest:∀a∈n.autos,zma 3 a
 exA:∀a∈n.autos,exA 3 a
 eqs:∀u∈n.eqs,∀x∈flat u.right,ExOk x
 assume:∀e∈n.assume,∀x∈flat e,ExOk x
 ensure:∀e∈n.ensure,∀x∈flat e,ExOk x
theorem znX{H:Heap}{n q q' c c':Int}{N:Nat}{v:SV}(h0:c'≠0)(hc:c'=c)(hq:q'=q)(hN:N≤H.length):
  ziZ (RetK tab rs N (Err0 c v (zcu n q c) H1 N)) (.panic (zcu n q' c')) env H:=by subst hq;exact retS h0 hc hN
theorem zcJ(a b:List Decl):(zaw (a++b)).w≤(zaw a).w+(zaw b).w:=by
 have e:∀l:List Decl,(zaw l).w=1+((l.map zak).map T.w).sum:=fun l=>w_sl 3 _
 rw[e,e,e,qaw,qaw,qct];omega
theorem ziB(l:List (Int×Str×Int))(k:Int)(s:Str)(v:Int)(j:Int)(x:Str):zaB (l++[(k,s,v)]) j x=if(zaB l j x).isSome=true then zaB l j x else if k=j/\s=x then some v else none:=by
 unfold zaB;rw[List.find?_append];cases h:l.find? (fun e=>decide (e.1=j/\e.2.1=x)) with
 | some e=>simp
 | none=>
   by_cases hk:k=j/\s=x
   ·simp[List.find?,hk]
   ·simp only[List.find?,Option.none_or,Option.map_none];rw[decide_eq_false hk];simp[hk]
theorem zcr.add(h:zcr p seen){s:Str}(hk:k<p.nodes.length):zcr p (seen++[(1,s,(k:Int))]):=by
 intro x i hx;rw[ziB]at hx;split at hx
 ·exact h x i hx
 ·split at hx
  ·cases hx;omega
  ·cases hx
theorem zcr.add'(h:zcr p seen){s:Str}{j v:Int}(hj:j≠1):zcr p (seen++[(j,s,v)]):=by
 intro x i hx;rw[ziB]at hx;split at hx
 ·exact h x i hx
 ·split at hx
  ·rename_i hh;exact oI hh.1 hj
  ·cases hx
theorem zqH (p:Prog) (hp:zgT p) (a b:Int) (seen:List (Int×Str×Int)) (hse0:zaV seen) (hsn0:zcr p seen) (k:Nat) (hk:k<p.nodes.length) (n:Nod) (hnk:p.nodes[k]?=some n) (hn:zyz n):
  Sound Tryz.prog 48 [.ref 0 0,.i k] [lkB p a b,zb8 seen] (Err (zdb p seen k n).2 (.tup []) (zcu k (zdb p seen k n).1 (zdb p seen k n).2) [lkB p k (-1),zb8 (seen++[(1,n.name,(k:Int))])]):=by
 have hml:(p.nodes.map nodT).length=p.nodes.length:=qac _;have hat:(p.nodes.map nodT)[k]?=some (.ag (nodC n)):=by rw[qan,hnk];rfl
 have hpl:=hp.nodes;have hwn:=zq5 n;have hw:=hn.w
 have hno:n.name.length≤1000000000:=by
  have:n.name.length≤(nodT n).w:=by
   rw[show nodT n= .ag (nodC n) from rfl,w_ag];exact zwef
  omega
 have hadd:=zhL p k (-1) seen hse0 1 k oB n.name hno;have hz:zdb p seen k n=zdb p seen k n:=rfl
 conv at hz=>rhs;unfold zdb
 generalize zdb p seen k n=z at hz⊢;by_cases hg:(zaB seen 1 n.name).isSome=true
 ·rw[oG hg]at hz hadd;subst hz;unfold nodC at hat;refine Sound.err rfl (fun _=>rfl) ?_;refine so Tryz.func48 ?_;refine TR.dead ?_;repeat' (first|refine wu ?_|exact wkc|refine wk2 ?_ ?_|refine we hadd ?_ ?_|intro hc)
  exact znX oB rfl rfl (leB)
 rw[oH hg]at hz hadd
 have hgn:zaB seen 1 n.name=none:=by
  cases h:zaB seen 1 n.name with
  | none=>rfl
  | some w=>rw[h]at hg;exact oI rfl hg
 have hse:=hse0.add (v:=(k:Int)) oB hno hgn;have hsn:=hsn0.add (s:=n.name) hk;clear hse0 hsn0 hg hgn;generalize hsq:seen++[(1,n.name,(k:Int))]=sq at*;have l1:=zaD zak 3 n.ins;have l2:=zaD zak 3 n.outs;have l3:=zaD zak 3 n.locals;have l4:=zaD equT 7 n.eqs;have l5:=zaD zam 1 n.autos;have d1:(zaw n.ins).w=(T.sl 3 (n.ins.map zak)).w:=rfl;have d2:(zaw n.outs).w=(T.sl 3 (n.outs.map zak)).w:=rfl;have d3:(zaw n.locals).w=(T.sl 3 (n.locals.map zak)).w:=rfl;have m1:(n.ins.map zak).length=n.ins.length:=qac _;have m4:(n.eqs.map equT).length=n.eqs.length:=qac _;have m5:(n.autos.map zam).length=n.autos.length:=qac _;have e4:(zaw ([]:List Decl)).w=1:=by rw[w_sl];rfl
 have hvw:(zaw (zdh n)).w≤100000002:=by
  have e1:=zcJ n.ins (n.outs++(n.locals++[]));have e2:=zcJ n.outs (n.locals++[]);have e3:=zcJ n.locals [];unfold zdh;omega
 have hv:=zq4 n ⟨oA,oA,oA⟩ (fun d hd=>by
  have h1:=(zbq hd).2;have h2:=zaD onT 3 d.clock;omega)
 have hde:=zfS p k (-1) sq hse (.c1 [] lv0) ⟨zbm.nil,zbm.nil,zbm.nil⟩ (zdh n) oA;simp only[Ch.vis0,Ch.top,Ch.set,Ch.id]at hde;unfold zuL at hz;simp only at hz;generalize hV:zdh n=V at*;generalize hr1:zlF sq [] lv0 V=R1 at*;unfold nodC at hat hv;refine Sound.err rfl (fun _=>rfl) ?_;refine so Tryz.func48 ?_;refine TR.dead ?_;repeat' (first|refine wkt ?_|refine we hadd ?_ ?_|(apply TO.zxe (zl1 p k (-1) sq);(iterate 3 exact rfl);exact Les.refl _;apply TO.zgb 9 4 4;(iterate 3 exact rfl))|refine wk ?_|refine wv hv ?_|refine wss hde ?_ ?_|intro hc)
 all_goals first
  | exact oI rfl hc
  | exact znX hc (by rw[hz,oG hc]) (by rw[hz,oG hc]) (leB)
  | skip
 rw[oH (by simp[hc])]at hz;have hR1z:=hc
 have G1:R1.1.ok/\R1.1.defs=[]:=by
  have:=zbS (f:=zbF sq []) (G:=fun(B:Nat) (a:Lv)=>a.ok/\a.defs=[]) (w:=fun _=>0) V (fun B a x hx h _=>⟨h.1.zgU (by have:=(zbq hx).1;omega),h.2⟩) 0 lv0 ⟨⟨zbm.nil,zbm.nil⟩,rfl⟩ (by rw[<-hr1]at hR1z;exact hR1z)
  rw[<-hr1];exact this
 clear hde hr1;obtain⟨L1,R1e⟩:=R1;simp only at hz G1 hR1z;have hsm:=ziy p k (-1) sq (.c1 [] L1) ⟨zbm.nil,G1.1⟩ n.locals oA;simp only[Ch.vis,Ch.vis0,Ch.top,Ch.id,qaP]at hsm;repeat' (first|refine wkt ?_|refine wka ?_|refine wkD ?_|refine wk ?_|exact wkc|refine wk2 ?_ ?_|refine wsx ?_|refine wms ?_|refine wsy ?_ ?_|refine wss hsm ?_ ?_|intro hc)
 all_goals first
  | exact znX hc (by rw[hz,oG hc]) (by rw[hz,oG hc]) (leB)
  | skip
 rw[oH (by simp[hc])]at hz;clear hsm
 have hins:∀j,zbm (((n.ins.take j).map Decl.name).foldl ins []):=by
  have:∀(l:List Decl) (d:List Str),zbm d->(∀x∈l,x.name.length≤1000000000)->zbm ((l.map Decl.name).foldl ins d):=by
   exact zwbr
  exact fun j=>this _ [] zbm.nil (fun x hx=>by have:=(zbq (qaS hx)).1;omega)
 refine TR.zaz n.ins.length (fun _=>True) (fun j=>[(0,.ref 0 0),(1,.i k),(4,.cp (nC n) 0),(5,.ref 4 0),(49,.t (zaw n.ins)),(50,.i (n.ins.map zak).length),(51,.i j)]) (fun j=>full p k (-1) sq (.c1 (((n.ins.take j).map Decl.name).foldl ins []) L1)) trivial (fun j hlt _=>?_) (fun _=>?_)
 ·have hx:=zd4 hlt;have hnx:n.ins[j].name.length≤1000000000:=by have:=(zbq (qak hlt)).1;omega
  have hdn:=hins j
  have g2:((n.ins.take (j+1)).map Decl.name).foldl ins []=ins (((n.ins.take j).map Decl.name).foldl ins []) n.ins[j].name:=by
   rw[qaE hlt,qaw,qbJ];rfl
  generalize ((n.ins.take j).map Decl.name).foldl ins []=dn at*;generalize n.ins[j]=x at*;exact zwk
 have hinp:=hins n.ins.length;rw[qap]at hinp;rw[qap];generalize (n.ins.map Decl.name).foldl ins []=inp at*;clear hins;refine wk ?_;repeat' (first|refine wu ?_|exact wkc|refine wk2 ?_ ?_|intro hc)
 have G2:Good L1.own 0 L1:=⟨G1.1,rfl,by rw[G1.2];exact qag _,by rw[G1.2];simp⟩;have ek1:=fun j=>zbP (fun u=>(equT u).w) n.eqs j
 have ek2:=fun j=>zbP (fun u=>(zam u).w) n.autos j
 have es1:=zvb equT 7 n.eqs;have es2:=zvb zam 1 n.autos;have ge:=fun j hz=>ze6 (f:=equS p sq k [] inp) (G:=Good L1.own) (w:=fun u=>(equT u).w) n.eqs (fun B a x hx h hz=>zkl (by have:=zaY (f:=equT) (sz:=7) hx;omega) h hz) 0 L1 G2 (k:=j) hz
 refine TR.zaz n.eqs.length (fun j=>(zag (equS p sq k [] inp) L1 (n.eqs.take j)).2=0) (fun j=>[(0,.ref 0 0),(1,.i k),(4,.cp (nC n) 0),(5,.ref 4 0),(63,.t (.sl 7 (n.eqs.map equT))),(64,.i (n.eqs.map equT).length),(65,.i j)]) (fun j=>full p k ((j:Int)-1) sq (.c1 inp (zag (equS p sq k [] inp) L1 (n.eqs.take j)).1)) rfl (fun j hlt ha=>?_) (fun ha=>?_)
 ·have hx:=zlm hlt;have g1:=zcI (f:=equS p sq k [] inp) hlt ha;have g2:=zbB (f:=equS p sq k [] inp) hlt ha;have g3:=zo0 (f:=equS p sq k [] inp) hlt ha;have hwu:(equT n.eqs[j]).w≤1000000000:=by have:=zaY (f:=equT) (sz:=7) (qak hlt);omega
  have gk:=ge j ha;have gk2:=ek1 j;have hxk:=hn.eqs _ (qak hlt);have hlw:=ze9 (q:=n.eqs[j]);generalize (zag (equS p sq k [] inp) L1 (n.eqs.take j)).1=st at*;generalize n.eqs[j]=x at*;have hs:=zlI p hp k j sq hse hsn k (.c1 inp st) (by simp[Ch.N]) ⟨hinp,gk.ok⟩ x hwu (by have:=gk.len;simp only[Ch.top];omega) hxk;simp only[Ch.vis0,Ch.low,Ch.top,Ch.set,Ch.id]at hs;generalize equS p sq k [] inp st x=fx at*;unfold equC at hx hs;clear ge;repeat' (first|refine wkt ?_|refine wka ?_|refine wk ?_|exact wkc|refine wk2 ?_ ?_|refine wss hs ?_ ?_|intro hc)
  ·refine zac.zaH hlt (by rw[g2];exact hc) ?_ (by rw[g2,show((j+1:Nat):Int)-1=j from oA]);repeat' (first|exact trivial|refine qav rfl ?_|fail)
  ·rw[oG (by rw[g1 hc];exact hc),g1 hc,g3 hc]at hz
   (repeat' (first|refine zac.panic ?_|refine wk ?_|fail))
   exact znX hc (by rw[hz]) (by rw[hz]) (leB)
 have ge1:=ge n.eqs.length ha;rw[qap]at ha ge1;rw[qap];rw[oH (by simp[ha])]at hz;generalize (zag (equS p sq k [] inp) L1 n.eqs).1=L2 at*;clear ge;refine wk ?_;repeat' (first|refine wu ?_|exact wkc|refine wk2 ?_ ?_|intro hc)
 have hau:=fun b (hb:b∈n.autos) (t:Lv) (ht:t.ok) (hd:t.defs.length≤1000000000)=>auc p hp k (-1) sq hse hsn k 3 (.c1 inp t) rfl ⟨hinp,ht⟩ hd b (by have:=zaY (f:=zam) (sz:=1) hb;omega) (hn.nest b hb) (hn.exA b hb)
 have ga:=fun j hz=>ze6 (f:=zcQ p sq k 3 [] inp) (G:=Good L1.own) (w:=fun b=>(zam b).w) n.autos (fun B a x hx h hz=>zhQ 3 (by have:=zaY (f:=zam) (sz:=1) hx;omega) h hz) _ L2 ge1 (k:=j) hz
 refine TR.zaz n.autos.length (fun j=>(zag (zcQ p sq k 3 [] inp) L2 (n.autos.take j)).2=0) (fun j=>[(0,.ref 0 0),(1,.i k),(4,.cp (nC n) 0),(5,.ref 4 0),(86,.t (.sl 1 (n.autos.map zam))),(87,.i (n.autos.map zam).length),(88,.i j)]) (fun j=>full p k (-1) sq (.c1 inp (zag (zcQ p sq k 3 [] inp) L2 (n.autos.take j)).1)) rfl (fun j hlt ha=>?_) (fun ha=>?_)
 ·have hx:=zhP hlt;have g1:=zcI (f:=zcQ p sq k 3 [] inp) hlt ha;have g2:=zbB (f:=zcQ p sq k 3 [] inp) hlt ha;have gk:=ga j ha;have gk2:=ek2 j;have gk3:=ek1 n.eqs.length;generalize (zag (zcQ p sq k 3 [] inp) L2 (n.autos.take j)).1=st at*;have hs:=hau _ (qak hlt) st gk.ok (by have:=gk.len;omega);simp only[Ch.vis0,Ch.low,Ch.top,Ch.set,Ch.id]at hs;generalize n.autos[j]=x at*;generalize zcQ p sq k 3 [] inp st x=fx at*;unfold zd5 at hx hs;clear hau ga;repeat' (first|refine wkt ?_|refine wka ?_|refine wkD ?_|refine wk ?_|exact wkc|refine wk2 ?_ ?_|refine wsx ?_|refine wms ?_|refine wsy ?_ ?_|refine wss hs ?_ ?_|intro hc)
  ·refine zac.zaH hlt (by rw[g2];exact hc) ?_ (by rw[g2]);repeat' (first|exact trivial|refine qav rfl ?_|fail)
  ·rw[g1 hc]at hz
   (repeat' (first|refine zac.panic ?_|refine wk ?_|fail))
   exact znX hc (by rw[hz];try simp[orE,hc]) (by rw[hz]) (leB)
 have ga1:=ga n.autos.length ha;rw[qap]at ha ga1;rw[qap];rw[ha]at hz;generalize (zag (zcQ p sq k 3 [] inp) L2 n.autos).1=L3 at*;clear ga hau;refine wk ?_;repeat' (first|refine wu ?_|exact wkc|refine wk2 ?_ ?_|intro hc)
 have hca:=zg0 p hp k (-1) sq hse hsn k n.assume [n.ins] oC (by simp only[qaK,qca,qaz];show(zaw n.ins).w≤_;omega) oA hn.assume
 have hce:=zg0 p hp k (-1) sq hse hsn k n.ensure [n.ins,n.outs] oC (by
  have:=zcJ n.ins n.outs
  simp only[qaK,qca,qaz];show(zaw (n.ins++n.outs)).w≤_;omega) oA hn.ensure
 simp only[qaK,qca,qaz,qaf,qaD]at hca hce;have hmV:(V.map zak).length=V.length:=qac _;have hVl:n.ins.length≤V.length:=by rw[<-hV];simp[zdh]
 have hdr:(V.map zak).drop (n.ins.map zak).length=(n.outs++n.locals).map zak:=by
  rw[<-hV,m1,<-List.map_drop];simp[zdh]
 repeat' (first|refine wkt ?_|refine TR.zkN (envF:=_) (g:=True) [(.t (.ag (nC n)),false),(.t (zaw V),true),(.cp (nC n) 1,false),(.t (zaw n.ins),false),(.i (n.ins.map zak).length,false),(.t (.sl 3 ((V.map zak).drop (n.ins.map zak).length)),false),(.i ((V.map zak).drop (n.ins.map zak).length).length,false),(.i 0,false)] hmix (by dsimp only[List.map];decide +kernel) ?_ rfl oB ?_|refine wk ?_|exact wkc|refine wk2 ?_ ?_|refine we hca ?_ ?_|refine we hce ?_ ?_|refine wv hv ?_|(apply TO.ztk zaf;(iterate 8 exact rfl);omega)|exact qav (qav rfl rfl) trivial|exact trivial|refine qav (fun env=>?_) ?_|intro hc)
 all_goals first
  | exact znX hc (by rw[hz];simp only[orE];clear hca hce hv;grind) (by rw[hz]) (leB)
  | skip
 clear hca hce hv;rw[hdr];have hml2:((n.outs++n.locals).map zak).length=(n.outs++n.locals).length:=qac _;have hol:(n.outs++n.locals).length≤1000000000:=oF
 have hon:∀x∈n.outs++n.locals,x.name.length≤1000000000:=fun x hx=>by
  rcases qbe.1 hx with hx|hx
  ·have:=(zbq hx).1;omega
  ·have:=(zbq hx).1;omega
 generalize n.outs++n.locals=OL at*;refine TR.zaz OL.length (fun j=>zad (fun d:Decl=>if d.name∈L3.done then 0 else 8) (OL.take j)=0) (fun j=>[(0,.ref 0 0),(1,.i k),(4,.cp (nC n) 0),(5,.ref 4 0),(121,.t (zaw OL)),(122,.i (OL.map zak).length),(123,.i j)]) (fun _=>full p k (-1) sq (.c1 inp L3)) rfl (fun j hlt ha=>?_) (fun ha=>?_)
 ·have hx:=zd4 hlt;have hnx:=hon _ (qak hlt);have g1:=zaJ (f:=fun d:Decl=>if d.name∈L3.done then 0 else 8) hlt ha;have g2:=zax (f:=fun d:Decl=>if d.name∈L3.done then 0 else 8) hlt ha;have hdn:=ga1.ok.done;generalize OL[j]=x at*;unfold zfR at hx;repeat' (first|refine wkt ?_|refine wka ?_|refine wkD ?_|refine wk ?_|exact wkc|refine wk2 ?_ ?_|refine wsx ?_|refine wms ?_|refine wsy ?_ ?_|intro hc)
  ·exact zac.zaH hlt (g2 (by rw[oG hc]))
  ·(repeat' (first|refine zac.panic ?_|refine wk ?_|fail))
   exact znX oB (by rw[hz];simp only[orE];grind) (by rw[hz]) (leB)
 have el:=zaF ha;refine ya ?_;refine RetK.errN (vs:=[]) ?_ rfl (Le.refl _) rfl rfl rfl rfl rfl;rw[hz];simp only[orE];grind
theorem zlO:∀(m:Nat) (e:Ex),wEx e≤m->∀x∈flat e,x.name.length≤(exT e).w
 | 0,e,h=>by have:=zcG e;omega
 | m+1,e,h=>by
   intro x hx;have he:(exT e).w=(T.ag (exC e)).w:=by rw[zan]
   have h1:e.name.length+(T.sl 6 (e.args.map exT)).w≤(exT e).w:=by
    rw[he,w_ag];simp only[exC,qaf,qaD,qaG,qa9,w_s];omega
   rw[zb2]at hx;rcases qa5.1 hx with rfl|hx
   ·omega
   ·unfold flats at hx;obtain⟨l,hl,hxl⟩:=qbR.1 hx;obtain⟨y,hy,rfl⟩:=qaL.1 hl
    have:=zlO m y (by have:=zcS hy;omega) x hxl
    have:=zaY (f:=exT) (sz:=6) hy
    omega
theorem zgw{e:Ex}(h:zbi es e=0)(hw:(exT e).w≤1000000000):∀x∈flat e,ExOk x:=fun x hx=>
 ⟨(zp4 h x hx).v,qax (zlO _ e (qag _) x hx) hw⟩
theorem zaG{a b:Int}(h:orE a b=0):a=0/\b=0:=by
 exact zwed
theorem zrV(h:equE es u=0):zbi es u.right=0:=by
 unfold equE at h;exact(zaG (zaG (zaG (zaG h).2).2).2).1
theorem zpS{n:Int}{s:Bool}{t:Tran}(h:zfi es n s t=0):zbi es t.cond=0:=by
 unfold zfi at h;exact(zaG (zaG h).2).1
theorem zoO(u:Equ):(exT u.right).w≤(equT u).w:=by
 rw[zan,w_ag,show equT u= .ag (.sl 1 (u.left.map T.s)::exC u.right) from rfl,w_ag,qaf,qaG];omega
theorem zmP(t:Tran):(exT t.cond).w≤(zaA t).w:=by
 rw[zan,w_ag,show zaA t= .ag (zmO t) from rfl,w_ag];simp only[exC,zmO,qaf,qaD,qaG,qa9];omega
theorem znc{es:List En}:∀(k:Nat) (a:Auto),(zam a).w≤1000000000->zdl es k a=0->zma k a/\exA k a
 | 0,a,hw,h=>by simp[zdl]at h
 | k+1,a,hw,h=>by
   unfold zdl at h;have hst:=zab (zaG (zaG h).2).2;have hwa:=zhc a
   have key:∀s∈a.states,(∀b∈s.autos,zma k b/\exA k b)/\(∀u∈s.eqs,∀x∈flat u.right,ExOk x)/\(∀t∈s.unl,∀x∈flat t.cond,ExOk x)/\(∀t∈s.unt,∀x∈flat t.cond,ExOk x):=by
    intro s hs;have h1:=hst s hs;have hws:=zaY (f:=staT) (sz:=6) hs;have hw2:=zmW s;unfold stE at h1;have h3:=(zaG (zaG (zaG h1).2).2).2;have he:=zab (zaG h3).1;have h4:=(zaG h3).2;have ha:=zab (zaG h4).1;have h5:=(zaG h4).2;have hu:=zab (zaG h5).1;have hv:=zab (zaG h5).2;refine⟨fun b hb=>znc k b (by have:=zaY (f:=zam) (sz:=1) hb;omega) (ha b hb),fun u hu'=>zgw (zrV (he u hu')) (by have:=zoO u;have:=zaY (f:=equT) (sz:=7) hu';omega),fun t ht=>zgw (zpS (hu t ht)) (by have:=zmP t;have:=zaY (f:=zaA) (sz:=8) ht;omega),fun t ht=>zgw (zpS (hv t ht)) (by have:=zmP t;have:=zaY (f:=zaA) (sz:=8) ht;omega)⟩
   exact⟨fun s hs b hb=>((key s hs).1 b hb).1,fun s hs=>⟨(key s hs).2.1,(key s hs).2.2.1,(key s hs).2.2.2,fun b hb=>((key s hs).1 b hb).2⟩⟩
theorem zxX{n:Nod}(h:(zcp es n).2=0)(hw:(nodT n).w≤100000000):zyz n:=by
 have hwn:=zq5 n;unfold zcp at h;have h1:zlV es n=0:=qaA fun hh=>by rw[oG hh]at h;exact hh h
 rw[oH (by simp[h1])]at h;have h2:zad (equE es) n.eqs=0:=qaA fun hh=>by rw[oG hh,zcv]at h;exact hh h
 rw[oH (by simp[h2])]at h;simp only at h;unfold zod at h;have ha:=zab (zaG h).1;have hs:=zab (zaG (zaG h).2).1;have he:=zab (zaG (zaG h).2).2;have hq:=zab h2;refine⟨hw,fun a h=>(znc 3 a (by have:=zaY (f:=zam) (sz:=1) h;omega) (ha a h)).1,fun a h=>(znc 3 a (by have:=zaY (f:=zam) (sz:=1) h;omega) (ha a h)).2,fun u hu=>zgw (zrV (hq u hu)) (by have:=zoO u;have:=zaY (f:=equT) (sz:=7) hu;omega),fun e h=>zgw (hs e h) (by have:=zaY (f:=exT) (sz:=6) h;omega),fun e h=>zgw (he e h) (by have:=zaY (f:=exT) (sz:=6) h;omega)⟩
theorem ziE(h:(zaX p).2=0):∀n∈p.nodes,(zcp p.enums n).2=0:=by
 unfold zaX at h;have h1:limE p=0:=qaA fun hh=>by rw[oG hh]at h;exact hh h
 rw[oH (by simp[h1])]at h;have h2:zad zew p.enums=0:=qaA fun hh=>by rw[oG hh]at h;exact hh h
 rw[oH (by simp[h2])]at h;have h3:zad (fun n=>(zcp p.enums n).2) p.nodes=0:=qaA fun hh=>by rw[oH hh]at h;exact hh h
 exact zab h3
def addF(seen:List (Int×Str×Int))(e:Int×Str×Int):List (Int×Str×Int)×Int:=(seen++[e],if(zaB seen e.1 e.2.1).isSome=true then 7 else 0)
def zeZ(u:En)(i:Int):List (Int×Str×Int):=u.tags.map fun s=>(0,s,i)
def enF(seen:List (Int×Str×Int))(x:En×Nat):List (Int×Str×Int)×Int:=zag addF seen ((2,x.1.name,(x.2:Int))::zeZ x.1 x.2)
def nodF(p:Prog)(seen:List (Int×Str×Int))(x:Nod×Nat):List (Int×Str×Int)×Int:=(seen++[(1,x.1.name,(x.2:Int))],(zdb p seen x.2 x.1).2)
def zmm(p:Prog):List (Int×Str×Int)->List (Nod×Nat)->Int×Int
 | _,[]=>(0,0)
 | st,x::l=>if(nodF p st x).2=0 then zmm p (nodF p st x).1 l else((x.2:Int),(zdb p st x.2 x.1).1)
theorem zmn(p:Prog):∀ {l:List (Nod×Nat)} {a:List (Int×Str×Int)} {k:Nat} (hk:k<l.length),(zag (nodF p) a (l.take k)).2=0->(nodF p (zag (nodF p) a (l.take k)).1 l[k]).2≠0->zmm p a l=((l[k].2:Int),(zdb p (zag (nodF p) a (l.take k)).1 l[k].2 l[k].1).1)
 | x::l,a,0,hk,h,hn=>by
   simp only[qbr,zag,qcL]at hn⊢;rw[zmm,oH hn]
 | x::l,a,k+1,hk,h,hn=>by
   rw[qaO,zag]at h;by_cases h0:(nodF p a x).2=0
   ·rw[oG h0]at h
    have hn':(nodF p (zag (nodF p) (nodF p a x).1 (l.take k)).1 (l[k]'(by simpa using hk))).2≠0:=by
     rw[qaO,zag,oG h0]at hn;simpa using hn
    rw[zmm,oG h0,zmn p (by simpa using hk) h hn',qaO,zag,oG h0];simp
   ·rw[oH h0]at h;exact oI h h0
def zcO(p:Prog):(Int×Int)×Int:=
 if(zaX p).2≠0 then zaX p else
 if(zag enF [] p.enums.zipIdx).2≠0 then((-1,-1),(zag enF [] p.enums.zipIdx).2) else
 if(zag (nodF p) (zag enF [] p.enums.zipIdx).1 p.nodes.zipIdx).2=0 then((0,0),0) else(zmm p (zag enF [] p.enums.zipIdx).1 p.nodes.zipIdx,(zag (nodF p) (zag enF [] p.enums.zipIdx).1 p.nodes.zipIdx).2)
end Go.Proofs.YtdicfgideclbdaaGreatDoor
