import Derived.Test.YtpnnpgbaiobbjaaGreatDoorAk23
set_option linter.all false
namespace Go.Proofs.YtpnnpgbaiobbjaaGreatDoor
open Go Go.TL
attribute [local irreducible] TR TO Then zao RetK Sound zab Kf GG zaZ
def dupE:List Str->List Str->Int
 | _,[]=>0
 | pre,s::l=>if s∈pre then 7 else dupE (pre++[s]) l
def lv0:Lv:=⟨[],[],[]⟩
def stS(p:Prog)(seen:List (Int×Str×Int))(node:Int)(F:List Str->List Str->Lv->Auto->Lv×Int)(vis low:List Str)(s:Sta):List Str×Int:=
 let r1:=zam (zbX seen vis) lv0 s.locals
 let r2:=zam (equS p seen node vis low) r1.1 s.eqs
 let r3:=zam (F vis low) r2.1 s.autos
 (zbE r3.1.own r3.1.defs,
   orE r1.2 (orE (zlF (vis++r1.1.own) s.locals) (orE r2.2 (orE r3.2 (orE (zpW p seen node vis s.unl) (orE (zpW p seen node (vis++r3.1.own) s.unt) (zaf (fun d:Decl=>if d.name∈r3.1.done then 0 else 8) s.locals)))))))
def zaO(l:List (List Str×Int)):List Str:=(l.headD ([],0)).1
def zcF(l:List (List Str×Int)):Bool:=l.all fun r=>znv r.1 (zaO l)
def zb4(p:Prog)(seen:List (Int×Str×Int))(node:Int):Nat->List Str->List Str->Lv->Auto->Lv×Int
 | 0,_,_,t,_=>(t,0)
 | k+1,vis0,low,t,a=>
   let rs:=a.states.map (stS p seen node (zb4 p seen node k) (vis0++t.own) (low++t.done))
   (⟨t.own,(zaO rs).foldl ins t.done,t.defs++zaO rs⟩,orE (dupE [] (a.states.map Sta.name)) (orE (zaf Prod.snd rs) (if zcF rs=true then 0 else 8)))
def zeY:Nat->Auto->Prop
 | 0,_=>False
 | k+1,a=>∀s∈a.states,∀b∈s.autos,zeY k b
structure Good (own:List Str) (B:Nat) (a:Lv):Prop where
 ok:a.ok
 own:a.own=own
 len:a.defs.length≤B
 short:∀s∈a.defs,s.length≤1000000000
theorem Good.mono{own:List Str}{B B':Nat}{a:Lv}(h:Good own B a)(hb:B≤B'):Good own B' a:=⟨h.ok,h.own,qaE h.len hb,h.short⟩
theorem zbK{α β:Type}{f:β->α->β×Int}{G:Nat->β->Prop}{w:α->Nat}(l:List α)(step:∀B a x,x∈l->G B a->(f a x).2=0->G (B+w x) (f a x).1):∀(B:Nat) (a:β),G B a->(zam f a l).2=0->G (B+(l.map w).sum) (zam f a l).1:=by
 induction l with
 | nil=>intro B a h _;simpa [zam]using h
 | cons x l ih=>
   intro B a h hz
   unfold zam at hz⊢
   split at hz
   ·rename_i h0
    rw[if_pos h0]
    have:=ih (fun B a y hy=>step B a y (by simp[hy])) _ _ (step B a x (by simp) h h0) hz
    rw[qaj,qao,<-qaZ]
    exact this
   ·rename_i h0;exact absurd hz h0
theorem zeF{α β:Type}{f:β->α->β×Int}{G:Nat->β->Prop}{w:α->Nat}(l:List α)(step:∀B a x,x∈l->G B a->(f a x).2=0->G (B+w x) (f a x).1)(B:Nat)(a:β)(h:G B a){k:Nat}(hz:(zam f a (l.take k)).2=0):G (B+((l.take k).map w).sum) (zam f a (l.take k)).1:=
 zbK (l.take k) (fun B a x hx=>step B a x (qaR hx)) B a h hz
theorem zrP{α:Type}:∀(l:List α),(l.map fun _=>1).sum=l.length
 | []=>rfl
 | x::l=>by simp[zrP l];omega
theorem zqW{vis low own:List Str}{B:Nat}{a:Lv}{s:Str}(hs:s.length≤1000000000)(h:Good own B a):Good own (B+1) (zdB vis low a s).1:=by
 refine⟨h.ok.zdi hs,h.own,?_,fun x hx=>?_⟩
 ·have:=h.len
  simp[zdB,Lv.zdi];omega
 ·simp[zdB,Lv.zdi]at hx
  rcases hx with hx|rfl
  ·exact h.short x hx
  ·exact hs
theorem zjN{p:Prog}{seen:List (Int×Str×Int)}{node:Int}{vis0 low own:List Str}{B:Nat}{a:Lv}{u:Equ}(hw:(equT u).w≤1000000000)(h:Good own B a)(hz:(equS p seen node vis0 low a u).2=0):Good own (B+(equT u).w) (equS p seen node vis0 low a u).1:=by
 unfold equS at hz⊢
 simp only[orE]at hz
 have h1:(zam (zdB (vis0++a.own) low) a u.left).2=0:=by
  split at hz
  ·assumption
  ·exact hz
 have:=zbK (G:=Good own) (w:=fun _=>1) u.left (fun B a x hx h _=>zqW (qaE (ztE hx) hw) h) B a h h1
 refine this.mono ?_
 have:=zda (q:=u)
 rw[zrP];omega
theorem zrI{p:Prog}{seen:List (Int×Str×Int)}{node:Int}{F:List Str->List Str->Lv->Auto->Lv×Int}{vis low:List Str}{s:Sta}(hw:(staT s).w≤1000000000)
  (hF:∀own B t b,b∈s.autos->Good own B t->(F vis low t b).2=0->Good own (B+(zae b).w) (F vis low t b).1)(hz:(stS p seen node F vis low s).2=0):
  (stS p seen node F vis low s).1.length≤(staT s).w/\∀x∈(stS p seen node F vis low s).1,x.length≤1000000000:=by
 have hws:=zdK s
 unfold stS at hz⊢
 simp only[orE]at hz⊢
 have z1:(zam (zbX seen vis) lv0 s.locals).2=0:=by grind
 have z2:(zam (equS p seen node vis low) (zam (zbX seen vis) lv0 s.locals).1 s.eqs).2=0:=by grind
 have z3:(zam (F vis low) (zam (equS p seen node vis low) (zam (zbX seen vis) lv0 s.locals).1 s.eqs).1 s.autos).2=0:=by grind
 have g0:(fun(B:Nat) (a:Lv)=>a.ok/\a.defs=[]) 0 lv0:=⟨⟨zaD.nil,zaD.nil⟩,rfl⟩
 have g1:=zbK (f:=zbX seen vis) (G:=fun(B:Nat) (a:Lv)=>a.ok/\a.defs=[]) (w:=fun _=>0) s.locals (fun B a x hx h _=>⟨h.1.zgs (by have:=(za2 hx).1;omega),h.2⟩) 0 lv0 g0 z1
 have g2:=zbK (f:=equS p seen node vis low) (G:=Good (zam (zbX seen vis) lv0 s.locals).1.own) (w:=fun u=>(equT u).w) s.eqs (fun B a x hx h hz=>zjN (by have:=zav (f:=equT) (sz:=7) hx;omega) h hz) 0 _ ⟨g1.1,rfl,by rw[g1.2];exact qag _,by rw[g1.2];simp⟩ z2
 have g3:=zbK (f:=F vis low) (G:=Good (zam (zbX seen vis) lv0 s.locals).1.own) (w:=fun b=>(zae b).w) s.autos (fun B a x hx h hz=>hF _ B a x hx h hz) _ _ g2 z3
 refine⟨?_,fun x hx=>g3.short x ((qbW.1 hx).1)⟩
 refine qaE (zdY _ _) ?_
 have h3:=g3.len
 have e1:((s.eqs.map fun u=>(equT u).w)).sum≤(T.sl 7 (s.eqs.map equT)).w:=by
  rw[w_sl,qbp];simp only[qbY];omega
 have e2:((s.autos.map fun u=>(zae u).w)).sum≤(T.sl 1 (s.autos.map zae)).w:=by
  rw[w_sl,qbp];simp only[qbY];omega
 omega
theorem zhp{p:Prog}{seen:List (Int×Str×Int)}{node:Int}:∀(k:Nat) {vis0 low own:List Str} {B:Nat} {t:Lv} {a:Auto},(zae a).w≤1000000000->Good own B t->(zb4 p seen node k vis0 low t a).2=0->Good own (B+(zae a).w) (zb4 p seen node k vis0 low t a).1
 | 0,vis0,low,own,B,t,a,hw,h,hz=>h.mono (by omega)
 | k+1,vis0,low,own,B,t,a,hw,h,hz=>by
   have hwa:=zbJ a
   unfold zb4 at hz⊢
   simp only[orE]at hz⊢
   have z1:zaf Prod.snd (a.states.map (stS p seen node (zb4 p seen node k) (vis0++t.own) (low++t.done)))=0:=by grind
   have hfs:(zaO (a.states.map (stS p seen node (zb4 p seen node k) (vis0++t.own) (low++t.done)))).length≤(zae a).w/\∀x∈zaO (a.states.map (stS p seen node (zb4 p seen node k) (vis0++t.own) (low++t.done))),x.length≤1000000000:=by
    cases hs:a.states with
    | nil=>simp[zaO]
    | cons s l=>
      have hm:s∈a.states:=by rw[hs];simp
      have hws:=zav (f:=staT) (sz:=6) hm
      have z2:(stS p seen node (zb4 p seen node k) (vis0++t.own) (low++t.done) s).2=0:=by
       rw[hs,qaj,zaf]at z1
       split at z1
       ·assumption
       ·exact z1
      have:=zrI (by omega) (fun own B t b hb hg hz=>zhp k (by have:=zav (f:=zae) (sz:=1) hb;have:=zdK s;omega) hg hz) z2
      simp only[zaO,qaj,qcE]
      exact⟨by omega,this.2⟩
   generalize zaO (a.states.map (stS p seen node (zb4 p seen node k) (vis0++t.own) (low++t.done)))=fs at*
   refine⟨⟨h.ok.own,?_⟩,h.own,?_,fun x hx=>?_⟩
   ·have:∀(l:List Str) (d:List Str),zaD d->(∀x∈l,x.length≤1000000000)->zaD (l.foldl ins d):=by
     exact zwcg
    exact this fs t.done h.ok.done hfs.2
   ·have:=h.len
    simp;omega
   ·simp at hx
    rcases hx with hx|hx
    ·exact h.short x hx
    ·exact hfs.2 x hx
theorem zp4(seen:List (Int×Str×Int))(vis0:List Str)(a:Lv)(d:Decl):zml seen vis0 a [d]=zbX seen vis0 a d:=by
 unfold zml
 simp only[zam]
 split
 ·rename_i h
  generalize zbX seen vis0 a d=z at*
  obtain⟨z1,z2⟩:=z
  simp only at h;subst h;rfl
 ·rfl
theorem zvT{env:Env}{H H1:Heap}{n q c:Int}{N:Nat}{rs:List ResultVar}{vs:List SV}{v:SV}(hc:c=0)(hr:zcc tab env H rs=some vs)(hl:Le (pack vs) v)(hN:Nat.ble N H1.length=true)(hk:Nat.ble H1.length H.length=true)(hu:v.under H1.length=true)(ht:H.take H1.length=H1)(hb:zad H1.length H1=true):
  ziw (RetK tab rs N (Err0 c v (zci n q c) H1 N)) .ret env H:=RetK.errV hc hr hl hN hk hu ht hb
theorem zsC:Pure Tryz.prog 292 [.t (.sl 1 []),.any] (.t (.sl 1 [])):=by
 have hi:Pure Tryz.prog 317 [.t (.sl 1 []),.any] (.i (-1)):=by
  refine so Tryz.func317 ?_
  repeat' (first|refine wk ?_|exact wkc|intro hc|refine wk2 ?_ ?_|fail)
  refine TR.zal 0 (fun _=>True) (fun k=>[(0,.t (.sl 1 [])),(7,.i 0),(8,.i k)]) (fun _=>[]) trivial (fun k hlt _=>?_) (fun _=>?_) ⟨rfl,rfl,rfl,trivial⟩
  ·omega
  ·repeat' (first|refine wk ?_|exact wkc|intro hc|refine wk2 ?_ ?_|fail)
   exact wkr
 refine so Tryz.func292 ?_
 repeat' (first|refine wu ?_|exact wkc|intro hc|refine wk2 ?_ ?_|refine wv hi ?_|fail)
 exact wkr
theorem ztg{α:Type}(f:α->T)(sz:Nat)(l:List α):(l.map fun x=>(f x).w).sum<(T.sl sz (l.map f)).w:=by
 rw[w_sl,qbp];simp only[qbY];omega
theorem zbH{α:Type}(w:α->Nat):∀(l:List α) (k:Nat),((l.take k).map w).sum≤(l.map w).sum
 | [],k=>by simp
 | x::l,0=>by simp
 | x::l,k+1=>by
   have:=zbH w l k
   simp only[qaM,qaj,qao];omega
set_option maxHeartbeats 4000000 in
theorem ztc (p:Prog) (hp:zgr p) (n q:Int) (seen:List (Int×Str×Int)) (hse:zaS seen) (hsn:zch p seen) (node:Int) (h:Ch) (hn1:h.N≠5) (hn2:h.N≠19) (hk0:h.ok) (F:List Str->List Str->Lv->Auto->Lv×Int) (s:Sta) (hw:(staT s).w≤1000000000)
  (hF:∀own B tt bb,bb∈s.autos->Good own B tt->(F h.vis (h.low++h.top.done) tt bb).2=0->Good own (B+(zae bb).w) (F h.vis (h.low++h.top.done) tt bb).1)
  (hau:∀bb,bb∈s.autos->∀x:Lv,x.ok->x.defs.length≤1000000000->(∀y∈x.defs,y.length≤1000000000)->SS 162 [.i node,.ref (h.push x).id 0,.t (.ag (zdj bb))] p n q seen (h.push x) (h.push (F h.vis (h.low++h.top.done) x bb).1) (F h.vis (h.low++h.top.done) x bb).2)
  (hxe:∀u∈s.eqs,∀x∈flat u.right,ExOk x) (hxu:∀t∈s.unl,∀x∈flat t.cond,ExOk x) (hxv:∀t∈s.unt,∀x∈flat t.cond,ExOk x):
  Sound Tryz.prog 242 [.ref 0 0,.i node,.ref h.id 0,.t (.ag (staC s))] (full p n q seen h)
   (Err (stS p seen node F h.vis (h.low++h.top.done) s).2 (.t (.sl 1 ((stS p seen node F h.vis (h.low++h.top.done) s).1.map T.s))) (zci n q (stS p seen node F h.vis (h.low++h.top.done) s).2) (full p n q seen h)):=by
 revert hn1 hn2 hk0 hF hau
 revert h
 refine Ch.lt fun h=>?_
 cases h
 case one=>intro g hn1;exact absurd rfl hn1
 case c4=>intro g hn1 hn2;exact absurd rfl hn2
 all_goals
  intro g hn1 hn2 hk0 hF hau
  clear hn1 hn2
  have pv:∀x,(g.push x).vis0=g.vis:=fun _=>rfl
  have pl:∀x,(g.push x).low=g.low++g.top.done:=fun _=>rfl
  have pt:∀x,(g.push x).top=x:=fun _=>rfl
  have pw:∀x,(g.push x).vis=g.vis++x.own:=fun _=>rfl
  have ps:∀x y,(g.push x).set y=g.push y:=fun _ _=>rfl
  have pn:∀x,(g.push x).N≠5:=fun _=>Nat.ne_of_beq_eq_false rfl
  have pm:∀x,8≤(g.push x).N:=fun x=>leB
  have hpush:∀x:Lv,x.ok->(g.push x).ok:=by
   first
   | exact fun x hx=>⟨hk0.1,hk0.2,hx⟩
   | exact fun x hx=>⟨hk0.1,hk0.2.1,hk0.2.2,hx⟩
   | exact fun x hx=>⟨hk0.1,hk0.2.1,hk0.2.2.1,hk0.2.2.2,hx⟩
  have hws:=zdK s
  have m1:(s.locals.map zaa).length=s.locals.length:=qaa _
  have m2:(s.eqs.map equT).length=s.eqs.length:=qaa _
  have m3:(s.autos.map zae).length=s.autos.length:=qaa _
  have b1:=zai zaa 3 s.locals
  have b2:=zai equT 7 s.eqs
  have b3:=zai zae 1 s.autos
  have hdT:(zac s.locals).w=(T.sl 3 (s.locals.map zaa)).w:=rfl
  have e1:=ztg equT 7 s.eqs
  have e2:=ztg zae 1 s.autos
  have ek1:=fun k=>zbH (fun u=>(equT u).w) s.eqs k
  have ek2:=fun k=>zbH (fun u=>(zae u).w) s.autos k
  have hz:(stS p seen node F g.vis (g.low++g.top.done) s).2=(stS p seen node F g.vis (g.low++g.top.done) s).2:=rfl
  conv at hz=>rhs;unfold stS
  have hz1:(stS p seen node F g.vis (g.low++g.top.done) s).1=(stS p seen node F g.vis (g.low++g.top.done) s).1:=rfl
  conv at hz1=>rhs;unfold stS
  simp only at hz hz1
  generalize stS p seen node F g.vis (g.low++g.top.done) s=Z at*
  unfold staC
  refine Sound.err rfl (fun _=>rfl) ?_
  refine so Tryz.func242 ?_
  refine TR.dead ?_
  repeat' (first|refine wkt ?_|(apply TO.zum (zqQ p n q seen g);(iterate 3 exact rfl);exact Les.refl _;apply TO.zkb 9 (g.N+2) 4;(iterate 3 exact rfl))|refine wk ?_|fail)
  refine TR.zal s.locals.length (fun k=>(zam (zbX seen g.vis) lv0 (s.locals.take k)).2=0/\(zam (zbX seen g.vis) lv0 (s.locals.take k)).1.ok/\(zam (zbX seen g.vis) lv0 (s.locals.take k)).1.defs=[]) (fun k=>[(0,.ref 0 0),(1,.i node),(2,.ref g.id 0),(7,.cp [.s s.name,zac s.locals,.sl 7 (s.eqs.map equT),.sl 1 (s.autos.map zae),.sl 8 (s.unl.map zah),.sl 8 (s.unt.map zah)] 0),(9,.ref (g.N+4) 0),(21,.t (zac s.locals)),(22,.i (s.locals.map zaa).length),(23,.i k)]) (fun k=>full p n q seen (g.push (zam (zbX seen g.vis) lv0 (s.locals.take k)).1)++[.cells [.ref (g.N+2) 0]]) ⟨rfl,⟨zaD.nil,zaD.nil⟩,rfl⟩ (fun k hlt ha=>?_) (fun ha=>?_)
  ·have hx:=zcQ hlt
   have hno:s.locals[k].name.length≤1000000000:=by have:=(za2 (qad hlt)).1;omega
   have hwd:(zac [s.locals[k]]).w≤1000000000:=by
    have:=zav (f:=zaa) (sz:=3) (qad hlt)
    rw[show zac [s.locals[k]]= .sl 3 [zaa s.locals[k]] from rfl,w_sl]
    simp only[qaj,qay,qao,qaI];omega
   have g1:=zcp (f:=zbX seen g.vis) hlt ha.1
   have g2:=zbe (f:=zbX seen g.vis) hlt ha.1
   obtain⟨ha1,ha2,ha3⟩:=ha
   generalize (zam (zbX seen g.vis) lv0 (s.locals.take k)).1=st at*
   generalize s.locals[k]=x at*
   have hs:=zfr p n q seen hse (g.push st) (hpush st ha2) [x] hwd
   simp only[pv,pt,ps,zp4]at hs
   have hok:(zbX seen g.vis st x).1.ok:=ha2.zgs hno
   have hdf:(zbX seen g.vis st x).1.defs=[]:=ha3
   generalize zbX seen g.vis st x=fx at*
   rw[show zac [x]= .sl 3 [.ag (zeR x)] from rfl]at hs
   unfold zeR at hx hs
   clear hau hF
   repeat' (first|refine wkt ?_|refine wka ?_|refine wkD ?_|refine wk ?_|exact wkc|intro hc|refine wk2 ?_ ?_|refine wsx ?_|refine wms ?_|refine wsy ?_ ?_|refine wss hs ?_ ?_|fail)
   ·refine zab.zat hlt ⟨by rw[g2];exact hc,by rw[g2];exact hok,by rw[g2];exact hdf⟩ ?_ (by rw[g2];rfl)
    repeat' (first|exact trivial|refine qaf rfl ?_|fail)
   ·((repeat' (first|refine zab.panic ?_|refine wk ?_|fail));apply retS;(first|assumption|decide);(clear hs hx;first|grind|grind [orE]);(first|exact leB|exact Nat.le_refl _|(simp[Ch.len];done)|(simp[Ch.len];omega)))
  obtain⟨hd1,hd2,hd3⟩:=ha
  rw[qah]at hd1 hd2 hd3
  rw[qah]
  rw[hd1]at hz
  generalize hL1:(zam (zbX seen g.vis) lv0 s.locals).1=L1 at*
  have hsm:=zif p n q seen (g.push L1) (hpush L1 hd2) s.locals (by omega)
  simp only[pw]at hsm
  repeat' (first|refine wkt ?_|refine wka ?_|refine wkD ?_|refine wk ?_|exact wkc|intro hc|refine wk2 ?_ ?_|refine wsx ?_|refine wms ?_|refine wsy ?_ ?_|refine wss hsm ?_ ?_|fail)
  all_goals first
   | ((repeat' (first|refine zab.panic ?_|refine wk ?_|fail));apply retS;(first|assumption|decide);(clear hsm hau hF;first|grind|grind [orE]);(first|exact leB|exact Nat.le_refl _|(simp[Ch.len];done)|(simp[Ch.len];omega)))
   | skip
  clear hsm
  have G1:Good L1.own 0 L1:=⟨hd2,rfl,by rw[hd3];exact qag _,by rw[hd3];simp⟩
  have ge:=fun k hz=>zeF (f:=equS p seen node g.vis (g.low++g.top.done)) (G:=Good L1.own) (w:=fun u=>(equT u).w) s.eqs (fun B a x hx h hz=>zjN (by have:=zav (f:=equT) (sz:=7) hx;omega) h hz) 0 L1 G1 (k:=k) hz
  refine TR.zal s.eqs.length (fun k=>(zam (equS p seen node g.vis (g.low++g.top.done)) L1 (s.eqs.take k)).2=0) (fun k=>[(0,.ref 0 0),(1,.i node),(2,.ref g.id 0),(7,.cp [.s s.name,zac s.locals,.sl 7 (s.eqs.map equT),.sl 1 (s.autos.map zae),.sl 8 (s.unl.map zah),.sl 8 (s.unt.map zah)] 0),(9,.ref (g.N+4) 0),(39,.t (.sl 7 (s.eqs.map equT))),(40,.i (s.eqs.map equT).length),(41,.i k)]) (fun k=>full p n q seen (g.push (zam (equS p seen node g.vis (g.low++g.top.done)) L1 (s.eqs.take k)).1)++[.cells [.ref (g.N+2) 0]]) rfl (fun k hlt ha=>?_) (fun ha=>?_)
  ·have hx:=ziZ hlt
   have g1:=zcp (f:=equS p seen node g.vis (g.low++g.top.done)) hlt ha
   have g2:=zbe (f:=equS p seen node g.vis (g.low++g.top.done)) hlt ha
   have hwu:(equT s.eqs[k]).w≤1000000000:=by have:=zav (f:=equT) (sz:=7) (qad hlt);omega
   have gk:=ge k ha
   have gk2:=ek1 k
   have hxk:=hxe _ (qad hlt)
   have hlw:=zda (q:=s.eqs[k])
   generalize (zam (equS p seen node g.vis (g.low++g.top.done)) L1 (s.eqs.take k)).1=st at*
   generalize s.eqs[k]=x at*
   have hs:=zk0 p hp n q seen hse hsn node (g.push st) (pn st) (hpush st gk.ok) x hwu (by have:=gk.len;simp only[pt];omega) hxk
   simp only[pv,pl,pt,ps]at hs
   generalize equS p seen node g.vis (g.low++g.top.done) st x=fx at*
   unfold equC at hx hs
   clear hau hF ge
   repeat' (first|refine wkt ?_|refine wka ?_|refine wkD ?_|refine wk ?_|exact wkc|intro hc|refine wk2 ?_ ?_|refine wsx ?_|refine wms ?_|refine wsy ?_ ?_|refine wss hs ?_ ?_|fail)
   ·exact zwcu
   ·((repeat' (first|refine zab.panic ?_|refine wk ?_|fail));apply retS;(first|assumption|decide);(clear hs hx;first|grind|grind [orE]);(first|exact leB|exact Nat.le_refl _|(simp[Ch.len];done)|(simp[Ch.len];omega)))
  have ge1:=ge s.eqs.length ha
  rw[qah]at ha ge1
  rw[qah]
  rw[ha]at hz
  generalize (zam (equS p seen node g.vis (g.low++g.top.done)) L1 s.eqs).1=L2 at*
  clear ge
  refine wk ?_
  repeat' (first|refine wu ?_|exact wkc|intro hc|refine wk2 ?_ ?_|fail)
  have ga:=fun k hz=>zeF (f:=F g.vis (g.low++g.top.done)) (G:=Good L1.own) (w:=fun b=>(zae b).w) s.autos (fun B a x hx h hz=>hF _ B a x hx h hz) _ L2 ge1 (k:=k) hz
  refine TR.zal s.autos.length (fun k=>(zam (F g.vis (g.low++g.top.done)) L2 (s.autos.take k)).2=0) (fun k=>[(0,.ref 0 0),(1,.i node),(2,.ref g.id 0),(7,.cp [.s s.name,zac s.locals,.sl 7 (s.eqs.map equT),.sl 1 (s.autos.map zae),.sl 8 (s.unl.map zah),.sl 8 (s.unt.map zah)] 0),(9,.ref (g.N+4) 0),(52,.t (.sl 1 (s.autos.map zae))),(53,.i (s.autos.map zae).length),(54,.i k)]) (fun k=>full p n q seen (g.push (zam (F g.vis (g.low++g.top.done)) L2 (s.autos.take k)).1)++[.cells [.ref (g.N+2) 0]]) rfl (fun k hlt ha=>?_) (fun ha=>?_)
  ·have hx:=zhn hlt
   have g1:=zcp (f:=F g.vis (g.low++g.top.done)) hlt ha
   have g2:=zbe (f:=F g.vis (g.low++g.top.done)) hlt ha
   have gk:=ga k ha
   have gk2:=ek2 k
   have gk3:=zbH (fun u=>(equT u).w) s.eqs s.eqs.length
   generalize (zam (F g.vis (g.low++g.top.done)) L2 (s.autos.take k)).1=st at*
   have hs:=hau _ (qad hlt) st gk.ok (by have:=gk.len;omega) gk.short
   generalize s.autos[k]=x at*
   generalize F g.vis (g.low++g.top.done) st x=fx at*
   unfold zdj at hx hs
   clear hau hF ga
   repeat' (first|refine wkt ?_|refine wka ?_|refine wkD ?_|refine wk ?_|exact wkc|intro hc|refine wk2 ?_ ?_|refine wsx ?_|refine wms ?_|refine wsy ?_ ?_|refine wss hs ?_ ?_|fail)
   ·exact zwcu
   ·((repeat' (first|refine zab.panic ?_|refine wk ?_|fail));apply retS;(first|assumption|decide);(clear hs hx;first|grind|grind [orE]);(first|exact leB|exact Nat.le_refl _|(simp[Ch.len];done)|(simp[Ch.len];omega)))
  have ga1:=ga s.autos.length ha
  rw[qah]at ha ga1
  rw[qah]
  rw[ha]at hz
  have gk2:=ek2 s.autos.length
  have gk3:=zbH (fun u=>(equT u).w) s.eqs s.eqs.length
  rw[qah]at gk2 gk3
  generalize (zam (F g.vis (g.low++g.top.done)) L2 s.autos).1=L3 at*
  clear ga hau hF
  refine wk ?_
  repeat' (first|refine wu ?_|exact wkc|intro hc|refine wk2 ?_ ?_|fail)
  have hcu:=zi7 p hp n q seen hse hsn node g hk0 s.unl (by omega) hxu
  have hcv:=zi7 p hp n q seen hse hsn node (g.push L3) (hpush L3 ga1.ok) s.unt (by omega) hxv
  simp only[pw]at hcv
  repeat' (first|refine wkt ?_|refine wka ?_|refine wkD ?_|refine wk ?_|exact wkc|intro hc|refine wk2 ?_ ?_|refine wsx ?_|refine wms ?_|refine wsy ?_ ?_|refine wss hcu ?_ ?_|refine wss hcv ?_ ?_|fail)
  all_goals first
   | ((repeat' (first|refine zab.panic ?_|refine wk ?_|fail));apply retS;(first|assumption|decide);(clear hcu hcv;first|grind|grind [orE]);(first|exact leB|exact Nat.le_refl _|(simp[Ch.len];done)|(simp[Ch.len];omega)))
   | skip
  clear hcu hcv
  refine TR.zal s.locals.length (fun k=>zaf (fun d:Decl=>if d.name∈L3.done then 0 else 8) (s.locals.take k)=0) (fun k=>[(0,.ref 0 0),(1,.i node),(2,.ref g.id 0),(7,.cp [.s s.name,zac s.locals,.sl 7 (s.eqs.map equT),.sl 1 (s.autos.map zae),.sl 8 (s.unl.map zah),.sl 8 (s.unt.map zah)] 0),(9,.ref (g.N+4) 0),(77,.t (zac s.locals)),(78,.i (s.locals.map zaa).length),(79,.i k)]) (fun k=>full p n q seen (g.push L3)++[.cells [.ref (g.N+2) 0]]) rfl (fun k hlt ha=>?_) (fun ha=>?_)
  ·have hx:=zcQ hlt
   have hno:s.locals[k].name.length≤1000000000:=by have:=(za2 (qad hlt)).1;omega
   have g1:=zaF (f:=fun d:Decl=>if d.name∈L3.done then 0 else 8) hlt ha
   have g2:=zaq (f:=fun d:Decl=>if d.name∈L3.done then 0 else 8) hlt ha
   have hdn:=ga1.ok.done
   generalize s.locals[k]=x at*
   unfold zeR at hx
   repeat' (first|refine wkt ?_|refine wka ?_|refine wkD ?_|refine wk ?_|exact wkc|intro hc|refine wk2 ?_ ?_|refine wsx ?_|refine wms ?_|refine wsy ?_ ?_|fail)
   ·exact zab.zat hlt (g2 (by rw[if_pos hc]))
   ·((repeat' (first|refine zab.panic ?_|refine wk ?_|fail));apply retS;(first|assumption|decide);(clear hx;first|grind|grind [orE]);(first|exact leB|exact Nat.le_refl _|(simp[Ch.len];done)|(simp[Ch.len];omega)))
  have el:=zaH ha
  rw[el]at hz
  refine wk ?_
  repeat' (first|refine wu ?_|exact wkc|intro hc|refine wk2 ?_ ?_|fail)
  have hz2:Z.2=0:=by rw[hz];simp only[orE];grind
  have hdl:=ga1.len
  have hsh:=ga1.short
  have hown:=ga1.ok.own
  obtain⟨z1,z2⟩:=Z
  simp only at hz1 hz2
  subst hz1 hz2
  by_cases hnil:L3.defs=[]
  ·have hk:zbE L3.own L3.defs=[]:=by rw[hnil];rfl
   have hr:(L3.defs.map T.s)=[]:=by rw[hnil];rfl
   rw[hk]
   refine TO.zvU 96 1 (R:=g.N+3) (e:=9) ?_ ?_ ?_
   ·show some (SV.rw (g.N+3) (L3.defs.map T.s).length)=_
    rw[hr];rfl
   ·show some (Blk.row 9 (L3.defs.map T.s))=_
    rw[hr]
   repeat' (first|refine wu ?_|exact wkc|intro hc|refine wk2 ?_ ?_|(apply TO.zeQ zsC;(iterate 3 exact rfl);exact⟨Le.refl _,Le.any _,trivial⟩;exact rfl;exact rfl)|fail)
   exact zvT rfl rfl (Le.refl _) rfl rfl rfl rfl rfl
  ·have hml:(L3.defs.map T.s).length=L3.defs.length:=qaa _
   have hdel:=zp6 p n q seen (g.push L3) (pm L3) (by rw[pt];exact hown) L3.defs (by omega) hsh
   rw[<-hml]at hdel
   simp only[pt]at hdel
   refine TO.fix 96 (R:=g.N+3) (e:=9) (ts:=L3.defs.map T.s) rfl rfl rfl (by rw[hml];exact List.length_pos_iff.2 hnil) rfl ?_
   have hkl:=zdY L3.own L3.defs
   have hlen2:((zbE L3.own L3.defs).map T.s).length=(zbE L3.own L3.defs).length:=qaa _
   refine TO.zaE (g.N+6) hdel rfl rfl rfl (Les.refl _) rfl rfl rfl (ziz rfl _) rfl rfl (ziz rfl _) (za6 _) ?_
   refine TO.zjU 98 1 (g.N+5) (zbE L3.own L3.defs).length (es:=(zbE L3.own L3.defs).map T.s) rfl rfl ?_ ?_ hlen2.symm (fun e he=>by obtain⟨x,_,rfl⟩:=qa4.1 he;rfl) rfl rfl ?_
   ·simp only[qaa,qae,qb7];omega
   ·intro j c hj
    have hfl:((zbE L3.own L3.defs).map T.s).map T.cells=((zbE L3.own L3.defs).map T.s).map fun t=>[t]:=by
     rw[qbp,qbp];rfl
    have hfl2:∀l:List T,(l.map fun t=>[t]).flatten=l:=by
     intro l
     induction l with
     | nil=>rfl
     | cons a l ih=>simp[ih]
    rw[hfl,hfl2]at hj
    rw[qal,qal,qaq (qab.1 hj).1]
    exact hj
   repeat' (first|refine wu ?_|exact wkc|intro hc|refine wk2 ?_ ?_|fail)
   exact zvT rfl rfl (Le.refl _) rfl rfl rfl rfl rfl
theorem zf3:∀(a b pre:List Str),dupE pre (a++b)=if dupE pre a=0 then dupE (pre++a) b else dupE pre a
 | [],b,pre=>by simp[dupE]
 | s::a,b,pre=>by
   simp only[qbt,dupE]
   by_cases h:s∈pre
   ·simp[h]
   ·simp only[h,if_false]
    rw[zf3 a b (pre++[s])]
    simp
theorem zsE{l:List Str}{k:Nat}(hk:k<l.length)(h:dupE [] (l.take k)=0)(hn:l[k] ∉ l.take k):dupE [] (l.take (k+1))=0:=by
 rw[qaA hk,zf3,if_pos h,qa1,dupE,if_neg hn];rfl
theorem zuv{l:List Str}{k:Nat}(hk:k<l.length)(h:dupE [] (l.take k)=0)(hn:l[k]∈l.take k):dupE [] l=7:=by
 conv=>lhs;rw[<-qaS k l]
 rw[zf3,if_pos h,qbl hk,qa1,dupE,if_pos hn]
theorem zc6{l:List (List Str×Int)}{k:Nat}(h:0<k):zaO (l.take k)=zaO l:=by
 cases l with
 | nil=>simp[zaO]
 | cons x l=>
   obtain⟨k,rfl⟩:∃j,k=j+1:=⟨k-1,by omega⟩
   simp[zaO]
theorem zrz{l:List (List Str×Int)}{k:Nat}(hk:k<l.length):zcF (l.take (k+1))=(zcF (l.take k) && znv l[k].1 (zaO (l.take (k+1)))):=by
 unfold zcF
 rw[zc6 (qcR k),qaA hk,qbI]
 cases k with
 | zero=>simp
 | succ k=>rw[zc6 (qcR k)];simp
theorem zpp(l:List Sta)(x:Sta):(l.any fun y=>y.name == x.name)=decide (x.name∈l.map Sta.name):=by
 rw[Bool.eq_iff_iff]
 simp only[qcy,decide_eq_true_eq,qa4,beq_iff_eq]
set_option maxHeartbeats 4000000 in
theorem zsm (p:Prog) (n q:Int) (seen:List (Int×Str×Int)) (node:Int) (h:Ch) (hn1:h.N≠5) (hk0:h.ok) (hdl:h.top.defs.length≤1000000000) (F:List Str->List Str->Lv->Auto->Lv×Int) (au:Auto) (hw:(zae au).w≤1000000000)
  (hst:∀s∈au.states,Sound Tryz.prog 242 [.ref 0 0,.i node,.ref h.id 0,.t (.ag (staC s))] (full p n q seen h) (Err (stS p seen node F h.vis (h.low++h.top.done) s).2 (.t (.sl 1 ((stS p seen node F h.vis (h.low++h.top.done) s).1.map T.s))) (zci n q (stS p seen node F h.vis (h.low++h.top.done) s).2) (full p n q seen h)))
  (hgood:∀s∈au.states,(stS p seen node F h.vis (h.low++h.top.done) s).2=0->(stS p seen node F h.vis (h.low++h.top.done) s).1.length≤1000000000/\∀x∈(stS p seen node F h.vis (h.low++h.top.done) s).1,x.length≤1000000000):
  SS 162 [.i node,.ref h.id 0,.t (.ag (zdj au))] p n q seen h (h.set ⟨h.top.own,(zaO (au.states.map (stS p seen node F h.vis (h.low++h.top.done)))).foldl ins h.top.done,h.top.defs++zaO (au.states.map (stS p seen node F h.vis (h.low++h.top.done)))⟩)
   (orE (dupE [] (au.states.map Sta.name)) (orE (zaf Prod.snd (au.states.map (stS p seen node F h.vis (h.low++h.top.done)))) (if zcF (au.states.map (stS p seen node F h.vis (h.low++h.top.done)))=true then 0 else 8))):=by
 have hset:=fun{x:Lv} (hx:x.ok)=>Ch.zrn hk0 hx
 have ht0:=Ch.zro hk0
 clear hk0
 revert hn1 hset ht0 hdl hst hgood
 revert h
 refine Ch.lt fun h=>?_
 cases h
 case one=>intro g hn1;exact absurd rfl hn1
 all_goals
  intro g hn1 hdl hst hgood hset ht0
  clear hn1
  have hwa:=zbJ au
  have hlb:au.states.length≤1000000000:=by have:=zai staT 6 au.states;omega
  clear hwa hw
  unfold zdj
  generalize au.states=l at*
  have hml:(l.map staT).length=l.length:=qaa _
  have hrl:(l.map (stS p seen node F g.vis (g.low++g.top.done))).length=l.length:=qaa _
  have hnl:(l.map Sta.name).length=l.length:=qaa _
  have hz:orE (dupE [] (l.map Sta.name)) (orE (zaf Prod.snd (l.map (stS p seen node F g.vis (g.low++g.top.done)))) (if zcF (l.map (stS p seen node F g.vis (g.low++g.top.done)))=true then 0 else 8))=orE (dupE [] (l.map Sta.name)) (orE (zaf Prod.snd (l.map (stS p seen node F g.vis (g.low++g.top.done)))) (if zcF (l.map (stS p seen node F g.vis (g.low++g.top.done)))=true then 0 else 8)):=rfl
  conv at hz=>rhs;simp only[orE]
  generalize hzz:orE (dupE [] (l.map Sta.name)) (orE (zaf Prod.snd (l.map (stS p seen node F g.vis (g.low++g.top.done)))) (if zcF (l.map (stS p seen node F g.vis (g.low++g.top.done)))=true then 0 else 8))=z at hz⊢
  clear hzz
  refine Sound.err rfl (fun _=>rfl) ?_
  refine so Tryz.func162 ?_
  refine TR.dead ?_
  repeat' (first|refine wu ?_|exact wkc|intro hc|refine wk2 ?_ ?_|fail)
  refine TR.zal l.length (fun k=>dupE [] ((l.map Sta.name).take k)=0) (fun k=>[(0,.ref 0 0),(1,.i node),(2,.ref g.id 0),(7,.cp [.sl 6 (l.map staT)] 0),(18,.t (.sl 6 (l.map staT))),(19,.i (l.map staT).length),(20,.i k)]) (fun _=>full p n q seen g) rfl (fun k hlt ha=>?_) (fun ha=>?_)
  ·have hx:=znD hlt
   have hkn:k<(l.map Sta.name).length:=by omega
   have hcon:=ziA 241 [.cp (staC l[k]) 0] rfl (fun y=>y.name == l[k].name) (l.take k) (by simp;omega) (fun y=>ziP y l[k])
   rw[zpp,qb0,qb0]at hcon
   have g1:=zsE hkn ha
   have g2:=zuv hkn ha
   rw[List.getElem_map]at g1 g2
   generalize l[k]=x at*
   unfold staC at hx hcon
   clear hst hgood
   by_cases hm:x.name∈(l.map Sta.name).take k
   ·rw[decide_eq_true hm]at hcon
    repeat' (first|refine wkt ?_|refine wka ?_|refine wkD ?_|refine wk ?_|exact wkc|intro hc|refine wk2 ?_ ?_|refine wsx ?_|refine wms ?_|refine wsy ?_ ?_|(apply TO.zeM zag;(iterate 5 exact rfl);omega)|(apply TO.zeQ hcon;(iterate 3 exact rfl);exact Les.refl _;exact rfl;exact rfl)|fail)
    (repeat' (first|refine zab.panic ?_|refine wk ?_|fail));apply retS
    ·decide
    ·rw[hz,g2 hm];rfl
    ·exact leB
   ·rw[decide_eq_false hm]at hcon
    repeat' (first|refine wkt ?_|refine wka ?_|refine wkD ?_|refine wk ?_|exact wkc|intro hc|refine wk2 ?_ ?_|refine wsx ?_|refine wms ?_|refine wsy ?_ ?_|(apply TO.zeM zag;(iterate 5 exact rfl);omega)|(apply TO.zeQ hcon;(iterate 3 exact rfl);exact Les.refl _;exact rfl;exact rfl)|fail)
    exact zab.zat hlt (g1 hm)
  have ed:dupE [] (l.map Sta.name)=0:=by rw[<-hnl,qah]at ha;exact ha
  rw[ed]at hz
  refine wk ?_
  repeat' (first|refine wu ?_|exact wkc|intro hc|refine wk2 ?_ ?_|fail)
  refine TR.less 10 (v':=.t (.sl 1 [])) rfl (Le.nil 1) ?_
  have hgd:∀k (hk:k<l.length) r,(l.map (stS p seen node F g.vis (g.low++g.top.done)))[k]?=some r->stS p seen node F g.vis (g.low++g.top.done) l[k]=r:=fun k hk r hr=>by
   rw[qau,qac hk]at hr
   exact qco hr
  have hf1:zaf Prod.snd (l.map (stS p seen node F g.vis (g.low++g.top.done)))=0->(zaO (l.map (stS p seen node F g.vis (g.low++g.top.done)))).length≤1000000000/\∀x∈zaO (l.map (stS p seen node F g.vis (g.low++g.top.done))),x.length≤1000000000:=by
   intro h0
   cases l with
   | nil=>exact⟨by simp[zaO],by simp[zaO]⟩
   | cons s r=>
     have:(stS p seen node F g.vis (g.low++g.top.done) s).2=0:=by
      rw[qaj,zaf]at h0
      split at h0
      ·assumption
      ·exact h0
     exact hgood s (by simp) this
  have hrg:∀k (hk:k<l.length),((stS p seen node F g.vis (g.low++g.top.done) l[k])).2=0->(stS p seen node F g.vis (g.low++g.top.done) l[k]).1.length≤1000000000:=fun k hk h0=>(hgood _ (qad hk) h0).1
  have hss:∀k (hk:k<l.length),Sound Tryz.prog 242 [.ref 0 0,.i node,.ref g.id 0,.t (.ag (staC l[k]))] (full p n q seen g) (Err (stS p seen node F g.vis (g.low++g.top.done) l[k]).2 (.t (.sl 1 ((stS p seen node F g.vis (g.low++g.top.done) l[k]).1.map T.s))) (zci n q (stS p seen node F g.vis (g.low++g.top.done) l[k]).2) (full p n q seen g)):=fun k hk=>hst _ (qad hk)
  have hfl0:∀k,0<k->zaf Prod.snd ((l.map (stS p seen node F g.vis (g.low++g.top.done))).take k)=0->(zaO ((l.map (stS p seen node F g.vis (g.low++g.top.done))).take k)).length≤1000000000:=by
   intro k hk h0
   cases l with
   | nil=>simp[zaO]
   | cons s r=>
     obtain⟨k,rfl⟩:∃j,k=j+1:=⟨k-1,by omega⟩
     have:(stS p seen node F g.vis (g.low++g.top.done) s).2=0:=by
      rw[qaj,qaM,zaf]at h0
      split at h0
      ·assumption
      ·exact h0
     exact(hgood s (by simp) this).1
  clear hst hgood
  generalize hrs:l.map (stS p seen node F g.vis (g.low++g.top.done))=rs at*
  refine TR.zal l.length (fun k=>zaf Prod.snd (rs.take k)=0) (fun k=>[(0,.ref 0 0),(1,.i node),(2,.ref g.id 0),(7,.cp [.sl 6 (l.map staT)] 0),(10,.t (.sl 1 ((zaO (rs.take k)).map T.s))),(11,.b (zcF (rs.take k))),(36,.t (.sl 6 (l.map staT))),(37,.i (l.map staT).length),(38,.i k)]) (fun _=>full p n q seen g) rfl (fun k hlt ha=>?_) (fun ha=>?_)
  ·have hx:=znD hlt
   have hkr:k<rs.length:=by omega
   have g1:=zaF (f:=Prod.snd) hkr ha
   have g2:=zaq (f:=Prod.snd) hkr ha
   have g3:=zrz hkr
   have hs:=hss k hlt
   have hg:=hrg k hlt
   rw[hgd k hlt _ (qac hkr)]at hs hg
   have hfk:=hfl0 k
   have hfk1:k=0->zaO (rs.take (k+1))=rs[k].1:=fun h0=>by
    subst h0
    cases rs with
    | nil=>simp at hkr
    | cons r rr=>rfl
   have hfk2:k≠0->zaO (rs.take (k+1))=zaO (rs.take k):=fun h0=>by rw[zc6 (qcR k),zc6 (by omega)]
   clear hss hrg hgd hfl0
   generalize rs[k]=r at*
   generalize l[k]=x at*
   generalize zaO (rs.take k)=fs at*
   generalize hfs1:zaO (rs.take (k+1))=fs1 at*
   obtain⟨r1,r2⟩:=r
   simp only at hs hg g1 g2 g3 hfk1
   by_cases hr2:r2=0
   ·subst hr2
    have hrl1:=hg rfl
    have hal:=zl0 r1 fs1 hrl1 (by
     by_cases h0:k=0
     ·rw[hfk1 h0];exact hrl1
     ·rw[hfk2 h0];exact hfk (by omega) ha)
    unfold staC at hx hs
    generalize zcF (rs.take k)=sm at*
    by_cases h0:k=0
    ·have hf:=hfk1 h0
     exact zwi
    ·have hf:=hfk2 h0
     exact zwi
   ·unfold staC at hx hs
    repeat' (first|refine wkt ?_|refine wka ?_|refine wkD ?_|refine wk ?_|exact wkc|intro hc|refine wk2 ?_ ?_|refine wsx ?_|refine wms ?_|refine wsy ?_ ?_|refine wss hs ?_ ?_|fail)
    all_goals first
     | exact absurd hc hr2
     | ((repeat' (first|refine zab.panic ?_|refine wk ?_|fail));apply retS;(first|assumption|decide);(clear hs hx;first|grind|grind [orE]);(first|exact leB|exact Nat.le_refl _|(simp[Ch.len];done)|(simp[Ch.len];omega)))
  have e1:zaf Prod.snd rs=0:=by rw[<-hrl,qah]at ha;exact ha
  rw[<-hrl,qah]
  rw[e1]at hz
  obtain⟨hfl,hfs⟩:=hf1 e1
  clear hss hrg hgd hfl0 hf1
  generalize zaO rs=fs at*
  generalize zcF rs=sm at*
  clear hrs
  cases sm
  ·repeat' (first|refine wkt ?_|refine wka ?_|refine wkD ?_|refine wk ?_|exact wkc|intro hc|refine wk2 ?_ ?_|refine wsx ?_|refine wms ?_|refine wsy ?_ ?_|fail)
   all_goals((repeat' (first|refine zab.panic ?_|refine wk ?_|fail));apply retS;(first|assumption|decide);(clear hml;first|grind|grind [orE]);(first|exact leB|exact Nat.le_refl _|(simp[Ch.len];done)|(simp[Ch.len];omega)))
  ·rw[if_pos rfl]at hz
   repeat' (first|refine wkt ?_|refine wka ?_|refine wkD ?_|refine wk ?_|exact wkc|intro hc|refine wk2 ?_ ?_|refine wsx ?_|refine wms ?_|refine wsy ?_ ?_|fail)
   have hml2:(fs.map T.s).length=fs.length:=qaa _
   have hins:∀(l:List Str) (d:List Str),zaD d->(∀x∈l,x.length≤1000000000)->zaD (l.foldl ins d):=by
    exact zwcg
   refine TR.zal fs.length (fun _=>True) (fun k=>[(0,.ref 0 0),(1,.i node),(2,.ref g.id 0),(7,.cp [.sl 6 (l.map staT)] 0),(10,.t (.sl 1 (fs.map T.s))),(61,.t (.sl 1 (fs.map T.s))),(62,.i (fs.map T.s).length),(63,.i k)]) (fun k=>full p n q seen (g.set ⟨g.top.own,(fs.take k).foldl ins g.top.done,g.top.defs⟩)) trivial (fun k hlt _=>?_) (fun _=>?_)
   ·have hx:=at_s hlt
    have hno:=hfs _ (qad hlt)
    have hdn:=hins (fs.take k) g.top.done ht0.done (fun x hx=>hfs x (qaR hx))
    have g2:(fs.take (k+1)).foldl ins g.top.done=ins ((fs.take k).foldl ins g.top.done) fs[k]:=by rw[qaA hlt,qbm];rfl
    generalize (fs.take k).foldl ins g.top.done=dn at*
    generalize fs[k]=x at*
    repeat' (first|refine wkt ?_|refine wka ?_|refine wkD ?_|refine wk ?_|exact wkc|intro hc|refine wk2 ?_ ?_|refine wsx ?_|refine wms ?_|refine wsy ?_ ?_|fail)
    refine zab.zat hlt trivial ?_ (by rw[g2];rfl)
    repeat' (first|exact trivial|refine qaf rfl ?_|fail)
   ·rw[qah]
    have hl1:(g.top.defs.map T.s).length=g.top.defs.length:=qaa _
    have hma:(g.top.defs++fs).map T.s=g.top.defs.map T.s++fs.map T.s:=qal
    generalize fs.foldl ins g.top.done=dn at*
    have hone:(fs.map T.s).all T.one=true:=by simp[T.one]
    repeat' (first|refine wkt ?_|refine wka ?_|refine wkD ?_|refine wk ?_|exact wkc|intro hc|refine wk2 ?_ ?_|refine wsx ?_|refine wms ?_|refine wsy ?_ ?_|(apply TO.ziW zag;(iterate 9 exact rfl);(exact qbr _);exact rfl;exact rfl;exact hone;exact rfl;(show(g.top.defs.map T.s).length+(fs.map T.s).length≤_;omega);exact rfl)|fail)
    refine zlD (H1:=full p n q seen (g.set ⟨g.top.own,dn,g.top.defs++fs⟩)) hz rfl rfl ?_ rfl
    show _=full p n q seen (g.set ⟨g.top.own,dn,g.top.defs++fs⟩)
    simp only[g,full,Ch.set,Ch.top,Ch.heap,nmB,rowB,qal]
    rfl
end Go.Proofs.YtpnnpgbaiobbjaaGreatDoor
