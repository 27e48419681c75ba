import Derived.Test.YtpfnfpaahefdaaaGreatPk29
set_option linter.all false
namespace Go.Proofs.YtpfnfpaahefdaaaGreat
open Go Go.TL
attribute [local irreducible] TR TO Then zab RetK Sound zac Kf GG za2
def rowsOf:List Sta->List (List Tran)
 | []=>[]
 | s::ss=>s.unl::s.unt::rowsOf ss
theorem zdl:∀ss:List Sta,(rowsOf ss).length=2*ss.length
 | []=>rfl
 | s::ss=>by rw[rowsOf,qac,qac,zdl ss,qac];omega
theorem zd5:∀(ss:List Sta) (s:Sta),rowsOf (ss++[s])=rowsOf ss++[s.unl,s.unt]
 | [],s=>rfl
 | x::ss,s=>by rw[qbc,rowsOf,zd5 ss s,rowsOf];rfl
def rR(R:List (List Tran))(k:Nat):Blk:=match R[k]? with
 | some u=>rowB u.length ((trCs u).map .t)
 | none=>.dead
theorem ze3{R:List (List Tran)}{k:Nat}{u:List Tran}(h:R[k]?=some u):rR R k=rowB u.length ((trCs u).map .t):=by unfold rR;rw[h]
theorem zq2(r:Nat->Nat)(R:List (List Tran))(k:Nat):(rR R k).ren r=rR R k:=by
 unfold rR
 split
 ·exact zc4 _ _ _
 ·rfl
theorem zor(N:Nat)(R:List (List Tran))(k:Nat):(rR R k).under N=true:=by
 unfold rR
 split
 ·exact zcJ _ _ _
 ·rfl
theorem zpS{R S:List (List Tran)}{k:Nat}(h:k<R.length):rR (R++S) k=rR R k:=by
 unfold rR;rw[qao h]
theorem zm7{R:List (List Tran)}{k:Nat}(h:R.length≤k):rR R k= .dead:=by
 unfold rR;rw[qaG h]
def stCs(h:Nat->Nat):Nat->List Sta->List SV
 | _,[]=>[]
 | k,s::ss=>.s s.name:: .t (.sl 3 (s.locals.map zag)):: .t (.sl 7 (s.eqs.map equT)):: .t (.sl 1 (s.autos.map zaG))::rowV 8 s.unl.length (h (2*k))::rowV 8 s.unt.length (h (2*k+1))::stCs h (k+1) ss
theorem zkR(h:Nat->Nat):∀(k:Nat) (ss:List Sta),(stCs h k ss).length=ss.length*6
 | _,[]=>rfl
 | k,s::ss=>by
   have:=zkR h (k+1) ss
   simp only[stCs,qac,this];omega
theorem zkQ(h:Nat->Nat):∀(k:Nat) (ss:List Sta) (s:Sta),stCs h k (ss++[s])=stCs h k ss++stCs h (k+ss.length) [s]
 | k,[],s=>rfl
 | k,x::ss,s=>by
   rw[qbc,stCs,zkQ h (k+1) ss s,stCs,qac,show k+1+ss.length=k+(ss.length+1) by omega];rfl
theorem zkS(r h:Nat->Nat):∀(k:Nat) (ss:List Sta),rens r (stCs h k ss)=stCs (fun i=>r (h i)) k ss
 | _,[]=>rfl
 | k,s::ss=>by
   simp only[stCs,rens,SV.ren,zcE,zkS r h (k+1) ss]
theorem zhn{h h':Nat->Nat}:∀(k:Nat) (ss:List Sta),(∀i,2*k≤i->i<2*(k+ss.length)->h i=h' i)->stCs h k ss=stCs h' k ss
 | _,[],_=>rfl
 | k,s::ss,hh=>by
   rw[stCs,stCs,hh (2*k) (by omega) (by rw[qac];omega),hh (2*k+1) (by omega) (by rw[qac];omega),zhn (k+1) ss fun i h1 h2=>hh i (by omega) (by rw[qac];omega)]
theorem zho{h:Nat->Nat}{N:Nat}:∀(k:Nat) (ss:List Sta),(∀i,2*k≤i->i<2*(k+ss.length)->h i<N)->unders N (stCs h k ss)=true
 | _,[],_=>rfl
 | k,s::ss,hh=>by
   have h1:=zbS (sz:=8) (n:=s.unl.length) (hh (2*k) (by omega) (by rw[qac];omega))
   have h2:=zbS (sz:=8) (n:=s.unt.length) (hh (2*k+1) (by omega) (by rw[qac];omega))
   have h3:=zho (k+1) ss fun i h1 h2=>hh i (by omega) (by rw[qac];omega)
   simp only[stCs,unders,h1,h2,h3,SV.under,qba]
def rI(n0 k:Nat):Nat:=if k=2*n0 then 23 else if k=2*n0+1 then 25 else 5+k
def idsA(n0:Nat):List Nat:=0::1::2::3::27::(List.range 16).map (rI n0)
theorem zlw{n0:Nat}(h:n0<8):(idsA n0).Nodup:=by
 rcases(by omega:n0=0\/n0=1\/n0=2\/n0=3\/n0=4\/n0=5\/n0=6\/n0=7)with rfl|rfl|rfl|rfl|rfl|rfl|rfl|rfl <;> decide
theorem zge(n0 N:Nat){k:Nat}(h:k<16):names (idsA n0) N (5+k)=rI n0 k:=by
 refine Go.TL.zbs ?_
 rw[show 5+k=k+1+1+1+1+1 by omega]
 show((List.range 16).map (rI n0))[k]?=_
 rw[qar,qbY h];rfl
theorem zdG.map{H:Heap}{r:Nat->Nat}{g:Nat->Nat}{f:Nat->Blk}:∀(l:List Nat),(∀k∈l,H[g k]?=some ((f k).ren r))->zdG H r (l.map g) (l.map f)
 | [],_=>trivial
 | a::l,h=>⟨h a qaC,zdG.map l fun k hk=>h k (qaA _ hk)⟩
theorem zdG.rows{H:Heap}{r:Nat->Nat}{g:Nat->Nat}{f:Nat->Blk}(h:∀k,k<16->H[g k]?=some ((f k).ren r)):zdG H r ((List.range 16).map g) (zbX f):=
 zdG.map (List.range 16) fun k hk=>h k (by simpa using hk)
theorem ziU{N:Nat}{f:Nat->Blk}(h:∀k,(f k).under N=true):zad N (zbX f)=true:=by
 simp only[zbX,zad,h,qba]
theorem zjO{N n:Nat}{cs:List SV}(h:unders N cs=true):(rowB n cs).under N=true:=by
 unfold rowB
 cases n with
 | zero=>rfl
 | succ n=>exact h
theorem zpZ(N:Nat){ss:List Sta}(s:Sta)(h8:ss.length<8):rens (names (idsA ss.length) N) (stCs (fun k=>5+k) 0 (ss++[s]))=stCs (fun k=>5+k) 0 ss++[.s s.name,.t (.sl 3 (s.locals.map zag)),.t (.sl 7 (s.eqs.map equT)),.t (.sl 1 (s.autos.map zaG)),rowV 8 s.unl.length 23,rowV 8 s.unt.length 25]:=by
 rw[zkS,zkQ,zhn (h':=fun k=>5+k) 0 ss (fun i _ hi=>by
  show names _ _ (5+i)=5+i
  rw[zge _ _ (by omega)]
  unfold rI
  rw[if_neg (by omega),if_neg (by omega)])]
 simp only[stCs,qaM]
 rw[zge _ _ (by omega),zge _ _ (by omega)]
 unfold rI
 rw[if_pos rfl,if_neg (by omega),if_pos rfl]
theorem zq1{ss:List Sta}(s:Sta)(k:Nat):rR (rowsOf (ss++[s])) k=if k=2*ss.length then rowB s.unl.length ((trCs s.unl).map .t) else if k=2*ss.length+1 then rowB s.unt.length ((trCs s.unt).map .t) else rR (rowsOf ss) k:=by
 have hl:=zdl ss
 rw[zd5]
 by_cases h1:k=2*ss.length
 ·rw[if_pos h1]
  exact ze3 (by rw[qaq (by omega),show k-(rowsOf ss).length=0 by omega];rfl)
 rw[if_neg h1]
 by_cases h2:k=2*ss.length+1
 ·rw[if_pos h2]
  exact ze3 (by rw[qaq (by omega),show k-(rowsOf ss).length=1 by omega];rfl)
 rw[if_neg h2]
 by_cases h3:k<2*ss.length
 ·exact zpS (by omega)
 ·rw[zm7 (R:=rowsOf ss) (by omega),zm7 (R:=rowsOf ss++[s.unl,s.unt]) (by rw[qal];simp only[qac,qaf];omega)]
theorem zgJ{R:Rd}{f:Nat->PR Ex}{w:Str}:∀(m:Nat) (xs:List Tran) (gs:List (Str×Nat)) {i:Nat} {ys:List Tran} {hs:List (Str×Nat)} {j:Nat},R.trans f w m xs gs i= .ok (ys,hs) j->xs.length=gs.length->ys.length=hs.length
 | 0,xs,gs,i,ys,hs,j,h,hl=>by cases h;exact hl
 | m+1,xs,gs,i,ys,hs,j,h,hl=>by
   unfold Rd.trans at h
   split at h
   ·obtain⟨_,_,_,h⟩:=zae h
    obtain⟨_,_,_,h⟩:=zae h
    obtain⟨_,_,_,h⟩:=zae h
    obtain⟨_,_,_,h⟩:=zae h
    obtain⟨_,_,_,h⟩:=zae h
    exact zgJ m _ _ h (by rw[qal,qal,hl];rfl)
   ·cases h;exact hl
theorem zh3{R:Rd}{f:Nat->PR Ex}{w:Str}:∀(m:Nat) (xs:List Tran) (gs:List (Str×Nat)) {i:Nat} {ys:List Tran} {hs:List (Str×Nat)} {j:Nat},R.trans f w m xs gs i= .ok (ys,hs) j->xs.length≤4->ys.length≤4
 | 0,xs,gs,i,ys,hs,j,h,hl=>by cases h;exact hl
 | m+1,xs,gs,i,ys,hs,j,h,hl=>by
   unfold Rd.trans at h
   split at h
   ·obtain⟨_,_,hq,h⟩:=zae h
    obtain⟨_,_,_,h⟩:=zae h
    obtain⟨_,_,_,h⟩:=zae h
    obtain⟨_,_,_,h⟩:=zae h
    obtain⟨_,_,_,h⟩:=zae h
    have:=(zbh hq).1
    exact zh3 m _ _ h (by rw[qal];simp only[qac,qaf];omega)
   ·cases h;exact hl
def setG(ns:List Str)(u:List Tran)(g:List (Str×Nat)):List Tran:=List.zipWith (fun(q:Tran) (x:Str×Nat)=>match idxOf x.1 0 ns with
 | some k=>⟨q.cond,toI (k:Int),q.resume⟩
 | none=>q) u g
def okG(ns:List Str)(g:List (Str×Nat)):Prop:=∀x∈g,∃k,idxOf x.1 0 ns=some k
theorem zf8{ns:List Str}:∀ {g:List (Str×Nat)},okG ns g->∃js,fixG ns g= .ok js 0/\∀u:List Tran,ziV u js=setG ns u g
 | [],_=>⟨[],rfl,fun u=>by cases u <;> rfl⟩
 | (s,k)::g,h=>by
   obtain⟨j,hj⟩:=h (s,k) qaC
   obtain⟨js,h1,h2⟩:=zf8 (g:=g) fun x hx=>h x (qaA _ hx)
   refine⟨j::js,by rw[fixG,hj];simp only[h1,PR.bind],fun u=>?_⟩
   cases u with
   | nil=>rfl
   | cons q u=>
     have:=h2 u
     unfold ziV setG at this⊢
     rw[qa7,qa7,this]
     simp only at hj
     simp only[hj]
theorem zmF{ns:List Str}{s:Str}{k:Nat}:∀ {g r:List (Str×Nat)},okG ns g->idxOf s 0 ns=none->fixG ns (g++(s,k)::r)= .er k 6
 | [],r,_,h=>by rw[qbk,fixG,h]
 | (t,a)::g,r,hg,h=>by
   obtain⟨j,hj⟩:=hg (t,a) qaC
   rw[qbc,fixG]
   simp only at hj
   rw[hj]
   simp only[zmF (g:=g) (fun x hx=>hg x (qaA _ hx)) h,PR.bind]
theorem zks{ns:List Str}{s:Str}{k:Nat}{g r:List (Str×Nat)}:∀ {gs rs:List (List (Str×Nat))},(∀g∈gs,okG ns g)->okG ns g->idxOf s 0 ns=none->zd9 ns (gs++(g++(s,k)::r)::rs)= .er k 6
 | [],rs,_,hg,h=>by rw[qbk,zd9,zmF hg h];rfl
 | x::gs,rs,hx,hg,h=>by
   obtain⟨js,h1,_⟩:=zf8 (hx x qaC)
   rw[qbc,zd9,h1]
   simp only[PR.bind,zks (gs:=gs) (fun y hy=>hx y (qaA _ hy)) hg h]
def zde:List Sta->List (List Tran)->List Sta
 | s::ss,u::v::R=>.mk s.name s.locals s.eqs s.autos u v::zde ss R
 | ss,_=>ss
theorem zku{ns:List Str}:∀ {gs:List (List (Str×Nat))},(∀g∈gs,okG ns g)->∃jss,zd9 ns gs= .ok jss 0/\∀ss:List Sta,gs.length=2*ss.length->zdJ ss jss=zde ss (List.zipWith (setG ns) (rowsOf ss) gs)
 | [],_=>⟨[],rfl,fun ss h=>by
     cases ss with
     | nil=>rfl
     | cons s ss=>rw[qac,qaf]at h;omega⟩
 | [g],hx=>by
   obtain⟨js,h1,h2⟩:=zf8 (hx g qaC)
   exact⟨[js],by simp only[zd9,h1,PR.bind],fun ss h=>by simp only[qac,qaf]at h;omega⟩
 | g::g'::gs,hx=>by
   obtain⟨js,h1,h2⟩:=zf8 (hx g qaC)
   obtain⟨js',h1',h2'⟩:=zf8 (hx g' (qaA _ qaC))
   obtain⟨jss,h3,h4⟩:=zku (gs:=gs) fun y hy=>hx y (qaA _ (qaA _ hy))
   refine⟨js::js'::jss,by simp only[zd9,h1,h1',h3,PR.bind],fun ss h=>?_⟩
   cases ss with
   | nil=>simp at h
   | cons s ss=>
     rw[zdJ,h2,h2',h4 ss (by simp only[qac]at h;omega),rowsOf,qa7,qa7,zde]
theorem zhU(s:Sta)(nm:Str)(k:Int):Pure Tryz.prog 103 [.t (staT s),.cp [.s nm,.i k] 0] (.b (s.name == nm)):=by
 rw[zdc]
 refine so Tryz.func103 ?_
 repeat' (first|refine wu ?_|exact wkc|intro hc|refine wk2 ?_ ?_|fail)
 all_goals try(refine RetK.pure rfl ?_ rfl;exact Le.of_eq (by simp_all [pack,staT] <;> omega))
theorem zix(fid:FuncId)(caps:List SV)(hcaps:unders 0 caps=true)(p:Sta->Bool)(l:List Sta)(hl:l.length≤1000000000)(hp:∀d,Pure Tryz.prog fid (.t (staT d)::caps) (.b (p d))):
  Pure Tryz.prog 102 [.t (.sl 6 (l.map staT)),.fn fid caps] (.i (idxI p l)):=by
 have hml:(l.map staT).length=l.length:=qad _
 refine so Tryz.func102 ?_
 repeat' (first|refine wk ?_|exact wkc|intro hc|refine wk2 ?_ ?_|fail)
 refine TR.zbv l.length (fun k=>(l.take k).all (fun x=>!p x)=true) (fun k=>[(0,.t (.sl 6 (l.map staT))),(1,.fn fid caps),(7,.i l.length),(8,.i k)]) (fun _=>[]) rfl (fun k hlt ha=>?_) (fun ha=>?_) ⟨rfl,rfl,by rw[<-hml];rfl,rfl,trivial⟩
 ·have hx:=zbW staT hlt
  have htk:=zj2 hlt
  have hat:=zjC p l k hlt ha
  have hd:=hp l[k]
  generalize l[k]=d at hx htk hat hd
  rw[zdc]at hx hd
  have hu:unders 0 (.t (staT d)::caps)=true:=by simp[unders,SV.under,hcaps]
  rw[zdc]at hu
  repeat' (first|refine wk ?_|exact wkc|intro hc|refine wk2 ?_ ?_|(apply TO.zlf hd;(iterate 3 exact rfl);exact Les.refl _;exact hu;exact rfl)|fail)
  ·rw[hat hc];exact wkr
  ·exact zwfu
 ·exact zwcw
theorem zo1(nm:Str):∀(l:List Sta) (k:Nat),(idxI (fun d=>d.name == nm) l= -1/\idxOf nm k (l.map Sta.name)=none)\/∃j:Nat,j<l.length/\idxI (fun d=>d.name == nm) l=j/\idxOf nm k (l.map Sta.name)=some (k+j)
 | [],_=>.inl ⟨rfl,rfl⟩
 | d::l,k=>by
   unfold idxI
   rw[qah,idxOf]
   by_cases hd:d.name=nm
   ·exact zwff
   ·rw[if_neg hd,if_neg (by simpa using hd)]
    rcases zo1 nm l (k+1)with ⟨h1,h2⟩|⟨j,h1,h2,h3⟩
    ·rw[h1];exact .inl ⟨rfl,h2⟩
    ·exact zweh
theorem zdr:∀(ss:List Sta) (R:List (List Tran)),(zde ss R).length=ss.length
 | [],R=>by cases R <;> rfl
 | s::ss,[]=>rfl
 | s::ss,[u]=>rfl
 | s::ss,u::v::R=>by rw[zde,qac,zdr ss R,qac]
theorem zet:∀(ss:List Sta) (R:List (List Tran)),(zde ss R).map Sta.name=ss.map Sta.name
 | [],R=>by cases R <;> rfl
 | s::ss,[]=>rfl
 | s::ss,[u]=>rfl
 | s::ss,u::v::R=>by rw[zde,qah,zet ss R,qah];rfl
theorem zny(u:List Tran):trCs u=((u.map zaW).map T.cells).flatten:=rfl
theorem znk{H:Heap}(h:Nat->Nat):∀(k:Nat) (ss:List Sta) (R:List (List Tran)),R.map List.length=(rowsOf ss).map List.length->(∀i u,R[i]?=some u->H[h (2*k+i)]?=some (rowB u.length ((trCs u).map .t)))->
  ∀(j:Nat) c,((((zde ss R).map staT).map T.cells).flatten)[j]?=some c->∃s,(stCs h k ss)[j]?=some s/\LeB H s (.t c)
 | k,[],R,hR,hH,j,c,hc=>by
   cases R with
   | nil=>simp[zde]at hc
   | cons u R=>simp[rowsOf]at hR
 | k,s::ss,[],hR,hH,j,c,hc=>by simp[rowsOf]at hR
 | k,s::ss,[u],hR,hH,j,c,hc=>by simp[rowsOf]at hR
 | k,s::ss,u::v::R,hR,hH,j,c,hc=>by
   simp only[rowsOf,qah,qbu]at hR
   obtain⟨h1,h2,h3⟩:=hR
   rw[zde,qah,qah,qbb,zdc]at hc
   have hu:=hH 0 u rfl
   have hv:=hH 1 v rfl
   have row:∀(w:List Tran) (id:Nat),H[id]?=some (rowB w.length ((trCs w).map .t))->LeB H (rowV 8 w.length id) (.t (.sl 8 (w.map zaW))):=fun w id hw=>by
    refine LeB.row hw (fun j c hc=>⟨.t c,by rw[qar,zny,hc];rfl,LeB.t c⟩) (by rw[qad]) (fun e he=>?_)
    obtain⟨q,_,rfl⟩:=qa2.1 he
    rfl
   match j,hc with
   | 0,hc=>cases hc;exact⟨_,rfl,LeB.t _⟩
   | 1,hc=>cases hc;exact⟨_,rfl,LeB.t _⟩
   | 2,hc=>cases hc;exact⟨_,rfl,LeB.t _⟩
   | 3,hc=>cases hc;exact⟨_,rfl,LeB.t _⟩
   | 4,hc=>cases hc;exact⟨_,rfl,by rw[<-h1];exact row u _ hu⟩
   | 5,hc=>cases hc;exact⟨_,rfl,by rw[<-h2];exact row v _ hv⟩
   | j+6,hc=>
     exact znk h (k+1) ss R h3 (fun i w hw=>by
      have:=hH (i+2) w hw
      rw[show 2*k+(i+2)=2*(k+1)+i by omega]at this
      exact this) j c hc
def fzCs(h:Nat->Nat)(a:Nat):Nat->List Sta->List (List Tran)->List SV
 | k,s::ss,u::v::R=>.s s.name:: .t (.sl 3 (s.locals.map zag)):: .t (.sl 7 (s.eqs.map equT)):: .t (.sl 1 (s.autos.map zaG))::(if 2*k<a then .t (.sl 8 (u.map zaW)) else rowV 8 s.unl.length (h (2*k)))::(if 2*k+1<a then .t (.sl 8 (v.map zaW)) else rowV 8 s.unt.length (h (2*k+1)))::fzCs h a (k+1) ss R
 | _,_,_=>[]
theorem zmI(h:Nat->Nat){a a':Nat}:∀(k:Nat) (ss:List Sta) (R:List (List Tran)),a≤2*k->a'≤2*k->fzCs h a k ss R=fzCs h a' k ss R
 | k,[],R,_,_=>by simp[fzCs]
 | k,s::ss,[],_,_=>by simp[fzCs]
 | k,s::ss,[u],_,_=>by simp[fzCs]
 | k,s::ss,u::v::R,h1,h2=>by
   rw[fzCs,fzCs,zmI h (a:=a) (a':=a') (k+1) ss R (by omega) (by omega),if_neg (by omega),if_neg (by omega),if_neg (by omega),if_neg (by omega)]
theorem fz_0(h:Nat->Nat):∀(k:Nat) (ss:List Sta) (R:List (List Tran)),R.length=2*ss.length->fzCs h 0 k ss R=stCs h k ss
 | k,[],R,hl=>by simp[fzCs,stCs]
 | k,s::ss,[],hl=>by simp at hl
 | k,s::ss,[u],hl=>by simp only[qac,qaf]at hl;omega
 | k,s::ss,u::v::R,hl=>by
   rw[fzCs,stCs,if_neg (by omega),if_neg (by omega),fz_0 h (k+1) ss R (by simp only[qac]at hl;omega)]
theorem zoY(h:Nat->Nat){a:Nat}:∀(k:Nat) (ss:List Sta) (R:List (List Tran)),R.length=2*ss.length->2*(k+ss.length)≤a->fzCs h a k ss R=((((zde ss R).map staT).map T.cells).flatten).map .t
 | k,[],R,hl,_=>by cases R <;> simp[fzCs,zde]
 | k,s::ss,[],hl,_=>by simp at hl
 | k,s::ss,[u],hl,_=>by simp only[qac,qaf]at hl;omega
 | k,s::ss,u::v::R,hl,ha=>by
   simp only[qac]at hl ha
   rw[fzCs,if_pos (by omega),if_pos (by omega),zoY h (k+1) ss R (by omega) (by omega),zde,qah,qah,qbb,zdc,qav]
   rfl
theorem zoZ(h:Nat->Nat):∀(b k:Nat) (ss:List Sta) (R:List (List Tran)) (u:List Tran),R.map List.length=(rowsOf ss).map List.length->R[b]?=some u->(fzCs h (2*k+b) k ss R)[6*(b / 2)+4+b % 2]?=some (rowV 8 u.length (h (2*k+b)))
 | b,k,[],R,u,hR,hu=>by
   cases R with
   | nil=>simp at hu
   | cons u R=>simp[rowsOf]at hR
 | b,k,s::ss,[],u,hR,hu=>by simp at hu
 | b,k,s::ss,[w],u,hR,hu=>by simp[rowsOf]at hR
 | 0,k,s::ss,w::v::R,u,hR,hu=>by
   simp only[rowsOf,qah,qbu]at hR
   simp at hu;subst hu
   rw[fzCs,if_neg (by omega),hR.1];rfl
 | 1,k,s::ss,w::v::R,u,hR,hu=>by
   simp only[rowsOf,qah,qbu]at hR
   simp at hu;subst hu
   rw[fzCs,if_neg (show ¬2*k+1<2*k+1 by omega),hR.2.1];rfl
 | b+2,k,s::ss,w::v::R,u,hR,hu=>by
   simp only[rowsOf,qah,qbu]at hR
   have:=zoZ h b (k+1) ss R u hR.2.2 (by simpa using hu)
   rw[show 2*(k+1)+b=2*k+(b+2) by omega]at this
   rw[fzCs,show 6*((b+2) / 2)+4+(b+2) % 2=(6*(b / 2)+4+b % 2)+6 by omega]
   exact this
theorem zo0(h:Nat->Nat):∀(b k:Nat) (ss:List Sta) (R:List (List Tran)) (u:List Tran),R.map List.length=(rowsOf ss).map List.length->R[b]?=some u->(fzCs h (2*k+b) k ss R).set (6*(b / 2)+4+b % 2) (.t (.sl 8 (u.map zaW)))=fzCs h (2*k+b+1) k ss R
 | b,k,[],R,u,hR,hu=>by
   cases R with
   | nil=>simp at hu
   | cons u R=>simp[rowsOf]at hR
 | b,k,s::ss,[],u,hR,hu=>by simp at hu
 | b,k,s::ss,[w],u,hR,hu=>by simp[rowsOf]at hR
 | 0,k,s::ss,w::v::R,u,hR,hu=>by
   simp at hu;subst hu
   rw[fzCs,fzCs,if_pos (show 2*k<2*k+0+1 by omega),if_neg (show ¬2*k+1<2*k+0 by omega),if_neg (show ¬2*k+1<2*k+0+1 by omega),zmI h (a:=2*k+0) (a':=2*k+0+1) (k+1) ss R (by omega) (by omega)]
   rfl
 | 1,k,s::ss,w::v::R,u,hR,hu=>by
   simp at hu;subst hu
   rw[fzCs,fzCs,if_pos (show 2*k<2*k+1 by omega),if_pos (show 2*k<2*k+1+1 by omega),if_pos (show 2*k+1<2*k+1+1 by omega),zmI h (a:=2*k+1) (a':=2*k+1+1) (k+1) ss R (by omega) (by omega)]
   rfl
 | b+2,k,s::ss,w::v::R,u,hR,hu=>by
   simp only[rowsOf,qah,qbu]at hR
   have:=zo0 h b (k+1) ss R u hR.2.2 (by simpa using hu)
   rw[show 2*(k+1)+b=2*k+(b+2) by omega]at this
   rw[fzCs,fzCs,show 6*((b+2) / 2)+4+(b+2) % 2=(6*(b / 2)+4+b % 2)+6 by omega,<-this,if_pos (show 2*k<2*k+(b+2) by omega),if_pos (show 2*k<2*k+(b+2)+1 by omega),if_pos (show 2*k+1<2*k+(b+2) by omega),if_pos (show 2*k+1<2*k+(b+2)+1 by omega)]
   rfl
theorem znj(h:Nat->Nat):∀(b k:Nat) (ss:List Sta) (u:List Tran),(rowsOf ss)[b]?=some u->(stCs h k ss)[6*(b / 2)+4+b % 2]?=some (rowV 8 u.length (h (2*k+b)))
 | b,k,[],u,hu=>by simp[rowsOf]at hu
 | 0,k,s::ss,u,hu=>by
   simp[rowsOf]at hu;subst hu;rfl
 | 1,k,s::ss,u,hu=>by
   simp[rowsOf]at hu;subst hu;rfl
 | b+2,k,s::ss,u,hu=>by
   have:=znj h b (k+1) ss u (by simpa [rowsOf]using hu)
   rw[show 2*(k+1)+b=2*k+(b+2) by omega]at this
   rw[stCs,show 6*((b+2) / 2)+4+(b+2) % 2=(6*(b / 2)+4+b % 2)+6 by omega]
   exact this
theorem zeQ{ns:List Str}{u:List Tran}{g:List (Str×Nat)}(h:u.length=g.length):(setG ns u g).length=u.length:=by
 unfold setG;rw[qbG];omega
def setK(ns:List Str)(u:List Tran)(g:List (Str×Nat))(k:Nat):List Tran:=setG ns (u.take k) (g.take k)++u.drop k
theorem zq4(ns:List Str)(u:List Tran)(g:List (Str×Nat)):setK ns u g 0=u:=by simp[setK,setG]
theorem zox{ns:List Str}{u:List Tran}{g:List (Str×Nat)}(h:u.length=g.length):setK ns u g g.length=setG ns u g:=by
 unfold setK
 exact zwcx
theorem zkN{ns:List Str}{u:List Tran}{g:List (Str×Nat)}(h:u.length=g.length)(k:Nat):(setK ns u g k).length=u.length:=by
 unfold setK
 rw[qal,zeQ (by simp[h]),qa5,qaQ];omega
theorem zoy{ns:List Str}{u:List Tran}{g:List (Str×Nat)}(h:u.length=g.length){k:Nat}(hk:k<u.length):(setK ns u g k)[k]?=some u[k]:=by
 unfold setK
 rw[qaq (by rw[zeQ (by simp[h])];simp;omega),zeQ (by simp[h]),qaW,qa5,show k+(k-min k u.length)=k by omega]
 exact qab hk
theorem zni{ns:List Str}{u:List Tran}{g:List (Str×Nat)}(h:u.length=g.length){k j:Nat}(hk:k<u.length){x:Str×Nat}(hx:g[k]?=some x)(hj:idxOf x.1 0 ns=some j):(setK ns u g k).set k ⟨u[k].cond,toI (j:Int),u[k].resume⟩=setK ns u g (k+1):=by
 have hgk:g.take (k+1)=g.take k++[x]:=by rw[qbx,hx];rfl
 have huk:u.take (k+1)=u.take k++[u[k]]:=by rw[qbx,qab hk];rfl
 have hlk:(setG ns (u.take k) (g.take k)).length=k:=by rw[zeQ (by simp[h]),qa5];omega
 unfold setK
 rw[qce _ _ (by omega),hlk,qcl,qaF hk,qbK,hgk,huk]
 unfold setG
 rw[List.zipWith_append (by simp[h])]
 simp only[qa7,qcb,hj,qbn]
 rfl
theorem zkY:∀(w:List Tran) (k:Nat) (q:Tran) (j:Nat),w[k]?=some q->((trCs w).map SV.t).set (8*k+6) (.n (toI (j:Int)))=(trCs (w.set k ⟨q.cond,toI (j:Int),q.resume⟩)).map SV.t
 | [],k,q,j,h=>by simp at h
 | p::w,0,q,j,h=>by
   simp at h;subst h
   rfl
 | p::w,k+1,q,j,h=>by
   have:=zkY w k q j (by simpa using h)
   rw[List.set_cons_succ,show 8*(k+1)+6=(8*k+6)+8 by omega]
   show(SV.t _::SV.t _::SV.t _::SV.t _::SV.t _::SV.t _::SV.t _::SV.t _::(trCs w).map SV.t).set (8*k+6+8) _=SV.t _::SV.t _::SV.t _::SV.t _::SV.t _::SV.t _::SV.t _::SV.t _::(trCs (w.set k ⟨q.cond,toI (j:Int),q.resume⟩)).map SV.t
   rw[<-this]
   rfl
def curR(ns:List Str)(R:List (List Tran))(gs:List (List (Str×Nat)))(i:Nat):List (List Tran):=List.zipWith (setG ns) (R.take i) (gs.take i)++R.drop i
theorem zqF(ns:List Str)(R:List (List Tran))(gs:List (List (Str×Nat))):curR ns R gs 0=R:=by simp[curR]
theorem znS{ns:List Str}{R:List (List Tran)}{gs:List (List (Str×Nat))}(h:R.length=gs.length):curR ns R gs gs.length=List.zipWith (setG ns) R gs:=by
 unfold curR
 exact zwcx
theorem znT{ns:List Str}{R:List (List Tran)}{gs:List (List (Str×Nat))}(h:R.length=gs.length){i:Nat}(hi:i<R.length):(curR ns R gs i)[i]?=some R[i]:=by
 unfold curR
 rw[qaq (by rw[qbG,qa5,qa5];omega),qbG,qa5,qa5,qaW,show i+(i-min (min i R.length) (min i gs.length))=i by omega]
 exact qab hi
theorem zms{ns:List Str}{R:List (List Tran)}{gs:List (List (Str×Nat))}(h:R.length=gs.length){i:Nat}(hi:i<R.length){g:List (Str×Nat)}(hg:gs[i]?=some g):(curR ns R gs i).set i (setG ns R[i] g)=curR ns R gs (i+1):=by
 have hgk:gs.take (i+1)=gs.take i++[g]:=by rw[qbx,hg];rfl
 have huk:R.take (i+1)=R.take i++[R[i]]:=by rw[qbx,qab hi];rfl
 have hlk:(List.zipWith (setG ns) (R.take i) (gs.take i)).length=i:=by rw[qbG,qa5,qa5];omega
 unfold curR
 rw[qce _ _ (by omega),hlk,qcl,qaF hi,qbK,hgk,huk,List.zipWith_append (by simp;omega)]
 simp only[qa7,qcb,qbn]
 rfl
theorem zgx{ns:List Str}:∀ {R:List (List Tran)} {gs:List (List (Str×Nat))},R.map List.length=gs.map List.length->(List.zipWith (setG ns) R gs).map List.length=R.map List.length
 | [],gs,h=>by simp
 | u::R,[],h=>by simp at h
 | u::R,g::gs,h=>by
   simp only[qah,qbu]at h
   rw[qa7,qah,qah,zgx h.2,zeQ h.1]
theorem zmr{ns:List Str}{R:List (List Tran)}{gs:List (List (Str×Nat))}(h:R.map List.length=gs.map List.length)(i:Nat):(curR ns R gs i).map List.length=R.map List.length:=by
 unfold curR
 rw[qav,zgx (by rw[qca,qca,h]),<-qav,qbf]
theorem zoz{R:List (List Tran)}{i:Nat}{u w:List Tran}(hu:R[i]?=some u)(h:w.length=u.length):(R.set i w).map List.length=R.map List.length:=by
 rw[List.map_set,h]
 obtain⟨h1,h2⟩:=qaa.1 hu
 have:u.length=(R.map List.length)[i]'(by simpa using h1):=by rw[List.getElem_map,h2]
 rw[this,qbS]
theorem zq3{R:List (List Tran)}{i:Nat}{w:List Tran}(hi:i<R.length):(fun k=>if k=i then rowB w.length ((trCs w).map .t) else rR R k)=rR (R.set i w):=by
 funext k
 by_cases hk:k=i
 ·subst hk
  rw[if_pos rfl]
  exact(ze3 (qap hi)).symm
 ·rw[if_neg hk]
  unfold rR
  rw[qau (fun h=>hk h.symm)]
theorem zog{ns:List Str}{g:List (Str×Nat)}{k j:Nat}{x:Str×Nat}(hx:g[k]?=some x)(hj:idxOf x.1 0 ns=some j)(h:okG ns (g.take k)):okG ns (g.take (k+1)):=by
 intro y hy
 rw[qbx,hx]at hy
 rcases qbi.1 hy with hy|hy
 ·exact h y hy
 ·simp at hy;subst hy;exact⟨j,hj⟩
theorem zkP{α:Type}{l:List α}{k:Nat}{x:α}(h:l[k]?=some x):l=l.take k++x::l.drop (k+1):=by
 obtain⟨h1,h2⟩:=qaa.1 h
 conv=>lhs;rw[<-qbf k l,qaF h1,h2]
section rules
variable {P:Program}{n:Nat}{env:Env}{K:TK}{all ops:List Oper}{al:Array Oper}
theorem zjz{b0 b1 b2 b3:Blk}{ss:List Sta}{R:List (List Tran)}(hR:R.map List.length=(rowsOf ss).map List.length)(h8:ss.length≤8)(hp:0<ss.length)
  (k:TO false P n al ops env (b0::b1::b2::b3:: .cells (((((zde ss R).map staT).map T.cells).flatten).map .t)::zbX (fun _=>.dead)) K):
  TO false P n al ops env (b0::b1::b2::b3::rowB ss.length (stCs (fun k=>5+k) 0 ss)::zbX (rR R)) K:=by
 have hRl:R.length=2*ss.length:=by have:=congrArg List.length hR;rw[qad,qad,zdl]at this;exact this
 have go:∀d a:Nat,a+d=R.length->TO false P n al ops env (b0::b1::b2::b3:: .cells (fzCs (fun k=>5+k) a 0 ss R)::zbX (fun k=>if k<a then .dead else rR R k)) K:=by
  intro d
  induction d with
  | zero=>
    intro a ha
    have h1:zbX (fun k=>if k<a then .dead else rR R k)=zbX fun _=>.dead:=by
     congr 1
     funext k
     by_cases hk:k<a
     ·rw[if_pos hk]
     ·rw[if_neg hk,zm7 (by omega)]
    rw[h1,zoY _ 0 ss R hRl (by omega)]
    exact k
  | succ d ih=>
    intro a ha
    have hal:a<R.length:=by omega
    have hu:R[a]?=some R[a]:=qab hal
    generalize R[a]=u at hu
    have hg:=zoZ (fun k=>5+k) a 0 ss R u hR hu
    have hs:=zo0 (fun k=>5+k) a 0 ss R u hR hu
    rw[show 2*0+a=a by omega]at hg hs
    refine TO.zeZ 4 (6*(a / 2)+4+a % 2) 8 (5+a) u.length (ts:=trCs u) (es:=u.map zaW) (by omega) rfl hg ?_ (zny u) (by rw[qad]) (fun e he=>?_) rfl ?_ (ih (a+1) (by omega))
    ·show(b0::b1::b2::b3::Blk.cells _::zbX _)[5+a]?=_
     rw[show 5+a=a+1+1+1+1+1 by omega,qaR,qaR,qaR,qaR,qaR,zhj _ (by omega),if_neg (by omega),ze3 hu]
    ·obtain⟨q,_,rfl⟩:=qa2.1 he
     rfl
    ·show(List.set (b0::b1::b2::b3::Blk.cells _::zbX _) (5+a) .dead).set 4 _=_
     have e1:∀(x:Blk) (L:Heap),List.set (b0::b1::b2::b3::x::L) (5+a) .dead=b0::b1::b2::b3::x::L.set a .dead:=fun x L=>by rw[qcf];rfl
     rw[e1,zhk _ (by omega)]
     show b0::b1::b2::b3::Blk.cells _::_=_
     rw[hs]
     congr 6
     funext k
     by_cases h1:k=a
     ·rw[if_pos h1,if_pos (by omega)]
     ·rw[if_neg h1]
      by_cases h2:k<a
      ·rw[if_pos h2,if_pos (by omega)]
      ·rw[if_neg h2,if_neg (by omega)]
 have:=go R.length 0 (by omega)
 rw[fz_0 _ 0 ss R hRl,show zbX (fun k=>if k<0 then .dead else rR R k)=zbX (rR R) from by congr 1]at this
 rw[zbR hp]
 exact this
end rules
theorem zfW{R:Rd}{f:Nat->PR Ex}:∀ {m:Nat} {a e:List Ex} {i:Nat},R.isAt i [97,115,115,117,109,101]=false->R.isAt i [101,110,115,117,114,101]=false->R.claims f m a e i= .ok (a,e) i
 | 0,_,_,_,_,_=>rfl
 | m+1,a,e,i,h1,h2=>by rw[Rd.claims,h1,if_neg (by decide),h2,if_neg (by decide)]
abbrev noN:Nod:=⟨[],[],[],[],[],[],[],[]⟩
theorem zjH(l:List Tok)(n:Int)(es:List En)(i:Nat)(hk:TkOk l)(hes:EsOk es)(hi:i≤l.length):RdS l n es 68 [] i ((rdr l es).locals i) (.t (.sl 3 ((((rdr l es).locals i).vl []).map zag)))/\InR l.length i ((rdr l es).locals i):=by
 have h:=zgj (R:=rdr l es) (i:=i) (by rw[zaf];exact hi)
 rw[zaf]at h
 exact⟨ziH l n es i hk hes hi,h⟩
abbrev nodZ:Blk:=.cells [.t (.v (str [])),.t (.v (.slice none 0 0)),.t (.v (.slice none 0 0)),.t (.v (.slice none 0 0)),.t (.v (.slice none 0 0)),.t (.v (.slice none 0 0)),.t (.v (.slice none 0 0)),.t (.v (.slice none 0 0))]
end Go.Proofs.YtpfnfpaahefdaaaGreat
namespace Go.Proofs.YtpfnfpaahefdaaaGreat
open Go Go.TL
attribute [local irreducible] TR TO Then zab RetK Sound zac Kf GG za2
attribute [local irreducible] zaV zdL
theorem zh0(r:Nat->Nat)(k:Nat)(x:T):(SV.tup [rowV 8 k 2,.t x]).ren r= .tup [rowV 8 k (r 2),.t x]:=by
 simp only[SV.ren,rens,zcE]
theorem zh1(r:Nat->Nat)(g k:Nat)(ts:List T):[Blk.tail g,rowB k (ts.map .t)].map (Blk.ren r)=[.tail g,rowB k (ts.map .t)]:=by
 have h:=zc4 r k ts
 simp only[qah,qas,h];rfl
abbrev ggT (g:List (Str×Nat)):T:=.sl 2 (g.map goT)
abbrev stC (ss:List Sta):List SV:=stCs (fun k=>5+k) 0 ss
abbrev nilB:Blk:=.cells [.t (.v (.slice none 0 0))]
abbrev GA (l:List Tok)(n:Int)(es:List En)(j:Nat)(ss:List Sta)(R:List (List Tran))(g:Nat):Heap:=rdB l n es j::nilB:: .cells [rowV 6 ss.length 4]:: .tail g::rowB ss.length (stC ss)::zbX (rR R)
theorem zkr{b0 b1 b2 b3 b4:Blk}(f:Nat->Blk){a:Nat}(h:a<16):(b0::b1::b2::b3::b4::zbX f)[5+a]?=some (f a):=by
 rw[show 5+a=a+1+1+1+1+1 by omega,qaR,qaR,qaR,qaR,qaR,zhj f h]
theorem zn3{b0 b1 b2 b3 b4:Blk}(f:Nat->Blk){a:Nat}(h:a<16)(x:Blk):List.set (b0::b1::b2::b3::b4::zbX f) (5+a) x=b0::b1::b2::b3::b4::zbX fun k=>if k=a then x else f k:=by
 rw[<-zhk f h,qcf];rfl
theorem zpe(l:List Tok)(n:Int)(es:List En)(i:Nat)(hk:TkOk l)(hes:EsOk es)(hi:i≤l.length)(w:Str):RdX l n es 101 [.s w] i ((rdr l es).trans (rdr l es).expr w (rdr l es).K.length [] [] i) (.tup [rowV 8 ((((rdr l es).trans (rdr l es).expr w (rdr l es).K.length [] [] i).vl ([],[])).1.length) 2,.t (.sl 2 ((((rdr l es).trans (rdr l es).expr w (rdr l es).K.length [] [] i).vl ([],[])).2.map goT))]) [.tail ((((rdr l es).trans (rdr l es).expr w (rdr l es).K.length [] [] i).vl ([],[])).2.map goT).length,rowB (((rdr l es).trans (rdr l es).expr w (rdr l es).K.length [] [] i).vl ([],[])).1.length ((trCs (((rdr l es).trans (rdr l es).expr w (rdr l es).K.length [] [] i).vl ([],[])).1).map .t)]/\InR l.length i ((rdr l es).trans (rdr l es).expr w (rdr l es).K.length [] [] i):=by
 have h:=zfM (R:=rdr l es) (f:=(rdr l es).expr) (w:=w) (fun j hj=>by rw[zaf]at hj⊢;exact(zeX l n es j hk hes hj).2) (rdr l es).K.length [] [] (i:=i) (by rw[zaf];exact hi)
 rw[zaf]at h⊢
 exact⟨by have:=zj5 l n es i hk hes hi w;rw[zaf]at this;exact this,h⟩
def zp3(l:List Tok)(n:Int)(es:List En)(d:Nat)(bd:Nat->PR (List Equ×List Auto)):Prop:=∀j,j≤l.length->RdS l n es 69 [.i d] j (bd j) (.tup [.t (.sl 7 (((bd j).vl ([],[])).1.map equT)),.t (.sl 1 (((bd j).vl ([],[])).2.map zaG))])/\InR l.length j (bd j)
theorem zjY{R:Rd}{f:Nat->PR Ex}{bd:Nat->PR (List Equ×List Auto)}{m j:Nat}{ss:List Sta}{gs:List (List (Str×Nat))}(h:R.isAt j [115,116,97,116,101]=false):R.states f bd m ss gs j= .ok (ss,gs) j:=by
 cases m with
 | zero=>rfl
 | succ m=>unfold Rd.states;rw[if_neg (by rw[h];decide)]
set_option maxHeartbeats 64000000 in
set_option maxRecDepth 20000 in
theorem zlc (l:List Tok) (n:Int) (es:List En) (i:Nat) (hk:TkOk l) (hes:EsOk es) (hi:i≤l.length) (d:Nat) (hd:d≤3) (bd:Nat->PR (List Equ×List Auto)) (hbd:zp3 l n es (d+1) bd):RdS l n es 88 [.i d] i ((rdr l es).automaton (rdr l es).expr bd i) (.t (zaG (((rdr l es).automaton (rdr l es).expr bd i).vl noA))):=by
 have hl:=hk.len
 generalize hr:((rdr l es).automaton (rdr l es).expr bd i)=r
 unfold Rd.automaton at hr
 refine Sound.err rfl (fun _=>rfl) ?_
 refine so Tryz.func88 ?_
 refine TR.dead ?_
 repeat' (first|refine wk ?_|fail)
 refine TR.tail 1 6 rfl ?_
 refine TR.zfH (ι:=Nat×Nat×List Sta×List (List (Str×Nat))) (fun x=>i≤x.2.1/\x.2.1≤l.length/\l.length-x.2.1≤x.1/\x.2.2.1.length≤8/\(rowsOf x.2.2.1).map List.length=x.2.2.2.map List.length/\(∀u∈rowsOf x.2.2.1,u.length≤4)/\(((rdr l es).states (rdr l es).expr bd x.1 x.2.2.1 x.2.2.2 x.2.1).bind fun x i=>((rdr l es).must [[101,110,100]] i).bind fun _ i=>(zd9 (x.1.map Sta.name) x.2).bind fun jss _=>(.ok (.mk (zdJ x.1 jss)) i:PR Auto))=r) (fun x=>l.length-x.2.1) (fun x=>[(0,.ref 0 0),(1,.i d),(4,.ref 1 0),(5,.ref 2 0),(6,.sl 1 (x.2.2.2.map ggT) 3)]) (fun x=>GA l n es x.2.1 x.2.2.1 (rowsOf x.2.2.1) (x.2.2.2.map ggT).length) ((rdr l es).K.length,i,[],[])
  ⟨by show i≤i;omega,hi,by rw[zaf];show l.length-i≤l.length;omega,by show 0≤8;omega,rfl,(fun u hu=>by cases hu),hr⟩ ⟨rfl,rfl,rfl,rfl,rfl,trivial⟩ 17 rfl ?_
 clear hr
 rintro⟨m,j,ss,gs⟩ ⟨q1,q2,q3,q4,q5,q6,hr⟩
 replace q1:i≤j:=q1
 replace q2:j≤l.length:=q2
 replace q3:l.length-j≤m:=q3
 replace q4:ss.length≤8:=q4
 replace q5:(rowsOf ss).map List.length=gs.map List.length:=q5
 replace q6:∀u∈rowsOf ss,u.length≤4:=q6
 replace hr:(((rdr l es).states (rdr l es).expr bd m ss gs j).bind fun x i=>((rdr l es).must [[101,110,100]] i).bind fun _ i=>(zd9 (x.1.map Sta.name) x.2).bind fun jss _=>(.ok (.mk (zdJ x.1 jss)) i:PR Auto))=r:=hr
 have hgl:gs.length=2*ss.length:=by have:=congrArg List.length q5;rw[qad,qad,zdl]at this;exact this.symm
 have hmg:(gs.map ggT).length=gs.length:=qad _
 have hcl:(stC ss).length=ss.length*6:=zkR _ _ _
 have t1:=zaO l n es j [115,116,97,116,101] hl
 show TR _ _ _ [(0,.ref 0 0),(1,.i d),(4,.ref 1 0),(5,.ref 2 0),(6,.sl 1 (gs.map ggT) 3)] (GA l n es j ss (rowsOf ss) (gs.map ggT).length) _
 cases h1:(rdr l es).isAt j [115,116,97,116,101] with
 | true=>
   have hlth1:=zam h1
   rw[zaf]at hlth1
   rw[h1]at t1
   cases m with
   | zero=>exfalso;omega
   | succ m=>
   rw[Rd.states,if_pos h1]at hr
   refine wk ?_
   repeat' (first|refine zqn ?_|refine wd t1 ?_|(apply TO.lenR zaa;(iterate 4 exact rfl))|refine wk ?_|exact wkc|intro hc|refine wk2 ?_ ?_|fail)
   obtain⟨m3,m3i⟩:=limC l n es j ss.length ss.length 8 hl q2 rfl
   cases qm3:limR ss.length 8 j with
   | er ke c=>
     rw[qm3]at m3 m3i hr
     have hc0:=m3i.2
     replace m3:=m3.er
     try simp only[PR.vl]at m3
     simp only[PR.bind]at hr
     repeat' (first|refine zqn ?_|refine we m3 ?_ ?_|refine wk ?_|exact wkc|intro hc|refine wk2 ?_ ?_|fail)
     repeat' (first|refine zaV.panic ?_|refine wk ?_|fail)
     refine rdPX hr.symm hc0 ?_
     exact leB
   | ok u3 j3=>
   rw[qm3]at m3 m3i hr
   obtain⟨m3a,m3b⟩:=m3i
   replace m3:=m3.ok
   try simp only[PR.vl]at m3
   simp only[PR.bind]at hr
   obtain⟨hlt4,rfl⟩:=zbh qm3
   repeat' (first|refine zqn ?_|refine we m3 ?_ ?_|refine wk ?_|exact wkc|intro hc|refine wk2 ?_ ?_|fail)
   rw[Rd.state]at hr
   obtain⟨m4,m4i⟩:=idC l n es (j3+1) hl hlth1
   cases qm4:(rdr l es).id (j3+1) with
   | er ke c=>
     rw[qm4]at m4 m4i hr
     have hc0:=m4i.2
     replace m4:=m4.er
     try simp only[PR.vl]at m4
     simp only[PR.bind]at hr
     repeat' (first|refine zqn ?_|refine we m4 ?_ ?_|refine wk ?_|exact wkc|intro hc|refine wk2 ?_ ?_|fail)
     repeat' (first|refine zaV.panic ?_|refine wk ?_|fail)
     refine rdPX hr.symm hc0 ?_
     exact leB
   | ok nm j4=>
   rw[qm4]at m4 m4i hr
   obtain⟨m4a,m4b⟩:=m4i
   replace m4:=m4.ok
   try simp only[PR.vl]at m4
   simp only[PR.bind]at hr
   repeat' (first|refine zqn ?_|refine we m4 ?_ ?_|refine wk ?_|exact wkc|intro hc|refine wk2 ?_ ?_|fail)
   obtain⟨m5,m5i⟩:=zjH l n es j4 hk hes m4b
   cases qm5:(rdr l es).locals j4 with
   | er ke c=>
     rw[qm5]at m5 m5i hr
     have hc0:=m5i.2
     replace m5:=m5.er
     try simp only[PR.vl]at m5
     simp only[PR.bind]at hr
     repeat' (first|refine zqn ?_|refine we m5 ?_ ?_|refine wk ?_|exact wkc|intro hc|refine wk2 ?_ ?_|fail)
     repeat' (first|refine zaV.panic ?_|refine wk ?_|fail)
     refine rdPX hr.symm hc0 ?_
     exact leB
   | ok ds j5=>
   rw[qm5]at m5 m5i hr
   obtain⟨m5a,m5b⟩:=m5i
   replace m5:=m5.ok
   try simp only[PR.vl]at m5
   simp only[PR.bind]at hr
   repeat' (first|refine zqn ?_|refine we m5 ?_ ?_|refine wk ?_|exact wkc|intro hc|refine wk2 ?_ ?_|fail)
   obtain⟨m6,m6i⟩:=zpe l n es j5 hk hes m5b [117,110,108,101,115,115]
   cases qm6:(rdr l es).trans (rdr l es).expr [117,110,108,101,115,115] (rdr l es).K.length [] [] j5 with
   | er ke c=>
     rw[qm6]at m6 m6i hr
     have hc0:=m6i.2
     simp only[PR.code,PR.at,PR.vl]at m6
     simp only[PR.bind]at hr
     repeat' (first|refine zqn ?_|(apply TO.zkn m6;(iterate 3 exact rfl);exact⟨Le.refl _,Le.refl _,trivial⟩;(iterate 3 exact rfl);exact fun _=>rfl;exact fun _=>rfl;exact zh0 _ _ _;exact fun _=>rfl;exact zh1 _ _ _ _;exact fun h=>absurd h hc0;intro _)|refine wk ?_|exact wkc|intro hc|refine wk2 ?_ ?_|fail)
     repeat' (first|refine zaV.panic ?_|refine wk ?_|fail)
     refine rdPX hr.symm hc0 ?_
     exact leB
   | ok xm6 j6=>
   obtain⟨us,gu⟩:=xm6
   rw[qm6]at m6 m6i hr
   obtain⟨m6a,m6b⟩:=m6i
   simp only[PR.code,PR.at,PR.vl]at m6
   simp only[PR.bind]at hr
   have hlm6:=zgJ _ _ _ qm6 rfl
   repeat' (first|refine zqn ?_|(refine TO.zkn m6 rfl rfl rfl ⟨Le.refl _,Le.refl _,trivial⟩ rfl rfl rfl (fun _=>rfl) (fun _=>rfl) (zh0 _ _ _) (fun _=>rfl) (zh1 _ _ _ _) (fun _=>?_) (fun h=>absurd rfl h))|(apply TO.znm zaa;(iterate 3 exact rfl);exact zhi _ _ _;exact zhh _ _ _;exact rfl;exact rfl;exact leB;exact rfl)|refine wk ?_|exact wkc|intro hc|refine wk2 ?_ ?_|fail)
   obtain⟨m7,m7i⟩:=zbr l n es j6 [[100,111]] hl m6b (by decide)
   cases qm7:(rdr l es).must [[100,111]] j6 with
   | er ke c=>
     rw[qm7]at m7 m7i hr
     have hc0:=m7i.2
     replace m7:=m7.er
     try simp only[PR.vl]at m7
     simp only[PR.bind]at hr
     repeat' (first|refine zqn ?_|refine we m7 ?_ ?_|refine wk ?_|exact wkc|intro hc|refine wk2 ?_ ?_|fail)
     repeat' (first|refine zaV.panic ?_|refine wk ?_|fail)
     refine rdPX hr.symm hc0 ?_
     exact leB
   | ok u7 j7=>
   rw[qm7]at m7 m7i hr
   obtain⟨m7a,m7b⟩:=m7i
   replace m7:=m7.ok
   try simp only[PR.vl]at m7
   simp only[PR.bind]at hr
   repeat' (first|refine zqn ?_|refine we m7 ?_ ?_|refine wk ?_|exact wkc|intro hc|refine wk2 ?_ ?_|fail)
   obtain⟨m8,m8i⟩:=hbd j7 m7b
   cases qm8:bd j7 with
   | er ke c=>
     rw[qm8]at m8 m8i hr
     have hc0:=m8i.2
     replace m8:=m8.er
     try simp only[PR.vl]at m8
     simp only[PR.bind]at hr
     repeat' (first|refine zqn ?_|refine we m8 ?_ ?_|refine wk ?_|exact wkc|intro hc|refine wk2 ?_ ?_|fail)
     repeat' (first|refine zaV.panic ?_|refine wk ?_|fail)
     refine rdPX hr.symm hc0 ?_
     exact leB
   | ok bb j8=>
   rw[qm8]at m8 m8i hr
   obtain⟨m8a,m8b⟩:=m8i
   replace m8:=m8.ok
   try simp only[PR.vl]at m8
   simp only[PR.bind]at hr
   obtain⟨eqs,ats⟩:=bb
   repeat' (first|refine zqn ?_|refine we m8 ?_ ?_|refine wk ?_|exact wkc|intro hc|refine wk2 ?_ ?_|fail)
   obtain⟨m9,m9i⟩:=zpe l n es j8 hk hes m8b [117,110,116,105,108]
   cases qm9:(rdr l es).trans (rdr l es).expr [117,110,116,105,108] (rdr l es).K.length [] [] j8 with
   | er ke c=>
     rw[qm9]at m9 m9i hr
     have hc0:=m9i.2
     simp only[PR.code,PR.at,PR.vl]at m9
     simp only[PR.bind]at hr
     repeat' (first|refine zqn ?_|(apply TO.zkn m9;(iterate 3 exact rfl);exact⟨Le.refl _,Le.refl _,trivial⟩;(iterate 3 exact rfl);exact fun _=>rfl;exact fun _=>rfl;exact zh0 _ _ _;exact fun _=>rfl;exact zh1 _ _ _ _;exact fun h=>absurd h hc0;intro _)|refine wk ?_|exact wkc|intro hc|refine wk2 ?_ ?_|fail)
     repeat' (first|refine zaV.panic ?_|refine wk ?_|fail)
     refine rdPX hr.symm hc0 ?_
     exact leB
   | ok xm9 j9=>
   obtain⟨vs,gv⟩:=xm9
   rw[qm9]at m9 m9i hr
   obtain⟨m9a,m9b⟩:=m9i
   simp only[PR.code,PR.at,PR.vl]at m9
   simp only[PR.bind]at hr
   have hlm9:=zgJ _ _ _ qm9 rfl
   repeat' (first|refine zqn ?_|(refine TO.zkn m9 rfl rfl rfl ⟨Le.refl _,Le.refl _,trivial⟩ rfl rfl rfl (fun _=>rfl) (fun _=>rfl) (zh0 _ _ _) (fun _=>rfl) (zh1 _ _ _ _) (fun _=>?_) (fun h=>absurd rfl h))|(apply TO.znm zaa;(iterate 3 exact rfl);exact zhi _ _ _;exact zhh _ _ _;exact rfl;exact rfl;exact leB;exact rfl)|refine wk ?_|exact wkc|intro hc|refine wk2 ?_ ?_|fail)
   obtain⟨m10,m10i⟩:=zbr l n es j9 [[100,111,110,101]] hl m9b (by decide)
   cases qm10:(rdr l es).must [[100,111,110,101]] j9 with
   | er ke c=>
     rw[qm10]at m10 m10i hr
     have hc0:=m10i.2
     replace m10:=m10.er
     try simp only[PR.vl]at m10
     simp only[PR.bind]at hr
     repeat' (first|refine zqn ?_|refine we m10 ?_ ?_|refine wk ?_|exact wkc|intro hc|refine wk2 ?_ ?_|fail)
     repeat' (first|refine zaV.panic ?_|refine wk ?_|fail)
     refine rdPX hr.symm hc0 ?_
     exact leB
   | ok u10 j10=>
   rw[qm10]at m10 m10i hr
   obtain⟨m10a,m10b⟩:=m10i
   replace m10:=m10.ok
   try simp only[PR.vl]at m10
   simp only[PR.bind]at hr
   repeat' (first|refine zqn ?_|refine we m10 ?_ ?_|(apply TO.znQ zaa;(iterate 11 exact rfl))|(apply TO.znN zaa;(iterate 10 exact rfl);exact hcl;(iterate 3 exact rfl);exact leB;exact rfl;omega;exact rfl)|refine wk ?_|exact wkc|intro hc|refine wk2 ?_ ?_|fail)
   obtain⟨s,hs⟩:∃s:Sta,s= .mk nm ds eqs ats us vs:=⟨_,rfl⟩
   have hxl:(ss++[s]).length=ss.length+1:=by rw[qal];rfl
   refine zaV.next (m,j10,ss++[s],gs++[gu,gv]) (idsA ss.length) ⟨?_,m10b,?_,?_,?_,?_,?_⟩ ?_ (Hands.ofF (zlw hlt4) ⟨rfl,rfl,?_,?_,?_,zdG.rows fun k hk=>?_⟩ ?_) (leB) ?_ ?_ ⟨⟨_,rfl,Le.refl _⟩,⟨_,rfl,Le.refl _⟩,⟨_,rfl,Le.refl _⟩,⟨_,rfl,Le.refl _⟩,⟨_,rfl,?_⟩,trivial⟩
   ·show i≤j10;omega
   ·show l.length-j10≤m;omega
   ·show(ss++[s]).length≤8;omega
   ·show(rowsOf (ss++[s])).map List.length=(gs++[gu,gv]).map List.length
    rw[zd5,qav,qav,q5,hs]
    show _++[us.length,vs.length]=_++[gu.length,gv.length]
    rw[hlm6,hlm9]
   ·show ∀u∈rowsOf (ss++[s]),u.length≤4
    intro u hu
    rw[zd5,hs]at hu
    rcases qbi.1 hu with hu|hu
    ·exact q6 u hu
    ·rcases qa8.1 hu with rfl|hu
     ·exact zh3 _ _ _ qm6 (by simp)
     ·rcases qa8.1 hu with rfl|hu
      ·exact zh3 _ _ _ qm9 (by simp)
      ·cases hu
   ·show(((rdr l es).states (rdr l es).expr bd m (ss++[s]) (gs++[gu,gv]) j10).bind fun x i=>((rdr l es).must [[101,110,100]] i).bind fun _ i=>(zd9 (x.1.map Sta.name) x.2).bind fun jss _=>(.ok (.mk (zdJ x.1 jss)) i:PR Auto))=r
    rw[hs];exact hr
   ·show l.length-j10<l.length-j3;omega
   ·show _=some ((Blk.cells [rowV 6 (ss++[s]).length 4]).ren _)
    show some (Blk.cells [SV.ms 6 27 0 (ss.length+1)])=some (.cells (rens _ [rowV 6 (ss++[s]).length 4]))
    simp only[rens,zcE]
    rw[zcl (by omega),hxl];rfl
   ·show some (Blk.tail ((gs.map ggT).length+2))=some (Blk.tail ((gs++[gu,gv]).map ggT).length)
    rw[qav,qal];rfl
   ·show _=some ((rowB (ss++[s]).length (stC (ss++[s]))).ren _)
    rw[zbR (show 0<(ss++[s]).length by omega)]
    show _=some (Blk.cells (rens _ (stCs (fun k=>5+k) 0 (ss++[s]))))
    rw[zpZ _ s hlt4,hs];rfl
   ·show _=some ((rR (rowsOf (ss++[s])) k).ren _)
    rw[zq2,zq1]
    unfold rI
    by_cases g1:k=2*ss.length
    ·rw[if_pos g1,if_pos g1,hs];rfl
    by_cases g2:k=2*ss.length+1
    ·rw[if_neg g1,if_neg g1,if_pos g2,if_pos g2,hs];rfl
    rw[if_neg g1,if_neg g1,if_neg g2,if_neg g2]
    clear g1 g2
    rcases(by omega:k=0\/k=1\/k=2\/k=3\/k=4\/k=5\/k=6\/k=7\/k=8\/k=9\/k=10\/k=11\/k=12\/k=13\/k=14\/k=15)with rfl|rfl|rfl|rfl|rfl|rfl|rfl|rfl|rfl|rfl|rfl|rfl|rfl|rfl|rfl|rfl
    all_goals rfl
   ·show zad 21 (rdB l n es j10::nilB:: .cells [rowV 6 (ss++[s]).length 4]:: .tail _::rowB (ss++[s]).length (stC (ss++[s]))::zbX (rR (rowsOf (ss++[s]))))=true
    have h1:=zjO (n:=(ss++[s]).length) (zho (h:=fun k=>5+k) (N:=21) 0 (ss++[s]) fun a _ ha=>by rw[hxl]at ha;show 5+a<21;omega)
    have h2:=ziU (zor 21 (rowsOf (ss++[s])))
    have h3:(Blk.cells [rowV 6 (ss++[s]).length 4]).under 21=true:=by
     show unders 21 [rowV 6 (ss++[s]).length 4]=true
     simp only[unders,zbS (show 4<21 by decide),qba]
    simp only[zad,h1,h2,h3,qba];rfl
   ·intro a ha
    have ha:a<4:=ha
    rcases(by omega:a=0\/a=1\/a=2\/a=3)with rfl|rfl|rfl|rfl <;> rfl
   ·rfl
   ·show Le _ (.sl 1 ((gs++[gu,gv]).map ggT) 3)
    rw[qav];exact Le.refl _
 | false=>
 rw[h1]at t1
 rw[zjY h1]at hr
 simp only[PR.bind]at hr
 refine wk ?_
 repeat' (first|refine zqn ?_|refine wd t1 ?_|refine zaV.exit ?_|refine wk ?_|exact wkc|intro hc|refine wk2 ?_ ?_|fail)
 obtain⟨m11,m11i⟩:=zbr l n es j [[101,110,100]] hl q2 (by decide)
 cases qm11:(rdr l es).must [[101,110,100]] j with
 | er ke c=>
   rw[qm11]at m11 m11i hr
   have hc0:=m11i.2
   replace m11:=m11.er
   try simp only[PR.vl]at m11
   simp only[PR.bind]at hr
   repeat' (first|refine zqn ?_|refine we m11 ?_ ?_|refine wk ?_|exact wkc|intro hc|refine wk2 ?_ ?_|fail)
   repeat' (first|refine zaV.panic ?_|refine wk ?_|fail)
   refine rdPX hr.symm hc0 ?_
   exact leB
 | ok u11 jj=>
 rw[qm11]at m11 m11i hr
 obtain⟨m11a,m11b⟩:=m11i
 replace m11:=m11.ok
 try simp only[PR.vl]at m11
 simp only[PR.bind]at hr
 repeat' (first|refine zqn ?_|refine we m11 ?_ ?_|refine wk ?_|exact wkc|intro hc|refine wk2 ?_ ?_|fail)
 have hrl:=zdl ss
 have hRg:(rowsOf ss).length=gs.length:=by omega
 obtain⟨ns,hns⟩:∃ns:List Str,ns=ss.map Sta.name:=⟨_,rfl⟩
 rw[<-hns]at hr
 have hfst:rowB ss.length (stC ss)=rowB ss.length (stC ss):=rfl
 refine TR.zbv gs.length (fun i=>∀g∈gs.take i,okG ns g) (fun i=>[(0,.ref 0 0),(4,.ref 1 0),(5,.ref 2 0),(77,.sl 1 (gs.map ggT) 3),(78,.i (gs.map ggT).length),(79,.i i)]) (fun i=>GA l n es jj ss (curR ns (rowsOf ss) gs i) (gs.map ggT).length) (fun g hg=>by simp at hg) (fun i' hi' ha=>?_) (fun ha=>?_) ⟨rfl,rfl,rfl,rfl,rfl,rfl,trivial⟩ (by rw[zqF];rfl)
 ·have hx:(gs.map ggT)[i']?=some (.sl 2 (gs[i'].map goT)):=by rw[qar,qab hi'];rfl
  have hgi:gs[i']?=some gs[i']:=qab hi'
  have hui:(rowsOf ss)[i']?=some ((rowsOf ss)[i']'(by omega)):=qab (by omega)
  have hcur:=znT (ns:=ns) hRg (i:=i') (by omega)
  have hcst:=zms (ns:=ns) hRg (i:=i') (by omega) hgi
  have hln:((rowsOf ss)[i']'(by omega)).length=gs[i'].length:=by
   have h1:((rowsOf ss).map List.length)[i']?=(gs.map List.length)[i']? :=by rw[q5]
   rw[qar,qar,hui,hgi]at h1
   exact Option.some.inj h1
  have hcl2:=zmr (ns:=ns) q5 i'
  have hu4:=q6 _ (qaB hui)
  generalize gs[i']=g at*
  generalize (rowsOf ss)[i']'(by omega)=u at*
  obtain⟨C,hC⟩:∃C,C=curR ns (rowsOf ss) gs i':=⟨_,rfl⟩
  rw[<-hC]at hcur hcst hcl2
  have hCl:C.length=gs.length:=by have:=congrArg List.length hcl2;rw[qad,qad]at this;omega
  have hmu:(g.map goT).length=g.length:=qad _
  show TR _ _ _ [(0,.ref 0 0),(4,.ref 1 0),(5,.ref 2 0),(77,.sl 1 (gs.map ggT) 3),(78,.i (gs.map ggT).length),(79,.i i')] (GA l n es jj ss (curR ns (rowsOf ss) gs i') (gs.map ggT).length) _
  rw[<-hC]
  refine wk ?_
  repeat' (first|refine zqn ?_|refine wk ?_|exact wkc|intro hc|refine wk2 ?_ ?_|fail)
  have hC0:C.set i' u=C:=by
   obtain⟨h1,h2⟩:=qaa.1 hcur
   rw[<-h2,qbS]
  refine TR.zbv g.length (fun k=>okG ns (g.take k)) (fun k=>[(0,.ref 0 0),(4,.ref 1 0),(5,.ref 2 0),(10,.i i'),(77,.sl 1 (gs.map ggT) 3),(78,.i (gs.map ggT).length),(79,.i i'),(84,.t (.sl 2 (g.map goT))),(85,.i (g.map goT).length),(86,.i k)]) (fun k=>GA l n es jj ss (C.set i' (setK ns u g k)) (gs.map ggT).length) (fun x hx=>by simp at hx) (fun k hk2 hb=>?_) (fun hb=>?_) ⟨rfl,rfl,rfl,rfl,rfl,rfl,rfl,rfl,rfl,rfl,trivial⟩ (by show GA l n es jj ss C _=GA l n es jj ss (C.set i' (setK ns u g 0)) _;rw[zq4,hC0])
  ·have hxg:(g.map goT)[k]?=some (.ag [.s g[k].1,.i g[k].2]):=by rw[qar,qab hk2];rfl
   have hgk:g[k]?=some g[k]:=qab hk2
   have huk:k<u.length:=by omega
   have hw:=zoy (ns:=ns) hln huk
   have hwl:=zkN (ns:=ns) hln k
   generalize g[k]=x at*
   obtain⟨nm,at'⟩:=x
   obtain⟨C',hC'⟩:∃C',C'=C.set i' (setK ns u g k):=⟨_,rfl⟩
   have hCs:C'[i']?=some (setK ns u g k):=by rw[hC'];exact qap (by omega)
   have hCl':C'.map List.length=(rowsOf ss).map List.length:=by rw[hC',zoz hcur hwl,hcl2]
   have hidx:=zix 103 [.cp [.s nm,.i at'] 0] rfl (fun s=>s.name == nm) (zde ss C') (by rw[zdr];omega) (fun s=>zhU s nm at')
   have hCn:C'.length=2*ss.length:=by have:=congrArg List.length hCl';rw[qad,qad]at this;omega
   have hlent:LeB (GA l n es jj ss C' (gs.map ggT).length) (rowV 6 ss.length 4) (.t (.sl 6 ((zde ss C').map staT))):=LeB.row rfl (fun j c hc=>znk (fun k=>5+k) 0 ss C' hCl' (fun a w haw=>by
    have:=(qaa.1 haw).1
    rw[show 2*0+a=a by omega]
    exact(zkr _ (by omega)).trans (congrArg some (ze3 haw))) j c hc) (by rw[qad,zdr]) (fun e he=>by obtain⟨q,_,rfl⟩:=qa2.1 he;rw[zdc];rfl)
   show TR _ _ _ [(0,.ref 0 0),(4,.ref 1 0),(5,.ref 2 0),(10,.i i'),(77,.sl 1 (gs.map ggT) 3),(78,.i (gs.map ggT).length),(79,.i i'),(84,.t (.sl 2 (g.map goT))),(85,.i (g.map goT).length),(86,.i k)] (GA l n es jj ss (C.set i' (setK ns u g k)) (gs.map ggT).length) _
   rw[<-hC']
   rcases zo1 nm (zde ss C') 0 with ⟨z1,z2⟩|⟨q,z1,z2,z3⟩
   ·rw[zet,<-hns]at z2
    rw[z1]at hidx
    have m12:=zbi l n es jj at' 6 (by decide) hl
    have hc0:(6:Int)≠0:=by decide
    have hfx:zd9 ns gs= .er at' 6:=by
     have h1:=zkP hgi
     have h2:=zkP hgk
     have:=zks (gs:=gs.take i') (rs:=gs.drop (i'+1)) (r:=g.drop (k+1)) (k:=at') ha hb z2
     rw[<-h2,<-h1]at this
     exact this
    rw[hfx]at hr
    simp only at hr
    refine wk ?_
    repeat' (first|refine wkt ?_|refine wka ?_|refine zqn ?_|(apply TO.zmn hidx;(iterate 3 exact rfl);exact⟨hlent,LeB.fn1 _ (LeB.cp _ _),trivial⟩;exact Rigid.v _)|refine we m12 ?_ ?_|refine wk ?_|exact wkc|intro hc|refine wk2 ?_ ?_|fail)
    repeat' (first|refine zac.panic ?_|refine wk ?_|fail)
    refine rdPX hr.symm hc0 ?_
    exact leB
   ·rw[zet,<-hns,qaM]at z3
    rw[z2]at hidx
    rw[zdr]at z1
    have hst:=zni (ns:=ns) hln huk hgk z3
    have hts:=zkY _ k _ q hw
    rw[hst]at hts
    have hbk:(GA l n es jj ss C' (gs.map ggT).length)[4]?=some (.cells (stC ss)):=congrArg some (zbR (by omega))
    have hgetX:(GA l n es jj ss C' (gs.map ggT).length)[5+i']?=some (.cells ((trCs (setK ns u g k)).map .t)):=by
     refine(zkr _ (by omega)).trans ?_
     rw[ze3 hCs,zbR (by omega)]
    have hoffX:0+((k:Int)).toNat*8+6<((trCs (setK ns u g k)).map SV.t).length:=by
     rw[qad,zhZ]
     show 0+k*8+6<_
     omega
    have hqT:SV.i (q:Int)= .n (toI (q:Int)):=congrArg (fun z=>SV.t (T.v (Value.int .i64 z))) (zci (by omega)).symm
    have hsetX:(GA l n es jj ss C' (gs.map ggT).length).set (5+i') (.cells (((trCs (setK ns u g k)).map SV.t).set (0+((k:Int)).toNat*8+6) (.i (q:Int))))=GA l n es jj ss (C.set i' (setK ns u g (k+1))) (gs.map ggT).length:=by
     show List.set _ _ (Blk.cells (((trCs (setK ns u g k)).map SV.t).set (0+k*8+6) (.i (q:Int))))=_
     rw[show 0+k*8+6=8*k+6 by omega,hqT,hts]
     refine(zn3 _ (by omega) _).trans ?_
     have h1:=zq3 (R:=C') (i:=i') (w:=setK ns u g (k+1)) (by omega)
     rw[zbR (by rw[zkN hln];omega)]at h1
     rw[h1,hC',qci]
    have hsg:=znj (fun k=>5+k) i' 0 ss u hui
    rw[show 2*0+i'=i' by omega]at hsg
    by_cases hpar:i' % 2=0
    ·have hc4:(stC ss)[0+(((i' / 2:Nat):Int)).toNat*6+4]?=some (rowV 8 u.length (5+i')):=by
      show(stC ss)[0+(i' / 2)*6+4]?=_
      rw[show 0+(i' / 2)*6+4=6*(i' / 2)+4+i' % 2 by omega]
      exact hsg
     exact zwf
    ·have hc4:(stC ss)[0+(((i' / 2:Nat):Int)).toNat*6+5]?=some (rowV 8 u.length (5+i')):=by
      show(stC ss)[0+(i' / 2)*6+5]?=_
      rw[show 0+(i' / 2)*6+5=6*(i' / 2)+4+i' % 2 by omega]
      exact hsg
     exact zwf
  ·show TR _ _ _ [(0,.ref 0 0),(4,.ref 1 0),(5,.ref 2 0),(10,.i i'),(77,.sl 1 (gs.map ggT) 3),(78,.i (gs.map ggT).length),(79,.i i'),(84,.t (.sl 2 (g.map goT))),(85,.i (g.map goT).length),(86,.i g.length)] (GA l n es jj ss (C.set i' (setK ns u g g.length)) (gs.map ggT).length) _
   rw[zox hln,hcst]
   refine wk ?_
   repeat' (first|refine zqn ?_|refine wk ?_|exact wkc|intro hc|refine wk2 ?_ ?_|fail)
   refine zac.zb0 hi' fun y hy=>?_
   rw[qbx,hgi]at hy
   rcases qbi.1 hy with hy|hy
   ·exact ha y hy
   ·simp at hy
    subst hy
    rw[qbd]at hb
    exact hb
 ·rw[qbd]at ha
  obtain⟨jss,hfx,hfs⟩:=zku ha
  replace hfs:=hfs ss hgl
  rw[hfx]at hr
  simp only at hr
  rw[hfs]at hr
  show TR _ _ _ [(0,.ref 0 0),(4,.ref 1 0),(5,.ref 2 0),(77,.sl 1 (gs.map ggT) 3),(78,.i (gs.map ggT).length),(79,.i gs.length)] (GA l n es jj ss (curR ns (rowsOf ss) gs gs.length) (gs.map ggT).length) _
  rw[znS hRg]
  obtain⟨C,hC⟩:∃C,C=List.zipWith (setG ns) (rowsOf ss) gs:=⟨_,rfl⟩
  have hCl:C.map List.length=(rowsOf ss).map List.length:=by rw[hC,zgx q5]
  rw[<-hC]at hr⊢
  rcases Nat.eq_zero_or_pos ss.length with h0|hp
  ·have hse:ss=[]:=qay h0
   have hre:zde ss C=[]:=qay (by rw[zdr,h0])
   rw[hre]at hr
   subst hse
   refine wk ?_
   repeat' (first|refine zqn ?_|refine wk ?_|exact wkc|intro hc|refine wk2 ?_ ?_|fail)
   refine zdL.ret ?_
   apply rdV hr.symm
   ·exact rfl
   ·rw[<-hr]
    show Le _ (.t (zaG (.mk [])))
    rw[zdt]
    exact zqa
   all_goals exact rfl
  ·refine wk ?_
   refine zjz hCl q4 hp ?_
   refine TO.zeZ 2 0 6 4 ss.length (ts:=(((zde ss C).map staT).map T.cells).flatten) (es:=(zde ss C).map staT) (by decide) rfl rfl (congrArg some (zbR hp).symm) rfl (by rw[qad,zdr]) (fun e he=>by obtain⟨q,_,rfl⟩:=qa2.1 he;rw[zdc];rfl) rfl rfl ?_
   repeat' (first|refine zqn ?_|refine wk ?_|exact wkc|intro hc|refine wk2 ?_ ?_|fail)
   refine zdL.ret ?_
   apply rdV hr.symm
   ·exact rfl
   ·rw[<-hr]
    show Le _ (.t (zaG (.mk (zde ss C))))
    rw[zdt]
    exact Le.toT rfl
   all_goals exact rfl
end Go.Proofs.YtpfnfpaahefdaaaGreat
