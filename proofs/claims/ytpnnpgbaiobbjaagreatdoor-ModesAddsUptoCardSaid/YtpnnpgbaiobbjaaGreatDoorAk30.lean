import Derived.Test.YtpnnpgbaiobbjaaGreatDoorAk29
set_option linter.all false
namespace Go.Proofs.YtpnnpgbaiobbjaaGreatDoor
open Go Go.TL
attribute [local irreducible] TR TO Then zao RetK Sound zab Kf GG zaZ
theorem znP:∀(l:List Sta) (s:Lc) (i:Nat) (st:Sta),l[i]?=some st->∃c,(zb5 s l).2[i]?=some c/\c.length=st.unl.length
 | [],_,_,_,h=>by simp at h
 | x::l,s,0,st,h=>by
   simp at h
   subst h
   exact⟨(cndS s x.unl).2,rfl,zcq _ _ _⟩
 | x::l,s,i+1,st,h=>znP l (cndS s x.unl).1 i st (by simpa using h)
theorem zkO:∀(l:List Sta) (s:Lc),(∀x∈l,x.unl.length≤4)->∀c∈(zb5 s l).2,c.length≤4
 | [],_,_,c,h=>by cases h
 | x::l,s,hu,c,h=>by
   have h1:c∈(cndS s x.unl).2::(zb5 (cndS s x.unl).1 l).2:=h
   rcases qbe.1 h1 with rfl|h1
   ·rw[show(cndS s x.unl).2.length=x.unl.length from zcq _ _ _]
    exact hu x (qas ..)
   ·exact zkO l _ (fun y hy=>hu y (qar _ hy)) c h1
structure BK (x0:KS) (v n j:Nat) (x:KS):Prop where
 same:x= { x0 with a:=x.a,L:=x.L,bodies:=x.bodies,parts:=x.parts }
 bl:x.bodies.length=j
 pl:x.parts.length=j
 pa:∀p∈x.parts,p.length=x0.defs.length+2
 ins:∀b∈x.bodies,b.ins.length≤v
 room:Room x.a n
 L:x.L.length≤x0.L.length+j*(x0.defs.length+2)
theorem zrr(x:KS)(i:Nat)(s:Lc):(zgX x i s).2.length=x.defs.length+2/\(zgX x i s).1.2.length=s.2.length+x.defs.length+2:=by
 unfold zgX
 dsimp only
 refine⟨?_,?_⟩
 ·rw[qae,show(prtS (onL x x.now i) s x.defs).2.length=x.defs.length from zcq _ _ _]
  rfl
 ·have h:=zj9 (onL x x.now i) x.defs s
  simp only[locF,qae,qam,qaD,h]
theorem zpi(x:KS)(i:Nat)(s:Lc)(n:Nat)(h:Room s.1 (n+(x.defs.length+2))):Room (zgX x i s).1.1 n:=by
 unfold zgX
 dsimp only
 have h1:=zh9 (onL x x.now i) x.defs s (n+2) (h.mono (by omega))
 exact Room.loc1 (s:=_) (Room.loc1 (s:=_) h1 (by decide)) (by decide)
theorem zi2(x:KS)(i:Nat)(s:Sta)(vars:List Decl)(n:Nat)(hu:s.unt.length≤4)(h:Room x.a (n+7)):Room (zcB x i s vars).1 n:=by
 unfold zcB
 dsimp only
 have h1:Room (frF x.a zbM).1 (n+6):=Room.fr1 h (by decide)
 have h2:Room (frF (frF x.a zbM).1 zbo).1 (n+5):=Room.fr1 h1 (by decide)
 have h3:Room (frF (frF (frF x.a zbM).1 zbo).1 zcd).1 (n+4):=Room.fr1 h2 (by decide)
 have h0:zoF x s n 0 ((frF (frF (frF x.a zbM).1 zbo).1 zcd).1,⟨[],[],s.locals,s.eqs⟩):=⟨h3,by simp,by simp,by simp,by simp⟩
 have h4:=zgl h0 hu s.unt.length (qag _)
 rw[qah]at h4
 exact h4.room.mono (by omega)
theorem zkF(x:KS)(i:Nat)(s:Sta)(vars:List Decl):(zcB x i s vars).2.ins.length≤vars.length:=by
 have:=zg8 (zbF 100000000 s) x.defs vars []
 simp only[qaD]at this
 show(vars.foldl (insF (zbF 100000000 s) x.defs) []).length≤_
 omega
theorem BK.next{x0 x:KS}{vars:List Decl}{n j:Nat}(h:BK x0 vars.length (n+(x0.defs.length+9)) j x)(i:Nat)(s:Sta)(hu:s.unt.length≤4):BK x0 vars.length n (j+1) (zdN x i s vars):=by
 have hd:x.defs=x0.defs:=by rw[h.same]
 have hp:=zrr x i ((zcB x i s vars).1,x.L)
 rw[hd]at hp
 refine⟨?_,?_,?_,?_,?_,?_,?_⟩
 ·have:=h.same
  unfold zdN
  dsimp only
  rw[this]
 ·show(x.bodies++[_]).length=_
  rw[qae,h.bl]
  rfl
 ·show(x.parts++[_]).length=_
  rw[qae,h.pl]
  rfl
 ·intro p hm
  have hm':p∈x.parts++[(zgX x i ((zcB x i s vars).1,x.L)).2]:=hm
  rcases qaF.1 hm' with hm'|hm'
  ·exact h.pa p hm'
  ·rw[qaG.1 hm']
   exact hp.1
 ·intro b hm
  have hm':b∈x.bodies++[(zcB x i s vars).2]:=hm
  rcases qaF.1 hm' with hm'|hm'
  ·exact h.ins b hm'
  ·rw[qaG.1 hm']
   exact zkF x i s vars
 ·show Room (zgX x i ((zcB x i s vars).1,x.L)).1.1 n
  refine zpi x i _ n ?_
  rw[hd]
  exact zi2 x i s vars _ hu (h.room.mono (by omega))
 ·show(zgX x i ((zcB x i s vars).1,x.L)).1.2.length≤_
  rw[hp.2]
  have:=h.L
  rw[qbc]
  dsimp only
  omega
theorem zk6{l:List (List Str)}{i j:Nat}{c:List Str}(h:l[i]?=some c)(hj:j<c.length):∃d,l[i]?=some d/\d[j]?=some ((l[i]?.bind (·[j]?)).getD []):=by
 refine⟨c,h,?_⟩
 rw[h]
 simp[hj]
theorem zvB{x0 x:KS}{v n:Nat}{s0:Lc}(h:BK x0 v n x0.sts.length x)(hv:v≤1000000)(hl:x0.sts.length≤8)(hu:∀s∈x0.sts,s.unl.length≤4)(hc:x0.cs=(zb5 s0 x0.sts).2)(hd:x0.defs.length≤100000):KOk x:=by
 have e1:x.sts=x0.sts:=by rw[h.same]
 have e2:x.cs=x0.cs:=by rw[h.same]
 have e3:x.defs=x0.defs:=by rw[h.same]
 refine⟨by rw[e1];exact hl,by rw[e1];exact hu,fun i s hs j hj=>?_,?_,fun l hm=>?_,fun i hi j hj=>?_,by rw[h.pl];omega,fun l hm=>by rw[h.pa l hm];omega,⟨by rw[h.bl,e1],by rw[h.pl,e1]⟩,fun b hb=>qaE (h.ins b hb) hv,by rw[e3];omega⟩
 ·rw[e1]at hs
  obtain⟨c,g1,g2⟩:=znP x0.sts s0 i s hs
  have h1:x.cs[i]?=some c:=by rw[e2,hc];exact g1
  exact zk6 h1 (by rw[g2];exact hj)
 ·rw[e2,hc,show(zb5 s0 x0.sts).2.length=x0.sts.length from zcq _ _ _]
  omega
 ·rw[e2,hc]at hm
  have:=zkO x0.sts s0 hu l hm
  omega
 ·rw[e1]at hi
  have h1:x.parts[i]?=some (x.parts[i]'(by rw[h.pl];exact hi)):=qac _
  have h2:=h.pa _ (qat h1)
  refine zk6 h1 ?_
  rw[h2]
  have:(lefts x).length=x.defs.length+2:=by unfold lefts;simp
  rw[e3]at this
  omega
abbrev nH (a:List Str)(es:List T)(c:Nc)(L Q:List T):Heap:=[setB a,adB,axB,.tail es.length,exB es,ndB c L Q,.tail L.length,.tail Q.length]
def defO(vars:List Decl)(o:List Decl)(s:Str):List Decl:=if 0≤idxI (fun d:Decl=>decide (d.name=s)) vars then o++[⟨s,((vars[(idxI (fun d:Decl=>decide (d.name=s)) vars).toNat]?).map Decl.ty).getD z64,[]⟩] else o
def zaU(vars:List Decl)(au:Auto):List Decl:=(zdk 100000000 [] [au]).foldl (defO vars) []
theorem znT(vars:List Decl):∀(l:List Str) (o:List Decl),(l.foldl (defO vars) o).length≤o.length+l.length
 | [],o=>by simp
 | s::l,o=>by
   have h1:=znT vars l (defO vars o s)
   have h2:(defO vars o s).length≤o.length+1:=by unfold defO;split <;> simp
   simp only[qaU,qam]
   omega
def zcR(vars:List Decl)(x:KS)(l:List Sta):Nat×KS:=l.foldl (fun p s=>(p.1+1,zdN p.2 p.1 s vars)) (0,x)
theorem zhq(vars:List Decl):∀(l:List Sta) (p:Nat×KS),(l.foldl (fun p s=>(p.1+1,zdN p.2 p.1 s vars)) p).1=p.1+l.length
 | [],p=>rfl
 | s::l,p=>by rw[qaU,zhq vars l];simp only[qam];omega
def zbU(s:Lc)(es:List En)(c:Nc)(Q:List T)(vars:List Decl)(au:Auto):KS:=
 let d:=dclF s es.length au.states
 ⟨d.1.1,(es++[d.2.1]).map enT,c,d.1.2,Q,au.states,d.2.2.t,zaU vars au,d.2.2.was,d.2.2.flag,d.2.2.conds,d.2.2.now,d.2.2.reset,[],[],[],[]⟩
def zl3(s:Lc)(es:List En)(c:Nc)(Q:List T)(vars:List Decl)(au:Auto):KS:=
 let x:=(zcR vars (zbU s es c Q vars au) au.states).2
 let nx:=locF zbo x.t [] (x.a,x.L)
 let bk:=locF zcd bT [] nx.1
 let y:KS:={ x with a:=bk.1.1,L:=bk.1.2,next:=nx.2,back:=bk.2 }
 { y with Q:=y.Q++(zfv y).map equT }
theorem zkS(s:Lc)(n:Nat)(l:List Sta)(hl:l.length≤8)(hu:∀x∈l,x.unl.length≤4)(k:Nat)(h:Room s.1 (k+100)):Room (dclF s n l).1.1 k:=by
 unfold dclF
 dsimp only
 have h1:Room (frF s.1 ze9).1 (k+99):=Room.fr1 h (by decide)
 have h2:=zeN l _ (k+91) (h1.mono (by omega))
 have h3:Room (locF sWas (toI (3+n)) [] ((zce (frF s.1 ze9).1 l).1,s.2)).1.1 (k+90):=Room.loc1 (s:=((zce (frF s.1 ze9).1 l).1,s.2)) h2 (by decide)
 have h4:Room (locF zkd bT [] (locF sWas (toI (3+n)) [] ((zce (frF s.1 ze9).1 l).1,s.2)).1).1.1 (k+89):=Room.loc1 (s:=(locF sWas (toI (3+n)) [] ((zce (frF s.1 ze9).1 l).1,s.2)).1) h3 (by decide)
 have h5:=zf2 l _ (k+2) hu (h4.mono (by omega))
 exact Room.loc1 (s:=_) (Room.loc1 (s:=_) h5 (by decide)) (by decide)
theorem znR(s:Lc)(n:Nat)(l:List Sta)(hl:l.length≤8)(hu:∀x∈l,x.unl.length≤4):(dclF s n l).1.2.length≤s.2.length+40:=by
 unfold dclF
 dsimp only
 have h:=zhx l (locF zkd bT [] (locF sWas (toI (3+n)) [] ((zce (frF s.1 ze9).1 l).1,s.2)).1).1 hu
 simp only[locF,qae,qam,qaD]at h⊢
 omega
set_option maxHeartbeats 16000000 in
theorem zgQ (s:Lc) (es:List En) (c:Nc) (Q:List T) (vars:List Decl) (au:Auto) (hw:(zae au).w≤90000000) (hl:au.states.length≤8) (hu:∀x∈au.states,x.unl.length≤4/\x.unt.length≤4) (hd:(zaU vars au).length≤100000) (hv:vars.length≤1000000)
  (hR:Room s.1 ((zaU vars au).length*8+400)) (hL:s.2.length≤10000000) (hQ:Q.length≤10000000) (he:es.length≤10000000):
  Sound Tryz.prog 69 [.ref 4 0,.ref 5 0,.t (zac vars),.t (zae au)] (nH s.1 (es.map enT) c (s.2.map zaa) Q) (fun r H'=>r= .ret (.t (.sl 8 ((zl3 s es c Q vars au).bodies.map nodT)))/\
   H'=nH (zl3 s es c Q vars au).a (zl3 s es c Q vars au).es c ((zl3 s es c Q vars au).L.map zaa) (zl3 s es c Q vars au).Q):=by
 have cdf:=ziC au (by omega)
 have hND:=zg3 100000000 [] [au]
 have hNw:(T.sl 1 ([au].map zae)).w≤90000001:=by rw[w_sl];simp only[qaj,qay,qao,qaI];omega
 have hN7:(T.sl 7 (([]:List Equ).map equT)).w=1:=by rw[qay,w_sl];rfl
 have hmv:(vars.map zaa).length=vars.length:=qaa _
 have hml:(au.states.map staT).length=au.states.length:=qaa _
 have hdl:∀j,(((zdk 100000000 [] [au]).take j).foldl (defO vars) []).length≤100000000:=fun j=>by
  have:=znT vars ((zdk 100000000 [] [au]).take j) []
  simp only[qaD,qaV]at this
  omega
 have hDe:zaU vars au=(zdk 100000000 [] [au]).foldl (defO vars) []:=rfl
 generalize zdk 100000000 [] [au]=NM at*
 have hmN:(NM.map T.s).length=NM.length:=qaa _
 have hNl:NM.length≤200000000:=by omega
 rw[zbV]at cdf⊢
 refine so Tryz.func69 ?_
 repeat' (first|refine wkt ?_|refine zqy ?_|refine wv cdf ?_|refine zab.exit ?_|exact wkc|intro hc|refine wk2 ?_ ?_|fail)
 refine TR.zcA 3 8 4 rfl rfl rfl ?_
 refine TR.zcA 1 8 7 rfl rfl rfl ?_
 refine TR.zcA 8 8 10 rfl rfl rfl ?_
 refine TR.zcA 1 8 11 rfl rfl rfl ?_
 refine TR.zal NM.length (fun _=>True) (fun j=>[(2,.t (zac vars)),(7,.cp [.sl 6 (au.states.map staT)] 0),(9,.ref 8 0),(23,.t (.sl 1 (NM.map T.s))),(24,.i NM.length),(25,.i j)]) (fun j=>kH s.1 (es.map enT) c (s.2.map zaa) Q (k0 au.states (((NM.take j).foldl (defO vars) []).map zaa))) trivial (fun j hlt _=>?_) (fun _=>?_) ⟨rfl,rfl,rfl,rfl,by rw[<-hmN];rfl,rfl,trivial⟩ rfl
 ·have hx:=zar T.s hlt
  have hn:=zau (defO vars) [] hlt
  have hdj:=hdl j
  generalize (NM.take j).foldl (defO vars) []=D at*
  have hmD:(D.map zaa).length=D.length:=qaa _
  have hdo:defO vars D NM[j]=if 0≤idxI (fun d:Decl=>decide (d.name=NM[j])) vars then D++[⟨NM[j],((vars[(idxI (fun d:Decl=>decide (d.name=NM[j])) vars).toNat]?).map Decl.ty).getD z64,[]⟩] else D:=rfl
  rw[hdo]at hn
  clear hdo hdl hDe hd hR cdf hND hNw
  generalize NM[j]=nm at*
  have c2:=zdX 117 [.cp [.s nm] 0] rfl (fun d=>decide (d.name=nm)) vars (by omega) fun d=>zkB nm d
  rcases zdA (fun d:Decl=>decide (d.name=nm)) vars with h|⟨k,hk,h,_⟩
  ·rw[h]at c2 hn
   rw[if_neg (by decide)]at hn
   repeat' (first|refine wkt ?_|refine zqp ?_|refine wv c2 ?_|refine zab.exit ?_|exact wkc|intro hc|refine wk2 ?_ ?_|refine wk ?_|fail)
   exact zab.zat hlt trivial (by(try dsimp only);exact⟨rfl,rfl,rfl,rfl,rfl,rfl,trivial⟩) (by(try dsimp only);rw[hn])
  ·rw[h]at c2 hn
   rw[if_pos (by omega),qcv,qac hk,qa6,qch]at hn
   have hy:(vars.map zaa)[k]?=some (.ag [.s vars[k].name,T.n vars[k].ty,.sl 3 (vars[k].clock.map onT)]):=zar zaa hk
   generalize vars[k]=d at*
   repeat' (first|refine wkt ?_|refine zqp ?_|refine wv c2 ?_|refine zab.exit ?_|exact wkc|intro hc|refine wk2 ?_ ?_|fail)
   apply TR.zaw 0 (g:=True) [(_,0,1),(_,0,0),(_,0,0),(_,0,0),(_,0,0),(_,0,0),(_,0,0),(_,0,0),(_,0,0),(_,0,0),(_,0,0),(_,0,0),(_,0,0),(_,1,0),(_,1,1),(_,1,1),(.any,1,0)] [[setB s.1,adB,axB,.tail (es.map enT).length,exB (es.map enT),ndB c (s.2.map zaa) Q,.tail (s.2.map zaa).length,.tail Q.length,kB (k0 au.states (D.map zaa)),.tail (k0 au.states (D.map zaa)).defs.length,.tail (k0 au.states (D.map zaa)).conds.length,.tail (k0 au.states (D.map zaa)).bodies.length,.tail (k0 au.states (D.map zaa)).parts.length],[setB s.1,adB,axB,.tail (es.map enT).length,exB (es.map enT),ndB c (s.2.map zaa) Q,.tail (s.2.map zaa).length,.tail Q.length,kB (k0 au.states (D.map zaa)),.tail ((D.map zaa).length+1),.tail (k0 au.states (D.map zaa)).conds.length,.tail (k0 au.states (D.map zaa)).bodies.length,.tail (k0 au.states (D.map zaa)).parts.length],[setB s.1,adB,axB,.tail (es.map enT).length,exB (es.map enT),ndB c (s.2.map zaa) Q,.tail (s.2.map zaa).length,.tail Q.length,kB (k0 au.states (D.map zaa++[T.ag [.s nm,T.n d.ty,.sl 3 []]])),.tail ((D.map zaa).length+1),.tail (k0 au.states (D.map zaa++[T.ag [.s nm,T.n d.ty,.sl 3 []]])).conds.length,.tail (k0 au.states (D.map zaa++[T.ag [.s nm,T.n d.ty,.sl 3 []]])).bodies.length,.tail (k0 au.states (D.map zaa++[T.ag [.s nm,T.n d.ty,.sl 3 []]])).parts.length]] hmix
   case hB=>exact zqv
   case h0=>exact rfl
   case hp=>
    repeat' (first|exact trivial|exact⟨⟨rfl,rfl⟩,trivial⟩|exact qaf rfl rfl|refine qaf (fun env=>?_) ?_|refine qaf ?_ ?_|(apply TO.znI zag;(iterate 7 exact rfl);refine(?_:Le _ (.t (T.ag [_,_,.sl 3 []])));focus (exact zqb;done))|refine wma ?_|(apply TO.indexAddr zag;(iterate 8 exact rfl);omega;exact hy)|(apply TO.zbb zag;(iterate 13 exact rfl);exact zqn;exact rfl)|refine wmk ?_|fail)
    done
   case hc=>exact rfl
   case hF=>exact rfl
   case hE=>exact rfl
   intro _
   repeat' (first|refine wkt ?_|refine zab.exit ?_|exact wkc|intro hc|refine wk2 ?_ ?_|refine wk ?_|fail)
   exact zab.zat hlt trivial (by(try dsimp only);exact⟨rfl,rfl,rfl,rfl,rfl,rfl,trivial⟩) (by(try dsimp only);rw[hn,zfq];dsimp only[kH];rw[qae];rfl)
 rw[qah,<-hDe]
 clear hdl hDe hND hNw cdf
 have c3:=ziB s es au.states hl (fun x hx=>(hu x hx).1) (hR.mono (by omega)) (by omega) (by omega) c Q ((zaU vars au).map zaa)
 repeat' (first|refine wkt ?_|(apply TO.zaE 13 c3;(iterate 3 exact rfl);exact zqb;(iterate 8 exact rfl))|refine zab.exit ?_|exact wkc|intro hc|refine wk2 ?_ ?_|fail)
 obtain⟨x0,hx0⟩:∃x0:KS,x0=zbU s es c Q vars au:=⟨_,rfl⟩
 have s1:x0.sts=au.states:=by rw[hx0];rfl
 have s2:x0.defs=zaU vars au:=by rw[hx0];rfl
 have s3:x0.c=c:=by rw[hx0];rfl
 have hB0:BK x0 vars.length ((zaU vars au).length*8+200) 0 x0:=by
  refine⟨by rw[hx0],by rw[hx0];rfl,by rw[hx0];rfl,(by rw[hx0];intro p hp;cases hp),(by rw[hx0];intro p hp;cases hp),?_,by omega⟩
  rw[hx0]
  exact zkS s es.length au.states hl (fun x hx=>(hu x hx).1) _ (hR.mono (by omega))
 have hL0:x0.L.length≤s.2.length+40:=by rw[hx0];exact znR s es.length au.states hl (fun x hx=>(hu x hx).1)
 obtain⟨X,hX⟩:∃X:Nat->KS,X=fun j=>(zcR vars x0 (au.states.take j)).2:=⟨_,rfl⟩
 have hX0:X 0=x0:=by rw[hX];rfl
 have hXn:∀j (h:j<au.states.length),X (j+1)=zdN (X j) j au.states[j] vars:=fun j h=>by
  rw[hX]
  dsimp only
  unfold zcR
  rw[zau _ _ h]
  have:=zhq vars (au.states.take j) (0,x0)
  rw[qaV,qcn (qbs h)]at this
  rw[this,qaO]
 have hXB:∀j,j≤au.states.length->BK x0 vars.length ((zaU vars au).length*8+200-j*((zaU vars au).length+9)) j (X j):=fun j=>by
  induction j with
  | zero=>intro _;rw[hX0,qca,qcQ];exact hB0
  | succ j ih=>
    intro hj
    rw[hXn j hj]
    refine BK.next ?_ j _ (hu _ (qad hj)).2
    rw[s2]
    have h1:=ih (by omega)
    have h2:(j+1)*((zaU vars au).length+9)≤8*((zaU vars au).length+9):=qaC _ (by omega)
    rw[qbc]at h2⊢
    rw[show(zaU vars au).length*8+200-(j*((zaU vars au).length+9)+((zaU vars au).length+9))+((zaU vars au).length+9)=(zaU vars au).length*8+200-j*((zaU vars au).length+9) by omega]
    exact h1
 refine TR.zal au.states.length (fun _=>True) (fun j=>[(2,.t (zac vars)),(9,.ref 8 0),(54,.t (.sl 6 (au.states.map staT))),(55,.i au.states.length),(56,.i j)]) (fun j=>(X j).H) trivial (fun j hlt _=>?_) (fun _=>?_) ⟨rfl,rfl,rfl,by rw[<-hml];rfl,rfl,trivial⟩ (by(try dsimp only);rw[hX0,hx0];rfl)
 ·have hx:=zar staT hlt
  have hn:=hXn j hlt
  have hb:=hXB j (by omega)
  have hus:=hu _ (qad hlt)
  have hws:(staT au.states[j]).w≤100000000:=by
   have h1:=zav (f:=staT) (sz:=6) (qad hlt)
   have h2:=zbJ au
   omega
  have e3:(X j).defs=zaU vars au:=by rw[hb.same];exact s2
  have hjm:j*((zaU vars au).length+9)≤7*((zaU vars au).length+9):=qaC _ (by omega)
  have hjL:j*(x0.defs.length+2)≤7*(x0.defs.length+2):=qaC _ (by omega)
  rw[s2]at hjL
  have hbL:=hb.L
  rw[s2]at hbL
  have cb:=zl9 (X j) j au.states[j] vars (by omega) hws hus.2 (by rw[e3];exact hb.room.mono (by omega)) (by rw[e3];omega) hv (by omega) (by rw[hb.bl];omega) (by rw[hb.pl];omega)
  rw[<-hn]at cb
  clear hXn hXB hB0 hX
  generalize hx1:X (j+1)=x1 at*
  generalize X j=x at*
  generalize au.states[j]=st at*
  rw[za8]at hx cb
  repeat' (first|refine wkt ?_|refine wkaM ?_|refine zqp ?_|(apply TO.zaE 13 cb;(iterate 3 exact rfl);exact zqb;(iterate 8 exact rfl))|refine zab.exit ?_|exact wkc|intro hc|refine wk2 ?_ ?_|refine wk ?_|fail)
  exact zab.zat hlt trivial (by(try dsimp only);exact⟨rfl,rfl,rfl,rfl,rfl,trivial⟩) (by(try dsimp only);rw[hx1])
 have hb:=hXB au.states.length (qag _)
 have hXe:X au.states.length=(zcR vars x0 au.states).2:=by rw[hX];simp only[qah]
 have hcs:∃s0,x0.cs=(zb5 s0 x0.sts).2:=⟨(locF zkd bT [] (locF sWas (toI (3+es.length)) [] ((zce (frF s.1 ze9).1 au.states).1,s.2)).1).1,by rw[hx0];rfl⟩
 obtain⟨s0,hcs⟩:=hcs
 have hok:KOk (X au.states.length):=zvB (x0:=x0) (s0:=s0) (by rw[s1];exact hb) hv (by rw[s1];exact hl) (by rw[s1];exact fun q hq=>(hu q hq).1) hcs (by rw[s2];exact hd)
 have hbc:(X au.states.length).c=c:=by rw[hb.same];exact s3
 have hbq:(X au.states.length).Q=Q:=by rw[hb.same,hx0];rfl
 have hbe:(X au.states.length).defs=zaU vars au:=by rw[hb.same];exact s2
 have hbR:=hb.room
 have hbL:=hb.L
 have hjm:au.states.length*((zaU vars au).length+9)≤8*((zaU vars au).length+9):=qaC _ hl
 have hjL:au.states.length*(x0.defs.length+2)≤8*(x0.defs.length+2):=qaC _ hl
 rw[s2]at hjL hbL
 unfold zl3
 dsimp only
 rw[<-hx0,<-hXe]
 clear hXe hXB hXn hX hB0 hX0 hb
 generalize X au.states.length=x at*
 have c8:=zbg (x.a,x.L) (hbR.mono (by omega)) x.es x.c x.Q x.k (by dsimp only;omega) zbo (by decide) x.t []
 have hR8:Room (locF zbo x.t [] (x.a,x.L)).1.1 1:=Room.loc1 (s:=(x.a,x.L)) (hbR.mono (by omega)) (by decide)
 have hL8:(locF zbo x.t [] (x.a,x.L)).1.2.length=x.L.length+1:=by simp[locF]
 rcases hn8:locF zbo x.t [] (x.a,x.L)with ⟨⟨a1,L1⟩,n1⟩
 rw[hn8]at c8 hR8 hL8
 dsimp only at c8 hR8 hL8⊢
 have c9:=zbg (a1,L1) (hR8.mono (by decide)) x.es x.c x.Q { x.k with next:=n1 } (by dsimp only;omega) zcd (by decide) bT []
 rcases hn9:locF zcd bT [] (a1,L1)with ⟨⟨a2,L2⟩,n2⟩
 rw[hn9]at c9
 dsimp only at c9⊢
 have hoy:KOk { x with a:=a2,L:=L2,next:=n1,back:=n2 }:=⟨hok.sts,hok.unl,hok.cnd,hok.csl,hok.csm,fun i hi j hj=>hok.prt i hi j (by unfold lefts at hj⊢;simpa using hj),hok.prl,hok.prm,hok.bod,hok.ins,hok.defs⟩
 have ce:=zgS { x with a:=a2,L:=L2,next:=n1,back:=n2 } hoy (by dsimp only;rw[hbq];omega)
 dsimp only at ce
 repeat' (first|refine wkt ?_|(apply TO.zaE 13 c8;(iterate 3 exact rfl);exact zqb;(iterate 8 exact rfl))|(apply TO.zaE 13 c9;(iterate 3 exact rfl);exact zqb;(iterate 8 exact rfl))|(apply TO.zaE 13 ce;(iterate 3 exact rfl);exact zqb;(iterate 8 exact rfl))|refine zab.exit ?_|exact wkc|intro hc|refine wk2 ?_ ?_|refine wk ?_|fail)
 rw[<-hbc]
 exact RetK.keep 8 rfl (Le.own _ _ _) rfl rfl rfl rfl rfl ⟨rfl,rfl⟩
def oneA(a:List Str)(x:Ex):List Str:=if x.kind.1=11 then a else ins a x.name
def zbm(a:List Str)(e:Ex):List Str:=(flat e).foldl oneA a
def zcv:Nat->List Str->List Equ->List Auto->List Str
 | 0,a,_,_=>a
 | m+1,a,qs,l=>l.foldl (fun a x=>x.states.foldl (fun a s=>(s.unl++s.unt).foldl (fun a t=>zbm a t.cond) (zcv m (za1 (ins a s.name) s.locals) s.eqs s.autos)) a) (qs.foldl (fun a q=>zbm (q.left.foldl ins a) q.right) a)
def zfO(m:Nat)(a:List Str)(n:Nod):List Str:=n.ensure.foldl zbm (n.assume.foldl zbm (zcv m (za1 (ins a n.name) (zaB n)) n.eqs n.autos))
def zcg(m:Nat)(p:Prog):List Str:=p.nodes.foldl (zfO m) (p.enums.foldl ziD [])
theorem zrm{a:List Str}{x:Ex}(h:zaD a)(hx:zd7 x.name):zaD (oneA a x):=by
 unfold oneA
 split
 ·exact h
 ·exact h.ins hx
theorem zdc{a:List Str}{e:Ex}(h:zaD a)(he:zpx e):zaD (zbm a e):=zbj h fun a x hx ha=>zrm ha (he x hx)
theorem zfP:∀(m:Nat) (a:List Str) (qs:List Equ) (l:List Auto),zaD a->(T.sl 7 (qs.map equT)).w≤100000000->(T.sl 1 (l.map zae)).w≤100000000->zaD (zcv m a qs l)
 | 0,a,_,_,h,_,_=>h
 | m+1,a,qs,l,h,hq,hl=>by
   unfold zcv
   refine zbj (zbj h fun a q hh ha=>zdc (zbj ha fun a s hs ha=>ha.ins (zlm hq q hh s hs)) (zcy (by have:=(zjc hh).2.1;omega))) fun a x hx ha=>zbj ha fun a s hs ha=>?_
   have h1:=zgM hx hs
   refine zbj (zfP m _ _ _ (zex (ha.ins (by omega)) (zcx (by omega))) (by omega) (by omega)) fun a t ht ha=>zdc ha (zcy ?_)
   exact zwee
abbrev avH (a:List Str):Heap:=[setB a,.cells [.mp 0,.t (.v .nilFunc)],axB]
theorem zds(a:List Str)(ha:zaD a)(s:Str)(hs:zd7 s):Sound Tryz.prog 62 [.ref 1 0,.t (.sl 1 [T.s s])] (avH a) (fun r H'=>r= .ret (.tup [])/\H'=avH (ins a s)):=
 ze0 a ha [s] (fun x hx=>by rw[qaG.1 hx];exact hs) (by simp) (.t (.v .nilFunc)) rfl
theorem zkC(a:List Str)(ha:zaD a)(l:List Str)(hs:∀s∈l,zd7 s)(hl:l.length≤1000000000):Sound Tryz.prog 62 [.ref 1 0,.t (.sl 1 (l.map T.s))] (avH a) (fun r H'=>r= .ret (.tup [])/\H'=avH (l.foldl ins a)):=
 ze0 a ha l hs hl (.t (.v .nilFunc)) rfl
set_option maxHeartbeats 4000000 in
theorem zgE (a:List Str) (ha:zaD a) (ds:List Decl) (hl:(zac ds).w≤100000000):Sound Tryz.prog 63 [.ref 1 0,.t (zac ds)] (avH a) (fun r H'=>r= .ret (.tup [])/\H'=avH (za1 a ds)):=by
 have hd:=zcx hl
 have hml:(ds.map zaa).length=ds.length:=qaa _
 have hlb:ds.length≤100000000:=by
  have h1:=zai zaa 3 ds
  have h2:(zac ds).w=(T.sl 3 (ds.map zaa)).w:=rfl
  omega
 unfold za1
 obtain⟨f,hf⟩:∃f:List Str->Decl->List Str,f=fun a d=>d.clock.foldl (fun a o=>ins a o.name) (ins a d.name):=⟨_,rfl⟩
 rw[<-hf]
 have hok:=zdo (f:=f) (l:=ds) ha (fun a d hh ha=>by rw[hf];exact zbj (ha.ins (hd d hh).name) fun a o ho ha=>ha.ins ((hd d hh).ck o ho))
 refine so Tryz.func63 ?_
 repeat' (first|refine wkt ?_|fail)
 refine TR.zal ds.length (fun _=>True) (fun j=>[(0,.ref 1 0),(8,.t (zac ds)),(9,.i ds.length),(10,.i j)]) (fun j=>avH ((ds.take j).foldl f a)) trivial (fun j hlt _=>?_) (fun _=>?_) ⟨rfl,rfl,by rw[<-hml];rfl,rfl,trivial⟩ rfl
 ·have hx:=zar zaa hlt
  have hn:=zau f a hlt
  have hdd:=hd _ (qad hlt)
  have hk:=hok j
  generalize (ds.take j).foldl f a=acc at*
  have hfe:f acc ds[j]=ds[j].clock.foldl (fun a o=>ins a o.name) (ins acc ds[j].name):=by rw[hf]
  rw[hfe]at hn
  have hok2:=zdo (f:=fun a (o:OnC)=>ins a o.name) (l:=ds[j].clock) (hk.ins hdd.name) (fun a o ho ha=>ha.ins (hdd.ck o ho))
  have hnm:=hdd.name
  have hck:=hdd.ck
  have hfew:=hdd.few
  clear hfe hdd
  generalize ds[j]=d at*
  obtain⟨nm,ty,ck⟩:=d
  dsimp only[zaa]at hx hn hok2 hnm hck hfew
  have hmc:(ck.map onT).length=ck.length:=qaa _
  have c1:=zds acc hk nm hnm
  generalize ins acc nm=acc1 at*
  repeat' (first|refine wkt ?_|refine zqp ?_|(apply TO.zaE 3 c1;(iterate 3 exact rfl);exact zqb;(iterate 8 exact rfl))|refine zab.exit ?_|exact wkc|intro hc|refine wk2 ?_ ?_|fail)
  refine TR.zal ck.length (fun _=>True) (fun k=>[(0,.ref 1 0),(8,.t (zac ds)),(9,.i ds.length),(10,.i j),(20,.t (.sl 3 (ck.map onT))),(21,.i ck.length),(22,.i k)]) (fun k=>avH ((ck.take k).foldl (fun a o=>ins a o.name) acc1)) trivial (fun k hlk _=>?_) (fun _=>?_) ⟨rfl,rfl,rfl,rfl,rfl,by rw[<-hmc];rfl,rfl,trivial⟩ rfl
  ·have hy:=zar onT hlk
   have hn2:=zau (fun a (o:OnC)=>ins a o.name) acc1 hlk
   have hk2:=hok2 k
   have hs2:=hck _ (qad hlk)
   generalize (ck.take k).foldl (fun a (o:OnC)=>ins a o.name) acc1=acc2 at*
   generalize ck[k]=o at*
   obtain⟨onm,ot,otg⟩:=o
   dsimp only[onT]at hy hs2 hn2
   have c2:=zds acc2 hk2 onm hs2
   repeat' (first|refine wkt ?_|refine zqq ?_|(apply TO.zaE 3 c2;(iterate 3 exact rfl);exact zqb;(iterate 8 exact rfl))|refine zab.exit ?_|exact wkc|intro hc|refine wk2 ?_ ?_|refine wk ?_|fail)
   exact zab.zat hlk trivial (by(try dsimp only);exact⟨rfl,rfl,rfl,rfl,rfl,rfl,rfl,trivial⟩) (by(try dsimp only);rw[hn2])
  ·exact zwbj
 ·exact zwcf
abbrev axH (a:List Str):Heap:=avH a++[.cells [.ref 1 0]]
set_option maxHeartbeats 8000000 in
theorem zej (a:List Str) (ha:zaD a) (l:List Ex) (hl:(T.sl 6 (l.map exT)).w≤100000000):Sound Tryz.prog 65 [.ref 1 0,.t (.sl 6 (l.map exT))] (avH a) (fun r H'=>r= .ret (.tup [])/\H'=avH (l.foldl zbm a)):=by
 have hml:(l.map exT).length=l.length:=qaa _
 have hlb:=zai exT 6 l
 have hsE:∀e∈l,zpx e:=fun e he=>zcy (by have:=zav (f:=exT) (sz:=6) he;omega)
 have hok:=zdo (f:=zbm) (l:=l) ha (fun a e he ha=>zdc ha (hsE e he))
 refine so Tryz.func65 ?_
 repeat' (first|refine zqy ?_|refine wkb ?_|fail)
 refine TR.zal l.length (fun _=>True) (fun j=>[(2,.ref 3 0),(7,.t (.sl 6 (l.map exT))),(8,.i l.length),(9,.i j)]) (fun j=>axH ((l.take j).foldl zbm a)) trivial (fun j hlt _=>?_) (fun _=>?_) ⟨rfl,rfl,by rw[<-hml];rfl,rfl,trivial⟩ rfl
 ·have hx:=zar exT hlt
  have hn:=zau zbm a hlt
  have hk:=hok j
  have he:=hsE _ (qad hlt)
  have hw:wEx l[j]≤1000000000:=by have h1:=zdI l[j];have h2:=zav (f:=exT) (sz:=6) (qad hlt);omega
  generalize (l.take j).foldl zbm a=acc at*
  generalize l[j]=e at*
  have hs:=zcN e
  rw[zay]at hs hx
  have hc0:exC e=[T.n e.kind,T.n e.op,T.n e.t,T.n e.v,.s e.name,.sl 6 (e.args.map exT)]:=rfl
  rw[hc0]at hs hx
  clear hsE hok
  repeat' (first|refine wkt ?_|refine zqp ?_|refine wv hs ?_|refine zab.exit ?_|exact wkc|intro hc|refine wk2 ?_ ?_|fail)
  refine TR.zdF e (fun pre=>axH (pre.foldl oneA acc)) (fun _ _=>.go) rfl hw rfl rfl rfl (fun _=>⟨rfl,rfl⟩) (fun _ _=>trivial) (fun fn pre x post hf=>?_) (fun fn=>?_)
  ·have hxm:x∈flat e:=by rw[hf];simp
   have hnm:=he x hxm
   have hk2:zaD (pre.foldl oneA acc):=zbj hk fun a y hy ha=>zrm ha (he y (by rw[hf];exact qby _ hy))
   have hone:(pre++[x]).foldl oneA acc=oneA (pre.foldl oneA acc) x:=by rw[qbm];rfl
   generalize pre.foldl oneA acc=ac2 at*
   have hol:oneA ac2 x=if x.kind.1=11 then ac2 else ins ac2 x.name:=rfl
   have hcx:exC x=[T.n x.kind,T.n x.op,T.n x.t,T.n x.v,.s x.name,.sl 6 (x.args.map exT)]:=rfl
   rw[hcx]
   clear hf hxm hs
   by_cases h0:x.kind.1=11
   ·rw[if_pos h0]at hol
    repeat' (first|refine wu ?_|exact wkc|intro hc|refine wk2 ?_ ?_|fail)
    refine⟨rfl,?_⟩
    repeat' (first|refine wu ?_|exact wkc|intro hc|refine wk2 ?_ ?_|fail)
    all_goals exact zwdy
   ·rw[if_neg h0]at hol
    have c1:=zds ac2 hk2 x.name hnm
    repeat' (first|refine wu ?_|exact wkc|intro hc|refine wk2 ?_ ?_|fail)
    refine⟨rfl,?_⟩
    repeat' (first|refine wu ?_|exact wkc|intro hc|refine wk2 ?_ ?_|(apply TO.zaE 3 c1;(iterate 3 exact rfl);exact zqb;(iterate 8 exact rfl))|fail)
    all_goals exact zwdy
  ·rw[zrA]
   repeat' (first|refine wkt ?_|refine zab.exit ?_|exact wkc|intro hc|refine wk2 ?_ ?_|refine wk ?_|fail)
   exact zab.ziJ 4 hlt trivial rfl rfl (by(try dsimp only);rw[hn];rfl) rfl rfl (by(try dsimp only);exact⟨rfl,rfl,rfl,rfl,trivial⟩)
 ·exact zwcf
theorem zqJ(f:List Str->Ex->List Str)(a:List Str)(e:Ex):[e].foldl f a=f a e:=rfl
theorem zjd(a:List Str)(ha:zaD a)(e:Ex)(he:(exT e).w≤99999990):Sound Tryz.prog 65 [.ref 1 0,.t (.sl 6 [.ag (exC e)])] (avH a) (fun r H'=>r= .ret (.tup [])/\H'=avH (zbm a e)):=by
 have:=zej a ha [e] (by rw[w_sl];simp only[qaj,qay,qao,qaI];omega)
 rw[zqJ]at this
 simp only[qaj,qay]at this
 rw[zay]at this
 exact this
set_option maxHeartbeats 8000000 in
theorem zhr:∀(m:Nat) (a:List Str) (qs:List Equ) (l:List Auto),zaD a->(T.sl 7 (qs.map equT)).w≤90000000->(T.sl 1 (l.map zae)).w≤90000000->(T.sl 1 (l.map zae)).w≤m->
  Sound Tryz.prog 64 [.ref 1 0,.t (.sl 7 (qs.map equT)),.t (.sl 1 (l.map zae))] (avH a) (fun r H'=>r= .ret (.tup [])/\H'=avH (zcv m a qs l))
 | 0,_,_,l,_,_,_,hm=>by have:=ziS (T.sl 1 (l.map zae));omega
 | m+1,a,qs,l,ha,hq,hl,hm=>by
   have ih:=zhr m
   have hmq:(qs.map equT).length=qs.length:=qaa _
   have hml:(l.map zae).length=l.length:=qaa _
   have hqb:=zai equT 7 qs
   have hlb:=zai zae 1 l
   have hqe:=fun q hh=>(zjc (l:=qs) (q:=q) hh)
   have hss:=zlm (qs:=qs) (by omega)
   unfold zcv
   obtain⟨f,hf⟩:∃f:List Str->Equ->List Str,f=fun a q=>zbm (q.left.foldl ins a) q.right:=⟨_,rfl⟩
   obtain⟨fs,hfs⟩:∃fs:List Str->Sta->List Str,fs=fun a s=>(s.unl++s.unt).foldl (fun a t=>zbm a t.cond) (zcv m (za1 (ins a s.name) s.locals) s.eqs s.autos):=⟨_,rfl⟩
   obtain⟨g,hg⟩:∃g:List Str->Auto->List Str,g=fun a x=>x.states.foldl fs a:=⟨_,rfl⟩
   rw[<-hf]
   rw[show(fun(a:List Str) (x:Auto)=>x.states.foldl (fun a s=>(s.unl++s.unt).foldl (fun a t=>zbm a t.cond) (zcv m (za1 (ins a s.name) s.locals) s.eqs s.autos)) a)=g by rw[hg,hfs]]
   have hokL:∀a,zaD a->∀q∈qs,zaD (q.left.foldl ins a):=fun a ha q hq=>zbj ha fun a s hs ha=>ha.ins (hss q hq s hs)
   have hok:=zdo (f:=f) (l:=qs) ha (fun a q hh ha=>by rw[hf];exact zdc (hokL a ha q hh) (zcy (by have:=(hqe q hh).2.1;omega)))
   have hokS:∀x∈l,∀s∈x.states,∀a,zaD a->zaD (fs a s):=fun x hx s hs a ha=>by
    have h1:=zgM hx hs
    rw[hfs]
    refine zbj (zfP m _ _ _ (zex (ha.ins (by show _≤_;omega)) (zcx (by omega))) (by omega) (by omega)) fun a t ht ha=>zdc ha (zcy ?_)
    exact zwee
   have hok1:=hok qs.length
   rw[qah]at hok1
   have hokA:=zdo (f:=g) (l:=l) hok1 (fun a x hx ha=>by rw[hg];exact zbj ha fun a s hs ha=>hokS x hx s hs a ha)
   refine so Tryz.func64 ?_
   repeat' (first|refine wkt ?_|fail)
   refine TR.zal qs.length (fun _=>True) (fun j=>[(0,.ref 1 0),(2,.t (.sl 1 (l.map zae))),(14,.t (.sl 7 (qs.map equT))),(15,.i qs.length),(16,.i j)]) (fun j=>avH ((qs.take j).foldl f a)) trivial (fun j hlt _=>?_) (fun _=>?_) ⟨rfl,rfl,rfl,by rw[<-hmq];rfl,rfl,trivial⟩ rfl
   ·have hx:(qs.map equT)[j]?=some (.ag [T.sl 1 (qs[j].left.map T.s),T.n qs[j].right.kind,T.n qs[j].right.op,T.n qs[j].right.t,T.n qs[j].right.v,T.s qs[j].right.name,T.sl 6 (qs[j].right.args.map exT)]):=zar equT hlt
    have hn:=zau f a hlt
    have hk:=hok j
    have hwq:=hqe _ (qad hlt)
    have hsq:=hss _ (qad hlt)
    have hkl:=hokL _ hk _ (qad hlt)
    generalize (qs.take j).foldl f a=acc at*
    have hfe:f acc qs[j]=zbm (qs[j].left.foldl ins acc) qs[j].right:=by rw[hf]
    rw[hfe]at hn
    have c1:=zkC acc hk qs[j].left hsq (by omega)
    generalize qs[j].left.foldl ins acc=a1 at*
    have c2:=zjd a1 hkl qs[j].right (by omega)
    generalize zbm a1 qs[j].right=a2 at*
    unfold exC at c2
    clear hfe ih hokA hokS hok hokL
    generalize qs[j]=q at*
    repeat' (first|refine wkt ?_|refine zqp ?_|(apply TO.zaE 3 c1;(iterate 3 exact rfl);exact zqb;(iterate 8 exact rfl))|(apply TO.zaE 3 c2;(iterate 3 exact rfl);exact zqb;(iterate 8 exact rfl))|refine zab.exit ?_|exact wkc|intro hc|refine wk2 ?_ ?_|refine wk ?_|fail)
    exact zwda
   rw[qah]
   clear hok hqe hss hokL
   generalize qs.foldl f a=a1 at*
   repeat' (first|refine wkt ?_|refine zab.exit ?_|exact wkc|intro hc|refine wk2 ?_ ?_|fail)
   refine TR.zal l.length (fun _=>True) (fun j=>[(0,.ref 1 0),(30,.t (.sl 1 (l.map zae))),(31,.i l.length),(32,.i j)]) (fun j=>avH ((l.take j).foldl g a1)) trivial (fun j hlt _=>?_) (fun _=>?_) ⟨rfl,rfl,by rw[<-hml];rfl,rfl,trivial⟩ rfl
   ·have hx:=zar zae hlt
    rw[zbV]at hx
    have hn:=zau g a1 hlt
    have hk:=hokA j
    have hoS:=hokS _ (qad hlt)
    have hsi:=fun s hs=>zgM (qad hlt) (s:=s) hs
    have hsb:l[j].states.length≤100000000:=by
     exact zwcw
    generalize (l.take j).foldl g a1=acc at*
    have hge:g acc l[j]=l[j].states.foldl fs acc:=by rw[hg]
    rw[hge]at hn
    have hok2:=zdo (f:=fs) (l:=l[j].states) hk (fun a s hs ha=>hoS s hs a ha)
    clear hge hokA hokS
    generalize l[j]=x at*
    obtain⟨sts⟩:=x
    simp only[Auto.states]at hx hn hoS hsi hok2 hsb
    have hmc:(sts.map staT).length=sts.length:=qaa _
    repeat' (first|refine wkt ?_|refine zqp ?_|refine zab.exit ?_|exact wkc|intro hc|refine wk2 ?_ ?_|fail)
    refine TR.zal sts.length (fun _=>True) (fun k=>[(0,.ref 1 0),(30,.t (.sl 1 (l.map zae))),(31,.i l.length),(32,.i j),(37,.t (.sl 6 (sts.map staT))),(38,.i sts.length),(39,.i k)]) (fun k=>avH ((sts.take k).foldl fs acc)) trivial (fun k hlk _=>?_) (fun _=>?_) ⟨rfl,rfl,rfl,rfl,rfl,by rw[<-hmc];rfl,rfl,trivial⟩ rfl
    ·have hy:=zar staT hlk
     rw[za8]at hy
     have hn2:=zau fs acc hlk
     have hk2:=hok2 k
     have hw:=hsi _ (qad hlk)
     generalize (sts.take k).foldl fs acc=acc2 at*
     have hfse:fs acc2 sts[k]=(sts[k].unl++sts[k].unt).foldl (fun a t=>zbm a t.cond) (zcv m (za1 (ins acc2 sts[k].name) sts[k].locals) sts[k].eqs sts[k].autos):=by rw[hfs]
     rw[hfse]at hn2
     have c1:=zds acc2 hk2 sts[k].name (by show _≤_;omega)
     have hk3:=hk2.ins (s:=sts[k].name) (by omega)
     generalize ins acc2 sts[k].name=a3 at*
     have c2:=zgE a3 hk3 sts[k].locals (by omega)
     have hk4:=zex (ds:=sts[k].locals) hk3 (zcx (by omega))
     generalize za1 a3 sts[k].locals=a4 at*
     have c3:=ih a4 sts[k].eqs sts[k].autos hk4 (by omega) (by omega) (by omega)
     have hk5:=zfP m a4 sts[k].eqs sts[k].autos hk4 (by omega) (by omega)
     generalize zcv m a4 sts[k].eqs sts[k].autos=a5 at*
     have hu1:=zai zah 8 sts[k].unl
     have hu2:=zai zah 8 sts[k].unt
     have c4:=zkL (sts[k].unl.map zah) (by rw[qaa];omega)
     have mu1:(sts[k].unl.map zah).length=sts[k].unl.length:=qaa _
     have mu2:(sts[k].unt.map zah).length=sts[k].unt.length:=qaa _
     have htr:∀t∈sts[k].unl++sts[k].unt,(exT t.cond).w≤90000000:=fun t ht=>by
      exact zwee
     have hub2:sts[k].unl.length+sts[k].unt.length≤1000000000:=by omega
     have hub:(sts[k].unl++sts[k].unt).length≤1000000000:=by rw[qae];omega
     have hma:sts[k].unl.map zah++sts[k].unt.map zah=(sts[k].unl++sts[k].unt).map zah:=(qal ..).symm
     have hln:(sts[k].unl.map zah).length+(sts[k].unt.map zah).length=((sts[k].unl++sts[k].unt).map zah).length:=by rw[<-hma,qae]
     clear hfse hw hoS hsi hok2 ih
     generalize sts[k]=s at*
     repeat' (first|refine wkt ?_|refine zqq ?_|(apply TO.zaE 3 c1;(iterate 3 exact rfl);exact zqb;(iterate 8 exact rfl))|(apply TO.zaE 3 c2;(iterate 3 exact rfl);exact zqb;(iterate 8 exact rfl))|(apply TO.zaE 3 c3;(iterate 3 exact rfl);exact zqb;(iterate 8 exact rfl))|refine zab.exit ?_|exact wkc|intro hc|refine wk2 ?_ ?_|fail)
     apply TR.zaw 0 (g:=True) [(_,0,0),(_,0,0),(_,1,0),(_,0,1),(_,0,1),(_,1,0),(_,2,2),(_,0,2)] [avH a5,avH a5++[.tail (s.unl.map zah).length],avH a5++[.tail ((s.unl.map zah).length+(s.unt.map zah).length)]] hmix
     case hB=>exact zqv
     case h0=>exact rfl
     case hp=>
      repeat' (first|exact trivial|exact⟨⟨rfl,rfl⟩,trivial⟩|exact qaf rfl rfl|refine qaf (fun env=>?_) ?_|refine qaf ?_ ?_|refine wma ?_|(apply TO.zdv c4;(iterate 3 exact rfl);exact zqb;exact rfl)|(apply TO.zbb zag;(iterate 13 exact rfl);exact zqn;exact rfl)|refine wmk ?_|fail)
      done
     case hc=>exact rfl
     case hF=>exact rfl
     case hE=>exact rfl
     intro _
     rw[hma,hln]
     generalize s.unl++s.unt=tl at*
     have hok4:=zdo (f:=fun a (t:Tran)=>zbm a t.cond) (l:=tl) hk5 (fun a t ht ha=>zdc ha (zcy (by have:=htr t ht;omega)))
     have hmt:(tl.map zah).length=tl.length:=qaa _
     repeat' (first|refine wkt ?_|refine zab.exit ?_|exact wkc|intro hc|refine wk2 ?_ ?_|fail)
     refine TR.zal tl.length (fun _=>True) (fun i=>[(0,.ref 1 0),(30,.t (.sl 1 (l.map zae))),(31,.i l.length),(32,.i j),(37,.t (.sl 6 (sts.map staT))),(38,.i sts.length),(39,.i k),(63,.sl 8 (tl.map zah) 3),(64,.i tl.length),(65,.i i)]) (fun i=>avH ((tl.take i).foldl (fun a t=>zbm a t.cond) a5)++[.tail (tl.map zah).length]) trivial (fun i hli _=>?_) (fun _=>?_) ⟨rfl,rfl,rfl,rfl,rfl,rfl,rfl,rfl,by rw[<-hmt];rfl,rfl,trivial⟩ rfl
     ·have hz:(tl.map zah)[i]?=some (.ag [T.n tl[i].cond.kind,T.n tl[i].cond.op,T.n tl[i].cond.t,T.n tl[i].cond.v,.s tl[i].cond.name,.sl 6 (tl[i].cond.args.map exT),T.n tl[i].to,.b tl[i].resume]):=zar zah hli
      have hn3:=zau (fun a (t:Tran)=>zbm a t.cond) a5 hli
      have hk6:=hok4 i
      have hwt:=htr _ (qad hli)
      generalize (tl.take i).foldl (fun a (t:Tran)=>zbm a t.cond) a5=a6 at*
      have c5:=zjd a6 hk6 tl[i].cond (by omega)
      generalize zbm a6 tl[i].cond=a7 at*
      unfold exC at c5
      clear hok4
      generalize tl[i]=t at*
      repeat' (first|refine wkt ?_|refine zqr ?_|(apply TO.zaE 3 c5;(iterate 3 exact rfl);exact zqb;(iterate 8 exact rfl))|refine zab.exit ?_|exact wkc|intro hc|refine wk2 ?_ ?_|refine wk ?_|fail)
      exact zab.zat hli trivial (by(try dsimp only);exact⟨rfl,rfl,rfl,rfl,rfl,rfl,rfl,rfl,rfl,rfl,trivial⟩) (by(try dsimp only);rw[hn3];rfl)
     ·rw[qah,<-hn2]
      repeat' (first|refine wkt ?_|refine zab.exit ?_|exact wkc|intro hc|refine wk2 ?_ ?_|refine wk ?_|fail)
      exact zab.ziJ 3 hlk trivial rfl rfl rfl rfl rfl (by(try dsimp only);exact⟨rfl,rfl,rfl,rfl,rfl,rfl,rfl,trivial⟩)
    ·exact zwbj
   ·exact zwcf
theorem zof{a:List Str}{n:Nod}(ha:zaD a)(h:(nodT n).w≤90000000):zaD (zfO 100000000 a n):=by
 have hw:=zdJ n
 have h1:=zex (ha.ins (zod (qaE h (by decide)))) (zcx (zt2 h).2.2)
 have h2:=zfP 100000000 _ n.eqs n.autos h1 (by omega) (by omega)
 have hE:∀(l:List Ex),(T.sl 6 (l.map exT)).w≤90000000->∀a,zaD a->zaD (l.foldl zbm a):=fun l hl a ha=>zbj ha fun a e he ha=>zdc ha (zcy (by have:=zav (f:=exT) (sz:=6) he;omega))
 exact hE n.ensure (by omega) _ (hE n.assume (by omega) _ h2)
set_option maxHeartbeats 8000000 in
theorem zh4 (p:Prog) (hw:(T.ag (zax p)).w≤90000000):Sound Tryz.prog 26 [.t (.ag (zax p))] [] (fun r H'=>r= .ret (.ref 1 0)/\H'=adH (zcg 100000000 p)):=by
 have hm1:(p.enums.map enT).length=p.enums.length:=qaa _
 have hm2:(p.nodes.map nodT).length=p.nodes.length:=qaa _
 have hww:=hw
 rw[w_ag]at hww
 simp only[zax,zaC,qaj,qay,qao,qaI]at hww
 have hl1:=zai enT 2 p.enums
 have hl2:=zai nodT 8 p.nodes
 have hen:∀u∈p.enums,(enT u).w≤90000000:=fun u hu=>by have:=zav (f:=enT) (sz:=2) hu;omega
 have hno:∀n∈p.nodes,(nodT n).w≤90000000:=fun u hu=>by have:=zav (f:=nodT) (sz:=8) hu;omega
 have hb1:p.enums.length≤100000000:=by omega
 have hb2:p.nodes.length≤100000000:=by omega
 have hokE:=zdo (f:=ziD) (l:=p.enums) zaD.nil (fun a u hu ha=>zbj (ha.ins (zhB (qaE (hen u hu) (by decide))).1) fun a s hs ha=>ha.ins ((zhB (qaE (hen u hu) (by decide))).2.1 s hs))
 have hok1:=hokE p.enums.length
 rw[qah]at hok1
 have hokN:=zdo (f:=zfO 100000000) (l:=p.nodes) hok1 (fun a n hn ha=>zof ha (hno n hn))
 unfold zcg zax
 clear hw hww
 refine so Tryz.func26 ?_
 repeat' (first|refine wkt ?_|fail)
 repeat' (first|refine zqy ?_|refine zqx ?_|refine TR.region ?_|refine zqi ?_|refine zqh ?_|refine zqj ?_|refine zqg ?_|fail)
 refine TR.zal p.enums.length (fun _=>True) (fun j=>[(1,.cp [.sl 2 (p.enums.map enT),zaC p.nodes] 0),(3,.ref 2 0),(12,.t (.sl 2 (p.enums.map enT))),(13,.i p.enums.length),(14,.i j)]) (fun j=>avH ((p.enums.take j).foldl ziD [])) trivial (fun j hlt _=>?_) (fun _=>?_) ⟨rfl,rfl,rfl,by rw[<-hm1];rfl,rfl,trivial⟩ rfl
 ·have hx:(p.enums.map enT)[j]?=some (.ag [.s p.enums[j].name,.sl 1 (p.enums[j].tags.map T.s)]):=zar enT hlt
  have hn:=zau ziD [] hlt
  have hk:=hokE j
  obtain⟨g1,g2,g3⟩:=zhB (qaE (hen _ (qad hlt)) (by decide))
  generalize (p.enums.take j).foldl ziD []=acc at*
  have hfe:ziD acc p.enums[j]=p.enums[j].tags.foldl ins (ins acc p.enums[j].name):=rfl
  rw[hfe]at hn
  have c1:=zds acc hk p.enums[j].name g1
  have hk2:=hk.ins g1
  generalize ins acc p.enums[j].name=a1 at*
  have c2:=zkC a1 hk2 p.enums[j].tags g2 (by omega)
  generalize p.enums[j].tags.foldl ins a1=a2 at*
  clear hfe hokE hokN hen hno
  generalize p.enums[j]=u at*
  repeat' (first|refine wkt ?_|refine zqp ?_|(apply TO.zaE 3 c1;(iterate 3 exact rfl);exact zqb;(iterate 8 exact rfl))|(apply TO.zaE 3 c2;(iterate 3 exact rfl);exact zqb;(iterate 8 exact rfl))|refine zab.exit ?_|exact wkc|intro hc|refine wk2 ?_ ?_|refine wk ?_|fail)
  exact zwda
 rw[qah]
 clear hokE
 generalize p.enums.foldl ziD []=a0 at*
 repeat' (first|refine wkt ?_|refine zab.exit ?_|exact wkc|intro hc|refine wk2 ?_ ?_|fail)
 refine TR.zal p.nodes.length (fun _=>True) (fun j=>[(3,.ref 2 0),(29,.t (zaC p.nodes)),(30,.i p.nodes.length),(31,.i j)]) (fun j=>avH ((p.nodes.take j).foldl (zfO 100000000) a0)) trivial (fun j hlt _=>?_) (fun _=>?_) ⟨rfl,rfl,by rw[<-hm2];rfl,rfl,trivial⟩ rfl
 ·have hx:=zeV hlt
  have hn:=zau (zfO 100000000) a0 hlt
  have hk:=hokN j
  have hwn:=hno _ (qad hlt)
  generalize (p.nodes.take j).foldl (zfO 100000000) a0=acc at*
  have hnm:=zod (qaE hwn (by decide))
  obtain⟨v1,v2,v3⟩:=zt2 hwn
  have c0:=zcP p.nodes[j] v1 v2
  have c1:=zds acc hk p.nodes[j].name hnm
  have hfe:zfO 100000000 acc p.nodes[j]=p.nodes[j].ensure.foldl zbm (p.nodes[j].assume.foldl zbm (zcv 100000000 (za1 (ins acc p.nodes[j].name) (zaB p.nodes[j])) p.nodes[j].eqs p.nodes[j].autos)):=rfl
  rw[hfe]at hn
  have hk1:=hk.ins hnm
  generalize ins acc p.nodes[j].name=a1 at*
  have c2:=zgE a1 hk1 (zaB p.nodes[j]) v3
  have hk2:=zex hk1 (zcx v3)
  generalize za1 a1 (zaB p.nodes[j])=a2 at*
  have hws:=zdJ p.nodes[j]
  have c3:=zhr 100000000 a2 p.nodes[j].eqs p.nodes[j].autos hk2 (by omega) (by omega) (by omega)
  have hk3:=zfP 100000000 a2 p.nodes[j].eqs p.nodes[j].autos hk2 (by omega) (by omega)
  generalize zcv 100000000 a2 p.nodes[j].eqs p.nodes[j].autos=a3 at*
  have c4:=zej a3 hk3 p.nodes[j].assume (by omega)
  have hk4:zaD (p.nodes[j].assume.foldl zbm a3):=zbj hk3 fun a e he ha=>zdc ha (zcy (by have:=zav (f:=exT) (sz:=6) he;omega))
  generalize p.nodes[j].assume.foldl zbm a3=a4 at*
  have c5:=zej a4 hk4 p.nodes[j].ensure (by omega)
  generalize p.nodes[j].ensure.foldl zbm a4=a5 at*
  clear hfe hokN hno hen hws v1 v2 v3 hk1 hk2 hwn hk3 hk4
  generalize zaB p.nodes[j]=vs at*
  generalize p.nodes[j]=n at*
  unfold nodC at hx c0
  repeat' (first|refine wkt ?_|refine zqp ?_|(apply TO.zaE 3 c1;(iterate 3 exact rfl);exact zqb;(iterate 8 exact rfl))|refine zab.exit ?_|exact wkc|intro hc|refine wk2 ?_ ?_|fail)
  apply TR.zaw 0 (g:=True) [(_,0,0),(_,0,0),(_,0,0),(_,1,0)] [avH a1,avH a2] hmix
  case hB=>exact zqv
  case h0=>exact rfl
  case hp=>
   repeat' (first|exact trivial|exact⟨⟨rfl,rfl⟩,trivial⟩|exact qaf rfl rfl|refine qaf (fun env=>?_) ?_|refine qaf ?_ ?_|refine wma ?_|refine wmv c0 ?_|(apply TO.zaE 3 c2;(iterate 3 exact rfl);exact zqb;(iterate 8 exact rfl))|refine wmk ?_|fail)
   done
  case hc=>exact rfl
  case hF=>exact rfl
  case hE=>exact rfl
  intro _
  repeat' (first|refine wkt ?_|(apply TO.zaE 3 c3;(iterate 3 exact rfl);exact zqb;(iterate 8 exact rfl))|(apply TO.zaE 3 c4;(iterate 3 exact rfl);exact zqb;(iterate 8 exact rfl))|(apply TO.zaE 3 c5;(iterate 3 exact rfl);exact zqb;(iterate 8 exact rfl))|refine zab.exit ?_|exact wkc|intro hc|refine wk2 ?_ ?_|refine wk ?_|fail)
  exact zab.zat hlt trivial (by(try dsimp only);exact⟨rfl,rfl,rfl,rfl,trivial⟩) (by(try dsimp only);rw[hn])
 ·rw[qah]
  repeat' (first|refine wkt ?_|(apply TO.makeFunc;exact rfl;exact rfl)|refine zab.exit ?_|exact wkc|intro hc|refine wk2 ?_ ?_|refine wk ?_|fail)
  exact zwfs
theorem zs3(p:Prog)(hw:(T.ag (zax p)).w≤90000000):zaD (zcg 100000000 p):=by
 rw[w_ag]at hw
 simp only[zax,zaC,qaj,qay,qao,qaI]at hw
 have hen:∀u∈p.enums,(enT u).w≤90000000:=fun u hu=>by have:=zav (f:=enT) (sz:=2) hu;omega
 have hno:∀n∈p.nodes,(nodT n).w≤90000000:=fun u hu=>by have:=zav (f:=nodT) (sz:=8) hu;omega
 exact zbj (zbj zaD.nil fun a u hu ha=>zbj (ha.ins (zhB (qaE (hen u hu) (by decide))).1) fun a s hs ha=>ha.ins ((zhB (qaE (hen u hu) (by decide))).2.1 s hs)) fun a n hn ha=>zof ha (hno n hn)
end Go.Proofs.YtpnnpgbaiobbjaaGreatDoor
