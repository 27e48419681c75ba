import Derived.Test.YtpnnpgbaiobbjaaGreatDoorCk35
set_option linter.all false
namespace Go.Proofs.YtpnnpgbaiobbjaaGreatDoor
open Go Go.TL
attribute [local irreducible] TR TO Then zao RetK Sound zab Kf GG za1
theorem zhY{s:List Str×List En}{n:Nod}(ha:n.autos=[])(hl:n.ins.length≤1000/\n.outs.length≤1000/\n.locals.length≤1000/\n.eqs.length≤1000)(hc:∀d∈zaz n,d.clock.length≤100000000):zlP s n:=by
 have hl2:=zhb n
 have hb:(autJ s n n.autos.length).bs=[]:=by rw[ha];rfl
 exact⟨by rw[ha];exact qaK _,zcP n ⟨by omega,by omega,by omega⟩ hc,by omega,by omega,by omega,(fun au h=>by rw[ha]at h;cases h),(fun j hj=>by rw[ha]at hj;exact absurd hj (qbC _)),by rw[hb];exact qaK _⟩
theorem zo4(k:Nat){s:List Str×List En}{n:Nod}(ha:n.autos=[])(hl:n.ins.length≤1000/\n.outs.length≤1000/\n.locals.length≤1000/\n.eqs.length≤1000)(hc:∀d∈zaz n,d.clock.length≤100000000):NodX k s n:=by
 have hb:(autJ s n n.autos.length).bs=[]:=by rw[ha];rfl
 cases k with
 | zero=>exact⟨ha,zhY ha hl hc⟩
 | succ k=>
   refine⟨zhY ha hl hc,fun j hj=>?_,?_⟩
   ·rw[hb]at hj
    exact absurd hj (qbC _)
   ·rw[hb]
    exact qaK _
abbrev xs0:List Str×List En:=([[102],[120],[65],[],[66]],[])
theorem xbs:((autJ xs0 exaN 1).bs.length=2/\(autJ xs0 exaN 1).a.length≤100)/\∀b∈(autJ xs0 exaN 1).bs,b.autos.isEmpty=true/\(b.ins.length≤1000/\b.outs.length≤1000/\b.locals.length≤1000/\b.eqs.length≤1000)/\∀d∈zaz b,d.clock.length≤100000000:=by decide +kernel
theorem xbj:(bodJ 3 (autJ xs0 exaN 1) 1).2.length≤1000/\(bodJ 3 (autJ xs0 exaN 1) 2).2.length≤1000:=by decide +kernel
theorem xset:zaE [[102],[120],[65],[],[66]]:=⟨by decide +kernel,by decide +kernel⟩
theorem xnodp:zlP xs0 exaN:=by
 refine⟨by decide,zcP exaN ⟨by decide,by decide,by decide⟩ (by decide),by decide,by decide,by decide,fun au hau=>?_,fun j hj=>?_,by decide +kernel⟩
 ·have hau:=qaG.1 hau
  subst hau
  refine⟨qaF ?_ (qaF xw (by decide)),by decide,by decide,by decide +kernel⟩
  have h1:=zdH exaN
  have h2:=zat (f:=zae) (sz:=1) (l:=exaN.autos) (x:=.mk [staA,staB]) (qaG.2 rfl)
  have h3:=zat (f:=nodT) (sz:=8) (l:=exaP.nodes) (x:=exaN) (qaG.2 rfl)
  have h4:(T.ag (zav exaP)).w=1+((T.sl 2 (exaP.enums.map enT)).w+((T.sl 8 (exaP.nodes.map nodT)).w+0)):=by rw[w_ag];rfl
  omega
 ·have hj0:j=0:=by have:exaN.autos.length=1:=rfl;omega
  subst hj0
  have h0:(autJ xs0 exaN 0).a.length+((zaT (zaz exaN) (.mk [staA,staB])).length*8+400)≤100000000000000:=by decide +kernel
  exact⟨⟨xset,h0⟩,by decide +kernel,by decide +kernel,by decide +kernel,by decide +kernel⟩
theorem xnod:NodX 4 xs0 exaN:=by
 refine⟨xnodp,fun j hj=>?_,qaF xbj.2 (by decide)⟩
 have hb:=xbs.2 _ (qad hj)
 refine⟨zo4 3 (List.isEmpty_iff.1 hb.1) hb.2.1 hb.2.2,?_⟩
 have hl:j<2:=by have h:=xbs.1.1;exact h ▸ hj
 rcases j with _|_|j
 ·exact qaF xbj.1 (by decide)
 ·exact qaF xbj.2 (by decide)
 ·omega
theorem xexp:Pure Tryz.prog 11 [.t (.ag (zav exaP))] (.tup [.t (.ag (zav ⟨(expF exaP).enums,(expF exaP).nodes.map plnN⟩)),.i 0]):=by
 refine zfv exaP (qaF xw (by decide)) (by rw[xtypes]) (fun j hj=>?_) (zlm xw2) _ (fun _=>rfl) (fun h=>absurd xshape.2 h)
 have hj0:j=0:=by have:exaP.nodes.length=1:=rfl;omega
 subst hj0
 have h0:(expJ exaP 0).1=xs0:=by show(zb2 100000000 exaP,_)=_;rw[xtaken];rfl
 have h1:expJ exaP 1=((zaC 4 xs0 exaN).1,[]++(zaC 4 xs0 exaN).2):=by rw[<-h0];rfl
 rw[h0,h1]
 exact⟨xnod,by decide +kernel⟩
theorem znd(s:Str):Pure Tryz.prog 53 [.s s] (.t (.ag [T.i 2,T.i 0,T.i 0,T.i 0,T.s s,.sl 6 []])):=by
 refine so Tryz.func53 ?_
 repeat' (first|refine wu ?_|exact wkc|intro hc|refine wk2 ?_ ?_|fail)
 exact zwbw
theorem zdZ(n:Int):Pure Tryz.prog 54 [.i n] (.t (.ag [T.i 1,T.i 0,T.i 2,T.i n,T.s [],.sl 6 []])):=by
 refine so Tryz.func54 ?_
 repeat' (first|refine wu ?_|exact wkc|intro hc|refine wk2 ?_ ?_|fail)
 exact zwbw
abbrev vXT:T:=.ag [T.i 2,T.i 0,T.i 0,T.i 0,T.s [120],.sl 6 []]
abbrev nXT (v:Int):T:=.ag [T.i 1,T.i 0,T.i 2,T.i v,T.s [],.sl 6 []]
abbrev upT:T:=.ag [T.i 3,T.i 6,T.i 0,T.i 0,T.s [],.sl 6 [.ag [T.i 5,T.i 0,T.i 0,T.i 0,T.s [],.sl 6 [vXT]],nXT 1]]
abbrev stAT:T:=.ag [T.s [65],.sl 3 [],.sl 7 [.ag [.sl 1 [T.s [120]],T.i 6,T.i 0,T.i 0,T.i 0,T.s [],.sl 6 [nXT 0,upT]]],.sl 1 [],.sl 8 [],.sl 8 [.ag [T.i 3,T.i 16,T.i 0,T.i 0,T.s [],.sl 6 [vXT,nXT 2],T.i 1,T.b false]]]
abbrev stBT:T:=.ag [T.s [66],.sl 3 [],.sl 7 [.ag [.sl 1 [T.s [120]],T.i 1,T.i 0,T.i 2,T.i 9,T.s [],.sl 6 []]],.sl 1 [],.sl 8 [],.sl 8 [.ag [T.i 1,T.i 0,T.i 1,T.i 1,T.s [],.sl 6 [],T.i 0,T.b false]]]
theorem zv3:T.ag (zav exaP)= .ag [.sl 2 [],.sl 8 [.ag [T.s [102],.sl 3 [],.sl 3 [.ag [T.s [120],T.i 2,.sl 3 []]],.sl 3 [],.sl 7 [],.sl 1 [.ag [.sl 6 [stAT,stBT]]],.sl 6 [],.sl 6 []]]]:=by
 delta zav zaB exaP exaN
 simp only[nodT,List.map,zb6,Auto.states,zbc,staA,staB,Sta.eqs,Sta.name,Sta.locals,Sta.autos,Sta.unl,Sta.unt,equT,zah,exC,zud]
 rfl
set_option maxHeartbeats 16000000 in
theorem zp3:Pure Tryz.prog 24 [] (.t (.ag (zav exaP))):=by
 have v1:=znd [120]
 have n0:=zdZ 0
 have n1:=zdZ 1
 have n2:=zdZ 2
 have n9:=zdZ 9
 rw[zv3]
 refine so Tryz.func24 ?_
 refine wk ?_
 repeat' (first|refine wkt ?_|refine wka ?_|refine wv v1 ?_|refine wv n1 ?_|fail)
 apply TR.zaD 0 (g:=True) [(_,0,1),(_,0,1),(_,0,1),(_,0,1),(_,0,1),(_,0,1),(_,0,1),(_,0,1),(_,1,0),(.any,1,0)] [[.cells [.t (.v (.slice none 0 0)),.t (.v (.slice none 0 0))]],[.cells [.t (.v (.slice none 0 0)),.t (.v (.slice none 0 0))],.cells [.s [],.t (.v (.slice none 0 0)),.t (.v (.slice none 0 0)),.t (.v (.slice none 0 0)),.t (.v (.slice none 0 0)),.t (.v (.slice none 0 0))]],[.cells [.t (.v (.slice none 0 0)),.t (.v (.slice none 0 0))],.cells [.s [65],.t (.v (.slice none 0 0)),.t (T.sl 7 [.ag [.sl 1 [T.s [120]],T.i 6,T.i 0,T.i 0,T.i 0,T.s [],.sl 6 [nXT 0,upT]]]),.t (.v (.slice none 0 0)),.t (.v (.slice none 0 0)),.t (.v (.slice none 0 0))]]] hmix
 case hB=>exact zqv
 case h0=>exact rfl
 case hp=>
  repeat' (first|exact trivial|exact⟨⟨rfl,rfl⟩,trivial⟩|exact qah rfl rfl|refine qah (fun env=>?_) ?_|refine qah ?_ ?_|refine wma ?_|refine wmv n0 ?_|(apply TO.alloc zag;(iterate 3 exact rfl))|refine wmk ?_|fail)
  done
 case hc=>exact rfl
 case hF=>exact rfl
 case hE=>exact rfl
 intro _
 repeat' (first|refine zqx ?_|refine wkt ?_|refine wv v1 ?_|refine wv n2 ?_|refine wv n9 ?_|refine wk ?_|fail)
 refine RetK.keep 0 rfl (?_:Le _ (.t (.ag [.sl 2 [],.sl 8 [.ag [T.s [102],.sl 3 [],.sl 3 [.ag [T.s [120],T.i 2,.sl 3 []]],.sl 3 [],.sl 7 [],.sl 1 [.ag [.sl 6 [stAT,stBT]]],.sl 6 [],.sl 6 []]]]))) rfl rfl rfl rfl rfl ⟨rfl,rfl⟩
 refine Le.zs1 rfl ?_
 repeat' (first|exact trivial|exact TLs.refl _|exact TLs.nil _|refine TLs.agL ?_|refine TLs.slL ?_|refine qah ?_ ?_|fail)
end Go.Proofs.YtpnnpgbaiobbjaaGreatDoor
namespace Go.TL
open Go
section rules
variable {P:Program}{all:Array Oper}
abbrev StC (P:Program)(n:Nat)(K:TK)(all:Array Oper)(full:Env)(o:Oper)(v:SV)(H H':Heap):Prop:=∀env,TO false P n all [o] (zar full (slotsOf all o)++env) H (NKP K True (putE o.dst v (zar full (slotsOf all o)++env)) H')
def zoz(P:Program)(n:Nat)(K:TK)(a b c d:Nat)(all:Array Oper)(f1 f2:Env)(H0 HA HB H1 H2 C1 C2 F1 F2:Heap):Nat->List Oper->List SV->List SV->Prop
 | _,[],[],[]=>True
 | i,o::l,v::t,w::u=>
   (bif Nat.beq i a then StC P n K all f1 o v H0 HA/\StC P n K all f2 o w HB H2
   else bif Nat.beq i b then StC P n K all f1 o w H0 HB/\StC P n K all f1 o v HA H1
   else bif Nat.beq i c then StC P n K all f1 o v H1 C1/\StC P n K all f2 o w H2 C2
   else bif Nat.beq i d then StC P n K all f1 o v C1 F1/\StC P n K all f2 o w C2 F2
   else(v=w/\StC P n K all f1 o v H0 H0)/\StC P n K all f1 o v HA HA/\StC P n K all f2 o w HB HB/\StC P n K all f1 o v H1 H1/\StC P n K all f2 o w H2 H2/\StC P n K all f1 o v C1 C1/\StC P n K all f2 o w C2 C2)
   /\ zoz P n K a b c d all f1 f2 H0 HA HB H1 H2 C1 C2 F1 F2 (i+1) l t u
 | _,_,_,_=>False
theorem zoz.get{n:Nat}{K:TK}{a b c d:Nat}{f1 f2:Env}{H0 HA HB H1 H2 C1 C2 F1 F2:Heap}:∀ {l:List Oper} {t u:List SV} {k:Nat},zoz P n K a b c d all f1 f2 H0 HA HB H1 H2 C1 C2 F1 F2 k l t u->(l.length=t.length/\l.length=u.length)/\∀(i:Nat) o v w,l[i]?=some o->t[i]?=some v->u[i]?=some w->
  (bif Nat.beq (k+i) a then StC P n K all f1 o v H0 HA/\StC P n K all f2 o w HB H2
  else bif Nat.beq (k+i) b then StC P n K all f1 o w H0 HB/\StC P n K all f1 o v HA H1
  else bif Nat.beq (k+i) c then StC P n K all f1 o v H1 C1/\StC P n K all f2 o w H2 C2
  else bif Nat.beq (k+i) d then StC P n K all f1 o v C1 F1/\StC P n K all f2 o w C2 F2
  else(v=w/\StC P n K all f1 o v H0 H0)/\StC P n K all f1 o v HA HA/\StC P n K all f2 o w HB HB/\StC P n K all f1 o v H1 H1/\StC P n K all f2 o w H2 H2/\StC P n K all f1 o v C1 C1/\StC P n K all f2 o w C2 C2)
 | [],[],[],k,_=>by simp
 | o::l,v::t,w::u,k,h=>by
   simp only[zoz]at h
   obtain⟨h1,h2⟩:=h
   obtain⟨⟨g1,g3⟩,g2⟩:=zoz.get h2
   refine⟨⟨by simp[g1],by simp[g3]⟩,fun i o' v' w' ho hv hw=>?_⟩
   cases i with
   | zero=>
     simp at ho hv hw
     subst ho hv hw
     exact h1
   | succ i=>
     have:=g2 i o' v' w' (by simpa using ho) (by simpa using hv) (by simpa using hw)
     rw[show k+1+i=k+(i+1) by omega]at this
     exact this
 | [],_::_,_,_,h=>by cases h
 | [],[],_::_,_,h=>by cases h
 | _::_,[],_,_,h=>by cases h
 | _::_,_::_,[],_,h=>by cases h
def zvt(ops:Array Oper)(a b c d:Nat):Bool:=(cov ops 8 (zaI ops c)).contains a && (cov ops 8 (zaI ops c)).contains b && (List.range ops.size).all fun i=>Nat.beq i d || (cov ops 8 (zaI ops d)).contains i
theorem zc4{i a:Nat}(h:i≠a):Nat.beq i a=false:=by
 cases hb:Nat.beq i a with
 | false=>rfl
 | true=>exact absurd (qaT hb) h
theorem TR.zuJ(a b c d:Nat){n:Nat}{env0 e1 e2:Env}{H0 HA HB H1 H2 C1 C2 F1 F2:Heap}{K:TK}{id':Nat}{l:List Oper}(t u:List SV)(hm:P.follows .mixedOrders=true)
  (hB:(mixB l.toArray [] && zvt l.toArray a b c d && Nat.blt a l.length && Nat.blt b l.length && Nat.blt c l.length && Nat.blt d l.length && !Nat.beq a b && !Nat.beq a c && !Nat.beq a d && !Nat.beq b c && !Nat.beq b d && !Nat.beq c d)=true)
  (hp:zoz P n K a b c d l.toArray (za7 l.toArray t env0) (za7 l.toArray u env0) H0 HA HB H1 H2 C1 C2 F1 F2 0 l t u)(hE1:zbu (za7 l.toArray t env0)=some e1)(hE2:zbu (za7 l.toArray u env0)=some e2)(hK1:K .normal e1 F1)(hK2:K .normal e2 F2):
  TR P n (.region id' l.toArray true) env0 H0 K:=by
 obtain⟨⟨g1,g3⟩,g2⟩:=hp.get
 simp only[qaA,qbV,qbr]at hB
 obtain⟨⟨⟨⟨⟨⟨⟨⟨⟨⟨⟨hB,hL⟩,hal⟩,hbl⟩,hcl0⟩,hdl⟩,hab⟩,hac⟩,had⟩,hbc⟩,hbd⟩,hcd⟩:=hB
 have ne:∀ {x y:Nat},Nat.beq x y=false->x≠y:=fun h e=>by rw[e,qbt]at h;cases h
 have ne_ab:=ne hab
 have ne_ac:=ne hac
 have ne_ad:=ne had
 have ne_bc:=ne hbc
 have ne_bd:=ne hbd
 have ne_cd:=ne hcd
 unfold zvt at hL
 simp only[qaA]at hL
 obtain⟨⟨hLa,hLb⟩,hL⟩:=hL
 have hLa':a∈cov l.toArray 8 (zaI l.toArray c):=by simpa using hLa
 have hLb':b∈cov l.toArray 8 (zaI l.toArray c):=by simpa using hLb
 have hLd:∀i,i<l.length->i≠d->i∈cov l.toArray 8 (zaI l.toArray d):=fun i hi n2=>by
  have:=qaz.1 hL i (by simpa using hi)
  rw[qbS]at this
  rcases this with h|h
  ·exact absurd (qaT h) n2
  ·simpa using h
 intro φ m ac h1 h2 h3 h4
 have s0:Step m ⟨m.A,m.β,m.H,{ m.w with drawn:=m.w.drawn+1 }⟩/\HRel ⟨m.A,m.β,m.H,{ m.w with drawn:=m.w.drawn+1 }⟩:=zcT h2 ⟨rfl,rfl,rfl,qaf _,fun _ _=>rfl⟩
 refine zbo (wpIn_region_any hm ?_)
 let V:(Nat->Bool)×Bool->List SV:=fun s=>bif s.1 a then(bif s.1 b then(bif s.2 then u else t) else t) else(bif s.1 b then u else t)
 let S:(Nat->Bool)×Bool->Heap:=fun s=>bif s.1 d then(bif s.2 then F2 else F1) else bif s.1 c then(bif s.2 then C2 else C1) else bif s.1 a then(bif s.1 b then(bif s.2 then H2 else H1) else HA) else(bif s.1 b then HB else H0)
 have hSe:∀(f:Nat->Bool) (o x y z w:Bool),f d=x->f c=y->f a=z->f b=w->S (f,o)=bif x then(bif o then F2 else F1) else bif y then(bif o then C2 else C1) else bif z then(bif w then(bif o then H2 else H1) else HA) else(bif w then HB else H0):=fun f o x y z w h1 h2 h3 h4=>by subst h1 h2 h3 h4;rfl
 have hVe:∀(f:Nat->Bool) (o z w:Bool),f a=z->f b=w->V (f,o)=bif z then(bif w then(bif o then u else t) else t) else(bif w then u else t):=fun f o z w h3 h4=>by subst h3 h4;rfl
 have hrep:∀i:Nat,(Array.replicate l.toArray.size false).getD i false=false:=fun i=>by
  exact zwff
 have hVl:∀s,(V s).length=l.toArray.size:=fun s=>by
  simp only[V]
  have hlt:l.toArray.size=l.length:=by simp
  rw[hlt]
  cases s.1 a <;> cases s.1 b <;> cases s.2 <;> first|exact g1.symm|exact g3.symm
 have hVeq:∀(i:Nat),i≠a->i≠b->i≠c->i≠d->t[i]?=u[i]? :=fun i n1 n2 n3 n4=>by
  by_cases hi:i<l.length
  ·have ho:l[i]?=some (l[i]'hi):=qac _
   have ht:t[i]?=some (t[i]'(by omega)):=qac _
   have hu:u[i]?=some (u[i]'(by omega)):=qac _
   have:=g2 i _ _ _ ho ht hu
   rw[qaO,zc4 n1,zc4 n2,zc4 n3,zc4 n4]at this
   rw[ht,hu,this.1.1]
  ·rw[qbB (by omega),qbB (by omega)]
 refine znp [] (env0:=env0) (σ:=(Nat->Bool)×Bool) (fun s=>s.1) S V (G:=fun _=>True) (m0:=m) (fun t ht=>by cases ht) hB hVl (fun s i o ho hdi hcv hcl=>?_) (fun s hs _=>?_) l.toArray.size (Array.replicate l.toArray.size false)
  ⟨m.A,m.β,m.H,{ m.w with drawn:=m.w.drawn+1 }⟩ ac (fun i=>(Array.replicate l.toArray.size false).getD i false,false) (by simp) ?_ ?_ (fun _=>rfl) ?_ (fun j h=>?_) s0.1 s0.2 ?_ (h4.step h2 s0.1)
 ·obtain⟨s,od⟩:=s
  dsimp only at hdi hcv hcl⊢
  have hil:i<l.length:=by have:=(qal.1 ho).1;simpa using this
  have hol:l[i]?=some o:=by simpa using ho
  have htl:t[i]?=some (t[i]'(by omega)):=qac (by omega)
  have hul:u[i]?=some (u[i]'(by omega)):=qac (by omega)
  generalize t[i]'(by omega)=v at htl
  generalize u[i]'(by omega)=w at hul
  have hg:=g2 i o v w hol htl hul
  rw[qaO]at hg
  have hi':∀j,j≠i->(s j || decide (i=j))=s j:=fun j hj=>by simp[Ne.symm hj]
  have hii:(s i || decide (i=i))=true:=by simp
  have nod:i≠d->s d=false:=fun hne=>by
   cases h:s d with
   | false=>rfl
   | true=>
     have:=hcl d h i (hLd i hil hne)
     rw[hdi]at this
     cases this
  have noc:i=a\/i=b->s c=false:=fun hne=>by
   cases h:s c with
   | false=>rfl
   | true=>
     rcases hne with hne|hne
     ·have:=hcl c h a hLa'
      rw[<-hne,hdi]at this
      cases this
     ·have:=hcl c h b hLb'
      rw[<-hne,hdi]at this
      cases this
  by_cases e4:i=d
  ·subst e4
   have ha:=hcv a (hLd a hal ne_ad)
   have hb:=hcv b (hLd b hbl ne_bd)
   have hc:=hcv c (hLd c hcl0 ne_cd)
   rw[zc4 ne_ad.symm,zc4 ne_bd.symm,zc4 ne_cd.symm,qbt]at hg
   have hV:=hVe s od true true ha hb
   have hV':=hVe (fun j=>s j || decide (i=j)) od true true ((hi' a ne_ad).trans ha) ((hi' b ne_bd).trans hb)
   have hS:=hSe s od false true true true hdi hc ha hb
   have hS':=hSe (fun j=>s j || decide (i=j)) od true _ _ _ hii rfl rfl rfl
   exact zwy
  by_cases e3:i=c
  ·subst e3
   have ha:=hcv a hLa'
   have hb:=hcv b hLb'
   have hd:=nod e4
   rw[zc4 ne_ac.symm,zc4 ne_bc.symm,qbt]at hg
   have hV:=hVe s od true true ha hb
   have hV':=hVe (fun j=>s j || decide (i=j)) od true true ((hi' a ne_ac).trans ha) ((hi' b ne_bc).trans hb)
   have hS:=hSe s od false false true true hd hdi ha hb
   have hS':=hSe (fun j=>s j || decide (i=j)) od false true _ _ ((hi' d ne_cd.symm).trans hd) hii rfl rfl
   exact zwy
  have hd:=nod e4
  by_cases e1:i=a
  ·subst e1
   have hc:=noc (.inl rfl)
   rw[qbt]at hg
   cases hb:s b with
   | false=>
     have hV:=hVe s od false false hdi hb
     have hV':=hVe (fun j=>s j || decide (i=j)) od true false hii ((hi' b ne_ab.symm).trans hb)
     have hS:=hSe s od false false false false hd hc hdi hb
     have hS':=hSe (fun j=>s j || decide (i=j)) od false false true false ((hi' d ne_ad.symm).trans hd) ((hi' c ne_ac.symm).trans hc) hii ((hi' b ne_ab.symm).trans hb)
     exact⟨(fun j=>s j || decide (i=j),od),v,fun j=>rfl,fun j _=>by rw[hV,hV'];rfl,by rw[hV'];exact htl,by rw[hV,hS,hS'];exact hg.1⟩
   | true=>
     have hV:=hVe s od false true hdi hb
     have hV':=hVe (fun j=>s j || decide (i=j)) true true true hii ((hi' b ne_ab.symm).trans hb)
     have hS:=hSe s od false false false true hd hc hdi hb
     have hS':=hSe (fun j=>s j || decide (i=j)) true false false true true ((hi' d ne_ad.symm).trans hd) ((hi' c ne_ac.symm).trans hc) hii ((hi' b ne_ab.symm).trans hb)
     exact⟨(fun j=>s j || decide (i=j),true),w,fun j=>rfl,fun j _=>by rw[hV,hV'];rfl,by rw[hV'];exact hul,by rw[hV,hS,hS'];exact hg.2⟩
  by_cases e2:i=b
  ·subst e2
   have hc:=noc (.inr rfl)
   rw[zc4 ne_ab.symm,qbt]at hg
   cases ha:s a with
   | false=>
     have hV:=hVe s od false false ha hdi
     have hV':=hVe (fun j=>s j || decide (i=j)) od false true ((hi' a ne_ab).trans ha) hii
     have hS:=hSe s od false false false false hd hc ha hdi
     have hS':=hSe (fun j=>s j || decide (i=j)) od false false false true ((hi' d ne_bd.symm).trans hd) ((hi' c ne_bc.symm).trans hc) ((hi' a ne_ab).trans ha) hii
     refine⟨(fun j=>s j || decide (i=j),od),w,fun j=>rfl,fun j hj=>?_,by rw[hV'];exact hul,by rw[hV,hS,hS'];exact hg.1⟩
     rw[hV,hV']
     exact(hVeq j (fun e=>by rw[e,ha]at hj;cases hj) (fun e=>by rw[e,hdi]at hj;cases hj) (fun e=>by rw[e,hc]at hj;cases hj) (fun e=>by rw[e,hd]at hj;cases hj)).symm
   | true=>
     have hV:=hVe s od true false ha hdi
     have hV':=hVe (fun j=>s j || decide (i=j)) false true true ((hi' a ne_ab).trans ha) hii
     have hS:=hSe s od false false true false hd hc ha hdi
     have hS':=hSe (fun j=>s j || decide (i=j)) false false false true true ((hi' d ne_bd.symm).trans hd) ((hi' c ne_bc.symm).trans hc) ((hi' a ne_ab).trans ha) hii
     exact⟨(fun j=>s j || decide (i=j),false),v,fun j=>rfl,fun j _=>by rw[hV,hV'];rfl,by rw[hV'];exact htl,by rw[hV,hS,hS'];exact hg.2⟩
  rw[zc4 e1,zc4 e2,zc4 e3,zc4 e4]at hg
  obtain⟨⟨hvw,q1⟩,q2,q3,q4,q5,q6,q7⟩:=hg
  subst hvw
  have hV':=hVe (fun j=>s j || decide (i=j)) od (s a) (s b) (hi' a (Ne.symm e1)) (hi' b (Ne.symm e2))
  have hV:=hVe s od _ _ rfl rfl
  have hS:=hSe s od false (s c) _ _ hd rfl rfl rfl
  have hS':=hSe (fun j=>s j || decide (i=j)) od false (s c) (s a) (s b) ((hi' d (Ne.symm e4)).trans hd) (hi' c (Ne.symm e3)) (hi' a (Ne.symm e1)) (hi' b (Ne.symm e2))
  refine⟨(fun j=>s j || decide (i=j),od),v,fun j=>rfl,fun j _=>by rw[hV,hV'],?_,?_⟩
  ·rw[hV']
   cases s a <;> cases s b <;> cases od <;> first|exact htl|exact hul
  ·rw[hV,hS,hS']
   cases hc:s c with
   | true=>
     have ha:=hcl c hc a hLa'
     have hb:=hcl c hc b hLb'
     rw[ha,hb]
     cases od
     ·exact q6
     ·exact q7
   | false=>
     cases s a <;> cases s b <;> cases od
     ·exact q1
     ·exact q1
     ·exact q3
     ·exact q3
     ·exact q2
     ·exact q2
     ·exact q4
     ·exact q5
 ·obtain⟨s,od⟩:=s
  dsimp only at hs⊢
  have ha:=hs a (by simpa using hal)
  have hb:=hs b (by simpa using hbl)
  have hd:=hs d (by simpa using hdl)
  rw[hVe s od true true ha hb,hSe s od true _ _ _ hd rfl rfl rfl]
  cases od
  ·show K .normal (za7 l.toArray t env0) F1
   rw[<-zaU hE1]
   exact hK1
  ·show K .normal (za7 l.toArray u env0) F2
   rw[<-zaU hE2]
   exact hK2
 ·exact zwfg
 ·exact zwci
 ·simp only[S,hrep,cond_false]
  exact h1
 ·rw[qaN]at h
  split at h <;> cases h
 ·have:∀y:List SV,envA l.toArray y (fun i=>(Array.replicate l.toArray.size false).getD i false) (List.range l.toArray.size)=[]:=by
   intro y
   have:∀x:List Nat,envA l.toArray y (fun i=>(Array.replicate l.toArray.size false).getD i false) x=[]:=by
    exact zwdu
   exact this _
  rw[this,qa2]
  exact h3.step h2 s0.1
end rules
end Go.TL
namespace Go.Proofs.YtpnnpgbaiobbjaaGreatDoor
open Go Go.TL
attribute [local irreducible] TR TO Then zao RetK Sound zab Kf GG za1
theorem len2{α:Type}{l:List α}(h:l.length=2):∃a b,l=[a,b]:=by match l,h with|[a,b],_=>exact⟨a,b,rfl⟩
theorem len3{α:Type}{l:List α}(h:l.length=3):∃a b c,l=[a,b,c]:=by match l,h with|[a,b,c],_=>exact⟨a,b,c,rfl⟩
theorem len4{α:Type}{l:List α}(h:l.length=4):∃a b c d,l=[a,b,c,d]:=by match l,h with|[a,b,c,d],_=>exact⟨a,b,c,d,rfl⟩
theorem len9{α:Type}{l:List α}(h:l.length=9):∃a b c d e f g i j,l=[a,b,c,d,e,f,g,i,j]:=by match l,h with|[a,b,c,d,e,f,g,i,j],_=>exact⟨a,b,c,d,e,f,g,i,j,rfl⟩
theorem zv7{α:Type}{l:List α}(h:l.length=12):∃a b c d e f g i j k m n,l=[a,b,c,d,e,f,g,i,j,k,m,n]:=by match l,h with|[a,b,c,d,e,f,g,i,j,k,m,n],_=>exact⟨a,b,c,d,e,f,g,i,j,k,m,n,rfl⟩
abbrev zvy:Str:=[109,111,100,101,95,49]
abbrev nAt2:Str:=[97,116,95,50]
abbrev zeW:Str:=[98,111,100,121,95,49]
abbrev zja:Str:=[110,101,120,116,95,49]
abbrev zi9:Str:=[98,97,99,107,95,49]
theorem xf1:(expF exaP).enums.map En.name=[zvy]/\(expF exaP).enums.map (fun u=>u.tags.length)=[2]/\(expF exaP).enums.map (fun u=>u.tags[1]?)=[some nAt2]:=by
 rw[zpl]
 decide +kernel
theorem xf2:(expF exaP).nodes.length=3/\(expF exaP).nodes[0]?.map Nod.name=some zeW/\(expF exaP).nodes[2]?.map Nod.name=some [102]:=by
 rw[zpl]
 decide +kernel
theorem xf3:(expF exaP).nodes[0]?.map (fun n=>(n.outs.length,n.outs[1]?.map Decl.name,n.outs[2]?.map Decl.name,n.eqs.length))=some (3,some zja,some zi9,4):=by
 rw[zpl]
 decide +kernel
theorem xf4:(expF exaP).nodes[2]?.map (fun n=>(n.locals.length,n.eqs.length))=some (12,9)/\(expF exaP).nodes[2]?.map (fun n=>n.eqs[0]?.map fun q=>q.right.kind.1)=some (some 7)/\(expF exaP).nodes[2]?.map (fun n=>n.eqs[4]?.map fun q=>q.right.kind.1)=some (some 10)/\(expF exaP).nodes[2]?.map (fun n=>n.eqs[4]?.map fun q=>q.right.name)=some (some zeW)/\(expF exaP).nodes[2]?.map (fun n=>n.eqs[6]?.map fun q=>q.right.kind.1)=some (some 9):=by
 rw[zpl]
 decide +kernel
theorem xcount:countP exaP.nodes=1/\zuy exaP.nodes=1:=by decide +kernel
set_option maxHeartbeats 16000000 in
theorem zdK:Pure Tryz.prog 10 [] (.b true):=by
 have c0:=zp3
 have c1:=xexp
 have c2:=zkj exaP (qaF xw (by decide))
 have c3:=zlO exaP (qaF xw (by decide))
 rw[xcount.1]at c2
 rw[xcount.2]at c3
 obtain⟨f1,f2,f3⟩:=xf1
 obtain⟨g1,g2,g3⟩:=xf2
 have g4:=xf3
 have g5:=xf4
 generalize expF exaP=P at*
 obtain⟨es,ns⟩:=P
 dsimp only at*
 obtain⟨b,c,f,rfl⟩:=len3 g1
 obtain⟨u,rfl⟩:∃u,es=[u]:=by
  have:es.length=1:=by simpa using congrArg List.length f1
  match es,this with|[u],_=>exact⟨u,rfl⟩
 simp only[qaj,qay,qbg,and_true]at f1 f2 f3
 simp at g2 g3 g4 g5
 obtain⟨h1,h2,h3,h4⟩:=g4
 obtain⟨⟨k1,k2⟩,k3,k4,k4',k5⟩:=g5
 obtain⟨un,ut⟩:=u
 obtain⟨bn,bi,bo,bl,bq,ba,bs,be⟩:=b
 obtain⟨fn,fi,fo,fl,fq,fa,fs,fe⟩:=f
 dsimp only at*
 obtain⟨t0,t1,rfl⟩:=len2 f2
 obtain⟨d0,d1,d2,rfl⟩:=len3 h1
 obtain⟨e0,e1,e2,e3,rfl⟩:=len4 h4
 obtain⟨l0,l1,l2,l3,l4,l5,l6,l7,l8,l9,l10,l11,rfl⟩:=zv7 k1
 obtain⟨q0,q1,q2,q3,q4,q5,q6,q7,q8,rfl⟩:=len9 k2
 simp at f3 h2 h3 k3 k4 k4' k5
 have e30:T.n q0.right.kind=T.i 7:=by show T.i q0.right.kind.1=_;rw[k3]
 have e34:T.n q4.right.kind=T.i 10:=by show T.i q4.right.kind.1=_;rw[k4]
 have e36:T.n q6.right.kind=T.i 9:=by show T.i q6.right.kind.1=_;rw[k5]
 have e44:T.s q4.right.name=T.s zeW:=by rw[k4']
 subst f1 f3 g2 g3
 have hb1:zaa d1= .ag [T.s zja,T.n d1.ty,.sl 3 (d1.clock.map onT)]:=by unfold zaa;rw[h2]
 have hb2:zaa d2= .ag [T.s zi9,T.n d2.ty,.sl 3 (d2.clock.map onT)]:=by unfold zaa;rw[h3]
 have hq0:equT q0= .ag [.sl 1 (q0.left.map T.s),T.i 7,T.n q0.right.op,T.n q0.right.t,T.n q0.right.v,T.s q0.right.name,.sl 6 (q0.right.args.map exT)]:=by unfold equT exC;rw[e30]
 have hq4:equT q4= .ag [.sl 1 (q4.left.map T.s),T.i 10,T.n q4.right.op,T.n q4.right.t,T.n q4.right.v,T.s zeW,.sl 6 (q4.right.args.map exT)]:=by unfold equT exC;rw[e34,e44]
 have hq6:equT q6= .ag [.sl 1 (q6.left.map T.s),T.i 9,T.n q6.right.op,T.n q6.right.t,T.n q6.right.v,T.s q6.right.name,.sl 6 (q6.right.args.map exT)]:=by unfold equT exC;rw[e36]
 simp only[zav,zaB,plnN,qaj,qay,nodT,enT,hb1,hb2,hq0,hq4,hq6]at c1
 clear e30 e34 e36 e44 hb1 hb2 hq0 hq4 hq6 h1 h2 h3 h4 k1 k2 k3 k4 k4' k5 g1 f2
 refine so Tryz.func10 ?_
 repeat' (first|refine wkt ?_|refine wka ?_|refine wv c0 ?_|refine wv c1 ?_|refine wv c2 ?_|refine wv c3 ?_|exact wkc|(intro hc;exact absurd rfl hc)|intro hc|(apply TO.want;exact rfl)|refine wk2 ?_ ?_|fail)
 apply TR.zuJ 8 9 10 11 (HA:=[.cells [.s [],.t (.v (.slice none 0 0)),.t (.v (.slice none 0 0)),.t (.v (.slice none 0 0)),.t (.v (.slice none 0 0)),.t (.v (.slice none 0 0)),.t (.v (.slice none 0 0)),.t (.v (.slice none 0 0))]]) (HB:=[.cells [.s [],.t (.v (.slice none 0 0)),.t (.v (.slice none 0 0)),.t (.v (.slice none 0 0)),.t (.v (.slice none 0 0)),.t (.v (.slice none 0 0)),.t (.v (.slice none 0 0)),.t (.v (.slice none 0 0))]]) (H1:=[.cells [.s [],.t (.v (.slice none 0 0)),.t (.v (.slice none 0 0)),.t (.v (.slice none 0 0)),.t (.v (.slice none 0 0)),.t (.v (.slice none 0 0)),.t (.v (.slice none 0 0)),.t (.v (.slice none 0 0))],.cells [.s [],.t (.v (.slice none 0 0)),.t (.v (.slice none 0 0)),.t (.v (.slice none 0 0)),.t (.v (.slice none 0 0)),.t (.v (.slice none 0 0)),.t (.v (.slice none 0 0)),.t (.v (.slice none 0 0))]]) (H2:=[.cells [.s [],.t (.v (.slice none 0 0)),.t (.v (.slice none 0 0)),.t (.v (.slice none 0 0)),.t (.v (.slice none 0 0)),.t (.v (.slice none 0 0)),.t (.v (.slice none 0 0)),.t (.v (.slice none 0 0))],.cells [.s [],.t (.v (.slice none 0 0)),.t (.v (.slice none 0 0)),.t (.v (.slice none 0 0)),.t (.v (.slice none 0 0)),.t (.v (.slice none 0 0)),.t (.v (.slice none 0 0)),.t (.v (.slice none 0 0))]]) (C1:=[.cells [.t (T.s zeW),.t (.sl 3 (bi.map zaa)),.t (.sl 3 [zaa d0,.ag [T.s zja,T.n d1.ty,.sl 3 (d1.clock.map onT)],.ag [T.s zi9,T.n d2.ty,.sl 3 (d2.clock.map onT)]]),.t (.sl 3 (bl.map zaa)),.t (.sl 7 [equT e0,equT e1,equT e2,equT e3]),.t (.sl 1 []),.t (.sl 6 (bs.map exT)),.t (.sl 6 (be.map exT))],.cells [.s [],.t (.v (.slice none 0 0)),.t (.v (.slice none 0 0)),.t (.v (.slice none 0 0)),.t (.v (.slice none 0 0)),.t (.v (.slice none 0 0)),.t (.v (.slice none 0 0)),.t (.v (.slice none 0 0))]]) (C2:=[.cells [.s [],.t (.v (.slice none 0 0)),.t (.v (.slice none 0 0)),.t (.v (.slice none 0 0)),.t (.v (.slice none 0 0)),.t (.v (.slice none 0 0)),.t (.v (.slice none 0 0)),.t (.v (.slice none 0 0))],.cells [.t (T.s zeW),.t (.sl 3 (bi.map zaa)),.t (.sl 3 [zaa d0,.ag [T.s zja,T.n d1.ty,.sl 3 (d1.clock.map onT)],.ag [T.s zi9,T.n d2.ty,.sl 3 (d2.clock.map onT)]]),.t (.sl 3 (bl.map zaa)),.t (.sl 7 [equT e0,equT e1,equT e2,equT e3]),.t (.sl 1 []),.t (.sl 6 (bs.map exT)),.t (.sl 6 (be.map exT))]]) (F1:=[.cells [.t (T.s zeW),.t (.sl 3 (bi.map zaa)),.t (.sl 3 [zaa d0,.ag [T.s zja,T.n d1.ty,.sl 3 (d1.clock.map onT)],.ag [T.s zi9,T.n d2.ty,.sl 3 (d2.clock.map onT)]]),.t (.sl 3 (bl.map zaa)),.t (.sl 7 [equT e0,equT e1,equT e2,equT e3]),.t (.sl 1 []),.t (.sl 6 (bs.map exT)),.t (.sl 6 (be.map exT))],.cells [.t (T.s [102]),.t (.sl 3 (fi.map zaa)),.t (.sl 3 (fo.map zaa)),.t (.sl 3 [zaa l0,zaa l1,zaa l2,zaa l3,zaa l4,zaa l5,zaa l6,zaa l7,zaa l8,zaa l9,zaa l10,zaa l11]),.t (.sl 7 [.ag [.sl 1 (q0.left.map T.s),T.i 7,T.n q0.right.op,T.n q0.right.t,T.n q0.right.v,T.s q0.right.name,.sl 6 (q0.right.args.map exT)],equT q1,equT q2,equT q3,.ag [.sl 1 (q4.left.map T.s),T.i 10,T.n q4.right.op,T.n q4.right.t,T.n q4.right.v,T.s zeW,.sl 6 (q4.right.args.map exT)],equT q5,.ag [.sl 1 (q6.left.map T.s),T.i 9,T.n q6.right.op,T.n q6.right.t,T.n q6.right.v,T.s q6.right.name,.sl 6 (q6.right.args.map exT)],equT q7,equT q8]),.t (.sl 1 []),.t (.sl 6 (fs.map exT)),.t (.sl 6 (fe.map exT))]]) (F2:=[.cells [.t (T.s [102]),.t (.sl 3 (fi.map zaa)),.t (.sl 3 (fo.map zaa)),.t (.sl 3 [zaa l0,zaa l1,zaa l2,zaa l3,zaa l4,zaa l5,zaa l6,zaa l7,zaa l8,zaa l9,zaa l10,zaa l11]),.t (.sl 7 [.ag [.sl 1 (q0.left.map T.s),T.i 7,T.n q0.right.op,T.n q0.right.t,T.n q0.right.v,T.s q0.right.name,.sl 6 (q0.right.args.map exT)],equT q1,equT q2,equT q3,.ag [.sl 1 (q4.left.map T.s),T.i 10,T.n q4.right.op,T.n q4.right.t,T.n q4.right.v,T.s zeW,.sl 6 (q4.right.args.map exT)],equT q5,.ag [.sl 1 (q6.left.map T.s),T.i 9,T.n q6.right.op,T.n q6.right.t,T.n q6.right.v,T.s q6.right.name,.sl 6 (q6.right.args.map exT)],equT q7,equT q8]),.t (.sl 1 []),.t (.sl 6 (fs.map exT)),.t (.sl 6 (fe.map exT))],.cells [.t (T.s zeW),.t (.sl 3 (bi.map zaa)),.t (.sl 3 [zaa d0,.ag [T.s zja,T.n d1.ty,.sl 3 (d1.clock.map onT)],.ag [T.s zi9,T.n d2.ty,.sl 3 (d2.clock.map onT)]]),.t (.sl 3 (bl.map zaa)),.t (.sl 7 [equT e0,equT e1,equT e2,equT e3]),.t (.sl 1 []),.t (.sl 6 (bs.map exT)),.t (.sl 6 (be.map exT))]]) [_,_,_,_,_,_,_,_,_,_,.any,.any] [_,_,_,_,_,_,_,_,_,_,.any,.any] hmix
 case hB=>(dsimp only[List.length];decide +kernel)
 case hp=>
  repeat' (first|exact trivial|exact⟨⟨rfl,rfl⟩,trivial⟩|exact qah rfl rfl|refine qah (fun env=>?_) ?_|refine qah ?_ ?_|refine wma ?_|(apply TO.alloc zag;(iterate 3 exact rfl))|(apply TO.indexAddr zag;(iterate 8 exact rfl);omega;exact rfl)|refine wmk ?_|intro env|fail)
  all_goals exact rfl
 case hE1=>exact rfl
 case hE2=>exact rfl
 case hK1=>
  repeat' (first|refine wkt ?_|refine zqo ?_|exact wkc|(intro hc;exact absurd rfl hc)|intro hc|(apply TO.want;exact rfl)|refine wk2 ?_ ?_|refine wk ?_|fail)
  exact wkr
 case hK2=>
  repeat' (first|refine wkt ?_|refine zqo ?_|exact wkc|(intro hc;exact absurd rfl hc)|intro hc|(apply TO.want;exact rfl)|refine wk2 ?_ ?_|refine wk ?_|fail)
  exact wkr
theorem zeB:∀(m:Nat) (e:Ex),wEx e≤m->∀(q:Nat),1≤q->q≤1000000->Pure Tryz.prog 103 [.t (.ag (exC e)),.i q] (.i (min (wEx e) q:Nat)):=by
 intro m
 induction m with
 | zero=>intro e he;have:=zcH e;omega
 | succ m ih0=>
   intro e he q hq1 hq2
   have hw:=zjn e
   have ih:∀x∈e.args,∀(q:Nat),1≤q->q≤1000000->Pure Tryz.prog 103 [.t (.ag (exC x)),.i q] (.i (min (wEx x) q:Nat)):=fun x hx q h1 h2=>ih0 x (by have:=zbY hx;omega) q h1 h2
   clear ih0
   rw[hw]
   generalize hL:e.args=L at ih⊢
   have hml:(L.map exT).length=L.length:=qaa _
   unfold exC
   rw[hL]
   refine so Tryz.func103 ?_
   repeat' (first|refine wu ?_|exact wkc|intro hc|refine wk2 ?_ ?_|fail)
   refine TR.zal L.length (fun k=>k<1+((L.take k).map wEx).sum) (fun k=>[(1,.i q),(2,.cp [T.n e.kind,T.n e.op,T.n e.t,T.n e.v,.s e.name,.sl 6 (L.map exT)] 0),(5,.i (min (1+((L.take k).map wEx).sum) q:Nat)),(6,.i k)]) (fun _=>[]) (by simp) (fun k hlt hk=>?_) (fun hk=>?_) ⟨rfl,rfl,by rw[show min (1+((L.take 0).map wEx).sum) q=1 from by simp;omega];rfl,rfl,trivial⟩
   ·have hx:=zfd hlt
    have htk:((L.take (k+1)).map wEx).sum=((L.take k).map wEx).sum+wEx L[k]:=by rw[zbO hlt,qak,qby];simp
    have hle:((L.take k).map wEx).sum≤(L.map wEx).sum:=by
     conv=>rhs;rw[<-qaV k L]
     rw[qak,qby];omega
    have hwp:=zcH L[k]
    have hi:=ih L[k] (qad hlt)
    generalize L[k]=x at hx htk hwp hi
    generalize hS:((L.take k).map wEx).sum=S at*
    generalize hT:(L.map wEx).sum=W at*
    unfold exC at hx hi
    by_cases hc0:1+S<q
    ·have hn:min (1+S) q=1+S:=by omega
     rw[hn]
     have hi2:=hi (q-(1+S)) (by omega) (by omega)
     rw[show((q-(1+S):Nat):Int)=(q:Int)-((1+S:Nat):Int) from by omega]at hi2
     have hr:((1+S:Nat):Int)+((min (wEx x) (q-(1+S)):Nat):Int)=((min (1+(S+wEx x)) q:Nat):Int):=by omega
     generalize min (wEx x) (q-(1+S))=z at hi2 hr
     have hz:z≤1000000:=by omega
     repeat' (first|refine wu ?_|exact wkc|intro hc|refine wk2 ?_ ?_|refine wv hi2 ?_|fail)
     exact zab.zaw hlt (by rw[htk];omega) ⟨rfl,rfl,by rw[htk,<-hr];rfl,rfl,trivial⟩
    ·have hn:min (1+S) q=q:=by omega
     rw[hn,show min (1+W) q=q from by omega]
     repeat' (first|refine wu ?_|exact wkc|intro hc|refine wk2 ?_ ?_|fail)
     all_goals exact zwch
   ·rw[qag]
    repeat' (first|refine wu ?_|exact wkc|intro hc|refine wk2 ?_ ?_|fail)
    all_goals exact zwch
end Go.Proofs.YtpnnpgbaiobbjaaGreatDoor
