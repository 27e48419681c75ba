import Derived.Test.YtpnnpgbaiobbjaaGreatDoorBk34
set_option linter.all false
namespace Go.Proofs.YtpnnpgbaiobbjaaGreatDoor
open Go Go.TL
attribute [local irreducible] TR TO Then zap RetK Sound zab Kf GG za3
theorem znK(s:Str):Pure Tryz.prog 53 [.s s] (.t (.ag [T.i 2,T.i 0,T.i 0,T.i 0,T.s s,.sl 6 []])):=by
 refine so Tryz.func53 ?_
 repeat' (first|refine wu ?_|exact wkc|intro hc|refine wk2 ?_ ?_|fail)
 exact zwce
theorem zd7(n:Int):Pure Tryz.prog 54 [.i n] (.t (.ag [T.i 1,T.i 0,T.i 2,T.i n,T.s [],.sl 6 []])):=by
 refine so Tryz.func54 ?_
 repeat' (first|refine wu ?_|exact wkc|intro hc|refine wk2 ?_ ?_|fail)
 exact zwce
abbrev vXT:T:=.ag [T.i 2,T.i 0,T.i 0,T.i 0,T.s [120],.sl 6 []]
abbrev nXT (v:Int):T:=.ag [T.i 1,T.i 0,T.i 2,T.i v,T.s [],.sl 6 []]
abbrev upT:T:=.ag [T.i 3,T.i 6,T.i 0,T.i 0,T.s [],.sl 6 [.ag [T.i 5,T.i 0,T.i 0,T.i 0,T.s [],.sl 6 [vXT]],nXT 1]]
abbrev stAT:T:=.ag [T.s [65],.sl 3 [],.sl 7 [.ag [.sl 1 [T.s [120]],T.i 6,T.i 0,T.i 0,T.i 0,T.s [],.sl 6 [nXT 0,upT]]],.sl 1 [],.sl 8 [],.sl 8 [.ag [T.i 3,T.i 16,T.i 0,T.i 0,T.s [],.sl 6 [vXT,nXT 2],T.i 1,T.b false]]]
abbrev stBT:T:=.ag [T.s [66],.sl 3 [],.sl 7 [.ag [.sl 1 [T.s [120]],T.i 1,T.i 0,T.i 2,T.i 9,T.s [],.sl 6 []]],.sl 1 [],.sl 8 [],.sl 8 [.ag [T.i 1,T.i 0,T.i 1,T.i 1,T.s [],.sl 6 [],T.i 0,T.b false]]]
theorem zwE:T.ag (zax exaP)= .ag [.sl 2 [],.sl 8 [.ag [T.s [102],.sl 3 [],.sl 3 [.ag [T.s [120],T.i 2,.sl 3 []]],.sl 3 [],.sl 7 [],.sl 1 [.ag [.sl 6 [stAT,stBT]]],.sl 6 [],.sl 6 []]]]:=by
 delta zax zaA exaP exaN
 simp only[nodT,List.map,zbQ,Auto.states,za8,staA,staB,Sta.eqs,Sta.name,Sta.locals,Sta.autos,Sta.unl,Sta.unt,equT,zah,exC,zuq]
 rfl
set_option maxHeartbeats 16000000 in
theorem zqG:Pure Tryz.prog 24 [] (.t (.ag (zax exaP))):=by
 have v1:=znK [120]
 have n0:=zd7 0
 have n1:=zd7 1
 have n2:=zd7 2
 have n9:=zd7 9
 rw[zwE]
 refine so Tryz.func24 ?_
 refine wk ?_
 repeat' (first|refine wkt ?_|refine wka ?_|refine wv v1 ?_|refine wv n1 ?_|fail)
 apply TR.zaH 0 (g:=True) [(_,0,1),(_,0,1),(_,0,1),(_,0,1),(_,0,1),(_,0,1),(_,0,1),(_,0,1),(_,1,0),(.any,1,0)] [[.cells [.t (.v (.slice none 0 0)),.t (.v (.slice none 0 0))]],[.cells [.t (.v (.slice none 0 0)),.t (.v (.slice none 0 0))],.cells [.s [],.t (.v (.slice none 0 0)),.t (.v (.slice none 0 0)),.t (.v (.slice none 0 0)),.t (.v (.slice none 0 0)),.t (.v (.slice none 0 0))]],[.cells [.t (.v (.slice none 0 0)),.t (.v (.slice none 0 0))],.cells [.s [65],.t (.v (.slice none 0 0)),.t (T.sl 7 [.ag [.sl 1 [T.s [120]],T.i 6,T.i 0,T.i 0,T.i 0,T.s [],.sl 6 [nXT 0,upT]]]),.t (.v (.slice none 0 0)),.t (.v (.slice none 0 0)),.t (.v (.slice none 0 0))]]] hmix
 case hB=>exact zqw
 case h0=>exact rfl
 case hp=>
  repeat' (first|exact trivial|exact⟨⟨rfl,rfl⟩,trivial⟩|exact qah rfl rfl|refine qah (fun env=>?_) ?_|refine qah ?_ ?_|refine wma ?_|refine wmv n0 ?_|(apply TO.alloc zag;(iterate 3 exact rfl))|refine wmk ?_|fail)
  done
 case hc=>exact rfl
 case hF=>exact rfl
 case hE=>exact rfl
 intro _
 repeat' (first|refine zqy ?_|refine wkt ?_|refine wv v1 ?_|refine wv n2 ?_|refine wv n9 ?_|refine wk ?_|fail)
 refine RetK.keep 0 rfl (?_:Le _ (.t (.ag [.sl 2 [],.sl 8 [.ag [T.s [102],.sl 3 [],.sl 3 [.ag [T.s [120],T.i 2,.sl 3 []]],.sl 3 [],.sl 7 [],.sl 1 [.ag [.sl 6 [stAT,stBT]]],.sl 6 [],.sl 6 []]]]))) rfl rfl rfl rfl rfl ⟨rfl,rfl⟩
 refine Le.ztj rfl ?_
 repeat' (first|exact trivial|exact TLs.refl _|exact TLs.nil _|refine TLs.agL ?_|refine TLs.slL ?_|refine qah ?_ ?_|fail)
end Go.Proofs.YtpnnpgbaiobbjaaGreatDoor
namespace Go.TL
open Go
section rules
variable {P:Program}{all:Array Oper}
abbrev StC (P:Program)(n:Nat)(K:TK)(all:Array Oper)(full:Env)(o:Oper)(v:SV)(H H':Heap):Prop:=∀env,TO false P n all [o] (zat full (slotsOf all o)++env) H (NKP K True (putE o.dst v (zat full (slotsOf all o)++env)) H')
def zoS(P:Program)(n:Nat)(K:TK)(a b c d:Nat)(all:Array Oper)(f1 f2:Env)(H0 HA HB H1 H2 C1 C2 F1 F2:Heap):Nat->List Oper->List SV->List SV->Prop
 | _,[],[],[]=>True
 | i,o::l,v::t,w::u=>
   (bif Nat.beq i a then StC P n K all f1 o v H0 HA/\StC P n K all f2 o w HB H2
   else bif Nat.beq i b then StC P n K all f1 o w H0 HB/\StC P n K all f1 o v HA H1
   else bif Nat.beq i c then StC P n K all f1 o v H1 C1/\StC P n K all f2 o w H2 C2
   else bif Nat.beq i d then StC P n K all f1 o v C1 F1/\StC P n K all f2 o w C2 F2
   else(v=w/\StC P n K all f1 o v H0 H0)/\StC P n K all f1 o v HA HA/\StC P n K all f2 o w HB HB/\StC P n K all f1 o v H1 H1/\StC P n K all f2 o w H2 H2/\StC P n K all f1 o v C1 C1/\StC P n K all f2 o w C2 C2)
   /\ zoS P n K a b c d all f1 f2 H0 HA HB H1 H2 C1 C2 F1 F2 (i+1) l t u
 | _,_,_,_=>False
theorem zoS.get{n:Nat}{K:TK}{a b c d:Nat}{f1 f2:Env}{H0 HA HB H1 H2 C1 C2 F1 F2:Heap}:∀ {l:List Oper} {t u:List SV} {k:Nat},zoS P n K a b c d all f1 f2 H0 HA HB H1 H2 C1 C2 F1 F2 k l t u->(l.length=t.length/\l.length=u.length)/\∀(i:Nat) o v w,l[i]?=some o->t[i]?=some v->u[i]?=some w->
  (bif Nat.beq (k+i) a then StC P n K all f1 o v H0 HA/\StC P n K all f2 o w HB H2
  else bif Nat.beq (k+i) b then StC P n K all f1 o w H0 HB/\StC P n K all f1 o v HA H1
  else bif Nat.beq (k+i) c then StC P n K all f1 o v H1 C1/\StC P n K all f2 o w H2 C2
  else bif Nat.beq (k+i) d then StC P n K all f1 o v C1 F1/\StC P n K all f2 o w C2 F2
  else(v=w/\StC P n K all f1 o v H0 H0)/\StC P n K all f1 o v HA HA/\StC P n K all f2 o w HB HB/\StC P n K all f1 o v H1 H1/\StC P n K all f2 o w H2 H2/\StC P n K all f1 o v C1 C1/\StC P n K all f2 o w C2 C2)
 | [],[],[],k,_=>by simp
 | o::l,v::t,w::u,k,h=>by
   simp only[zoS]at h
   obtain⟨h1,h2⟩:=h
   obtain⟨⟨g1,g3⟩,g2⟩:=zoS.get h2
   refine⟨⟨by simp[g1],by simp[g3]⟩,fun i o' v' w' ho hv hw=>?_⟩
   cases i with
   | zero=>
     simp at ho hv hw
     subst ho hv hw
     exact h1
   | succ i=>
     have:=g2 i o' v' w' (by simpa using ho) (by simpa using hv) (by simpa using hw)
     rw[show k+1+i=k+(i+1) by omega]at this
     exact this
 | [],_::_,_,_,h=>by cases h
 | [],[],_::_,_,h=>by cases h
 | _::_,[],_,_,h=>by cases h
 | _::_,_::_,[],_,h=>by cases h
def zvG(ops:Array Oper)(a b c d:Nat):Bool:=(cov ops 8 (zaL ops c)).contains a && (cov ops 8 (zaL ops c)).contains b && (List.range ops.size).all fun i=>Nat.beq i d || (cov ops 8 (zaL ops d)).contains i
theorem zdd{i a:Nat}(h:i≠a):Nat.beq i a=false:=by
 cases hb:Nat.beq i a with
 | false=>rfl
 | true=>exact absurd (qaS hb) h
theorem TR.zuT(a b c d:Nat){n:Nat}{env0 e1 e2:Env}{H0 HA HB H1 H2 C1 C2 F1 F2:Heap}{K:TK}{id':Nat}{l:List Oper}(t u:List SV)(hm:P.follows .mixedOrders=true)
  (hB:(mixB l.toArray [] && zvG l.toArray a b c d && Nat.blt a l.length && Nat.blt b l.length && Nat.blt c l.length && Nat.blt d l.length && !Nat.beq a b && !Nat.beq a c && !Nat.beq a d && !Nat.beq b c && !Nat.beq b d && !Nat.beq c d)=true)
  (hp:zoS P n K a b c d l.toArray (zba l.toArray t env0) (zba l.toArray u env0) H0 HA HB H1 H2 C1 C2 F1 F2 0 l t u)(hE1:zbv (zba l.toArray t env0)=some e1)(hE2:zbv (zba l.toArray u env0)=some e2)(hK1:K .normal e1 F1)(hK2:K .normal e2 F2):
  TR P n (.region id' l.toArray true) env0 H0 K:=by
 obtain⟨⟨g1,g3⟩,g2⟩:=hp.get
 simp only[qay,qbS,qbo]at hB
 obtain⟨⟨⟨⟨⟨⟨⟨⟨⟨⟨⟨hB,hL⟩,hal⟩,hbl⟩,hcl0⟩,hdl⟩,hab⟩,hac⟩,had⟩,hbc⟩,hbd⟩,hcd⟩:=hB
 have ne:∀ {x y:Nat},Nat.beq x y=false->x≠y:=fun h e=>by rw[e,qbq]at h;cases h
 have ne_ab:=ne hab
 have ne_ac:=ne hac
 have ne_ad:=ne had
 have ne_bc:=ne hbc
 have ne_bd:=ne hbd
 have ne_cd:=ne hcd
 unfold zvG at hL
 simp only[qay]at hL
 obtain⟨⟨hLa,hLb⟩,hL⟩:=hL
 have hLa':a∈cov l.toArray 8 (zaL l.toArray c):=by simpa using hLa
 have hLb':b∈cov l.toArray 8 (zaL l.toArray c):=by simpa using hLb
 have hLd:∀i,i<l.length->i≠d->i∈cov l.toArray 8 (zaL l.toArray d):=fun i hi n2=>by
  have:=qaz.1 hL i (by simpa using hi)
  rw[qbO]at this
  rcases this with h|h
  ·exact absurd (qaS h) n2
  ·simpa using h
 intro φ m ac h1 h2 h3 h4
 have s0:Step m ⟨m.A,m.β,m.H,{ m.w with drawn:=m.w.drawn+1 }⟩/\HRel ⟨m.A,m.β,m.H,{ m.w with drawn:=m.w.drawn+1 }⟩:=zcO h2 ⟨rfl,rfl,rfl,qag _,fun _ _=>rfl⟩
 refine zbn (wpIn_region_any hm ?_)
 let V:(Nat->Bool)×Bool->List SV:=fun s=>bif s.1 a then(bif s.1 b then(bif s.2 then u else t) else t) else(bif s.1 b then u else t)
 let S:(Nat->Bool)×Bool->Heap:=fun s=>bif s.1 d then(bif s.2 then F2 else F1) else bif s.1 c then(bif s.2 then C2 else C1) else bif s.1 a then(bif s.1 b then(bif s.2 then H2 else H1) else HA) else(bif s.1 b then HB else H0)
 have hSe:∀(f:Nat->Bool) (o x y z w:Bool),f d=x->f c=y->f a=z->f b=w->S (f,o)=bif x then(bif o then F2 else F1) else bif y then(bif o then C2 else C1) else bif z then(bif w then(bif o then H2 else H1) else HA) else(bif w then HB else H0):=fun f o x y z w h1 h2 h3 h4=>by subst h1 h2 h3 h4;rfl
 have hVe:∀(f:Nat->Bool) (o z w:Bool),f a=z->f b=w->V (f,o)=bif z then(bif w then(bif o then u else t) else t) else(bif w then u else t):=fun f o z w h3 h4=>by subst h3 h4;rfl
 have hrep:∀i:Nat,(Array.replicate l.toArray.size false).getD i false=false:=fun i=>by
  exact zwfu
 have hVl:∀s,(V s).length=l.toArray.size:=fun s=>by
  simp only[V]
  have hlt:l.toArray.size=l.length:=by simp
  rw[hlt]
  cases s.1 a <;> cases s.1 b <;> cases s.2 <;> first|exact g1.symm|exact g3.symm
 have hVeq:∀(i:Nat),i≠a->i≠b->i≠c->i≠d->t[i]?=u[i]? :=fun i n1 n2 n3 n4=>by
  by_cases hi:i<l.length
  ·have ho:l[i]?=some (l[i]'hi):=qac _
   have ht:t[i]?=some (t[i]'(by omega)):=qac _
   have hu:u[i]?=some (u[i]'(by omega)):=qac _
   have:=g2 i _ _ _ ho ht hu
   rw[qaO,zdd n1,zdd n2,zdd n3,zdd n4]at this
   rw[ht,hu,this.1.1]
  ·rw[qby (by omega),qby (by omega)]
 refine znW [] (env0:=env0) (σ:=(Nat->Bool)×Bool) (fun s=>s.1) S V (G:=fun _=>True) (m0:=m) (fun t ht=>by cases ht) hB hVl (fun s i o ho hdi hcv hcl=>?_) (fun s hs _=>?_) l.toArray.size (Array.replicate l.toArray.size false)
  ⟨m.A,m.β,m.H,{ m.w with drawn:=m.w.drawn+1 }⟩ ac (fun i=>(Array.replicate l.toArray.size false).getD i false,false) (by simp) ?_ ?_ (fun _=>rfl) ?_ (fun j h=>?_) s0.1 s0.2 ?_ (h4.step h2 s0.1)
 ·obtain⟨s,od⟩:=s
  dsimp only at hdi hcv hcl⊢
  have hil:i<l.length:=by have:=(qak.1 ho).1;simpa using this
  have hol:l[i]?=some o:=by simpa using ho
  have htl:t[i]?=some (t[i]'(by omega)):=qac (by omega)
  have hul:u[i]?=some (u[i]'(by omega)):=qac (by omega)
  generalize t[i]'(by omega)=v at htl
  generalize u[i]'(by omega)=w at hul
  have hg:=g2 i o v w hol htl hul
  rw[qaO]at hg
  have hi':∀j,j≠i->(s j || decide (i=j))=s j:=fun j hj=>by simp[Ne.symm hj]
  have hii:(s i || decide (i=i))=true:=by simp
  have nod:i≠d->s d=false:=fun hne=>by
   cases h:s d with
   | false=>rfl
   | true=>
     have:=hcl d h i (hLd i hil hne)
     rw[hdi]at this
     cases this
  have noc:i=a\/i=b->s c=false:=fun hne=>by
   cases h:s c with
   | false=>rfl
   | true=>
     rcases hne with hne|hne
     ·have:=hcl c h a hLa'
      rw[<-hne,hdi]at this
      cases this
     ·have:=hcl c h b hLb'
      rw[<-hne,hdi]at this
      cases this
  by_cases e4:i=d
  ·subst e4
   have ha:=hcv a (hLd a hal ne_ad)
   have hb:=hcv b (hLd b hbl ne_bd)
   have hc:=hcv c (hLd c hcl0 ne_cd)
   rw[zdd ne_ad.symm,zdd ne_bd.symm,zdd ne_cd.symm,qbq]at hg
   have hV:=hVe s od true true ha hb
   have hV':=hVe (fun j=>s j || decide (i=j)) od true true ((hi' a ne_ad).trans ha) ((hi' b ne_bd).trans hb)
   have hS:=hSe s od false true true true hdi hc ha hb
   have hS':=hSe (fun j=>s j || decide (i=j)) od true _ _ _ hii rfl rfl rfl
   exact zwbc
  by_cases e3:i=c
  ·subst e3
   have ha:=hcv a hLa'
   have hb:=hcv b hLb'
   have hd:=nod e4
   rw[zdd ne_ac.symm,zdd ne_bc.symm,qbq]at hg
   have hV:=hVe s od true true ha hb
   have hV':=hVe (fun j=>s j || decide (i=j)) od true true ((hi' a ne_ac).trans ha) ((hi' b ne_bc).trans hb)
   have hS:=hSe s od false false true true hd hdi ha hb
   have hS':=hSe (fun j=>s j || decide (i=j)) od false true _ _ ((hi' d ne_cd.symm).trans hd) hii rfl rfl
   exact zwbc
  have hd:=nod e4
  by_cases e1:i=a
  ·subst e1
   have hc:=noc (.inl rfl)
   rw[qbq]at hg
   cases hb:s b with
   | false=>
     have hV:=hVe s od false false hdi hb
     have hV':=hVe (fun j=>s j || decide (i=j)) od true false hii ((hi' b ne_ab.symm).trans hb)
     have hS:=hSe s od false false false false hd hc hdi hb
     have hS':=hSe (fun j=>s j || decide (i=j)) od false false true false ((hi' d ne_ad.symm).trans hd) ((hi' c ne_ac.symm).trans hc) hii ((hi' b ne_ab.symm).trans hb)
     exact⟨(fun j=>s j || decide (i=j),od),v,fun j=>rfl,fun j _=>by rw[hV,hV'];rfl,by rw[hV'];exact htl,by rw[hV,hS,hS'];exact hg.1⟩
   | true=>
     have hV:=hVe s od false true hdi hb
     have hV':=hVe (fun j=>s j || decide (i=j)) true true true hii ((hi' b ne_ab.symm).trans hb)
     have hS:=hSe s od false false false true hd hc hdi hb
     have hS':=hSe (fun j=>s j || decide (i=j)) true false false true true ((hi' d ne_ad.symm).trans hd) ((hi' c ne_ac.symm).trans hc) hii ((hi' b ne_ab.symm).trans hb)
     exact⟨(fun j=>s j || decide (i=j),true),w,fun j=>rfl,fun j _=>by rw[hV,hV'];rfl,by rw[hV'];exact hul,by rw[hV,hS,hS'];exact hg.2⟩
  by_cases e2:i=b
  ·subst e2
   have hc:=noc (.inr rfl)
   rw[zdd ne_ab.symm,qbq]at hg
   cases ha:s a with
   | false=>
     have hV:=hVe s od false false ha hdi
     have hV':=hVe (fun j=>s j || decide (i=j)) od false true ((hi' a ne_ab).trans ha) hii
     have hS:=hSe s od false false false false hd hc ha hdi
     have hS':=hSe (fun j=>s j || decide (i=j)) od false false false true ((hi' d ne_bd.symm).trans hd) ((hi' c ne_bc.symm).trans hc) ((hi' a ne_ab).trans ha) hii
     refine⟨(fun j=>s j || decide (i=j),od),w,fun j=>rfl,fun j hj=>?_,by rw[hV'];exact hul,by rw[hV,hS,hS'];exact hg.1⟩
     rw[hV,hV']
     exact(hVeq j (fun e=>by rw[e,ha]at hj;cases hj) (fun e=>by rw[e,hdi]at hj;cases hj) (fun e=>by rw[e,hc]at hj;cases hj) (fun e=>by rw[e,hd]at hj;cases hj)).symm
   | true=>
     have hV:=hVe s od true false ha hdi
     have hV':=hVe (fun j=>s j || decide (i=j)) false true true ((hi' a ne_ab).trans ha) hii
     have hS:=hSe s od false false true false hd hc ha hdi
     have hS':=hSe (fun j=>s j || decide (i=j)) false false false true true ((hi' d ne_bd.symm).trans hd) ((hi' c ne_bc.symm).trans hc) ((hi' a ne_ab).trans ha) hii
     exact⟨(fun j=>s j || decide (i=j),false),v,fun j=>rfl,fun j _=>by rw[hV,hV'];rfl,by rw[hV'];exact htl,by rw[hV,hS,hS'];exact hg.2⟩
  rw[zdd e1,zdd e2,zdd e3,zdd e4]at hg
  obtain⟨⟨hvw,q1⟩,q2,q3,q4,q5,q6,q7⟩:=hg
  subst hvw
  have hV':=hVe (fun j=>s j || decide (i=j)) od (s a) (s b) (hi' a (Ne.symm e1)) (hi' b (Ne.symm e2))
  have hV:=hVe s od _ _ rfl rfl
  have hS:=hSe s od false (s c) _ _ hd rfl rfl rfl
  have hS':=hSe (fun j=>s j || decide (i=j)) od false (s c) (s a) (s b) ((hi' d (Ne.symm e4)).trans hd) (hi' c (Ne.symm e3)) (hi' a (Ne.symm e1)) (hi' b (Ne.symm e2))
  refine⟨(fun j=>s j || decide (i=j),od),v,fun j=>rfl,fun j _=>by rw[hV,hV'],?_,?_⟩
  ·rw[hV']
   cases s a <;> cases s b <;> cases od <;> first|exact htl|exact hul
  ·rw[hV,hS,hS']
   cases hc:s c with
   | true=>
     have ha:=hcl c hc a hLa'
     have hb:=hcl c hc b hLb'
     rw[ha,hb]
     cases od
     ·exact q6
     ·exact q7
   | false=>
     cases s a <;> cases s b <;> cases od
     ·exact q1
     ·exact q1
     ·exact q3
     ·exact q3
     ·exact q2
     ·exact q2
     ·exact q4
     ·exact q5
 ·obtain⟨s,od⟩:=s
  dsimp only at hs⊢
  have ha:=hs a (by simpa using hal)
  have hb:=hs b (by simpa using hbl)
  have hd:=hs d (by simpa using hdl)
  rw[hVe s od true true ha hb,hSe s od true _ _ _ hd rfl rfl rfl]
  cases od
  ·show K .normal (zba l.toArray t env0) F1
   rw[<-zaV hE1]
   exact hK1
  ·show K .normal (zba l.toArray u env0) F2
   rw[<-zaV hE2]
   exact hK2
 ·exact zwfv
 ·exact zwct
 ·simp only[S,hrep,cond_false]
  exact h1
 ·rw[qaN]at h
  split at h <;> cases h
 ·have:∀y:List SV,envA l.toArray y (fun i=>(Array.replicate l.toArray.size false).getD i false) (List.range l.toArray.size)=[]:=by
   intro y
   have:∀x:List Nat,envA l.toArray y (fun i=>(Array.replicate l.toArray.size false).getD i false) x=[]:=by
    exact zwej
   exact this _
  rw[this,qa7]
  exact h3.step h2 s0.1
end rules
end Go.TL
namespace Go.Proofs.YtpnnpgbaiobbjaaGreatDoor
open Go Go.TL
attribute [local irreducible] TR TO Then zap RetK Sound zab Kf GG za3
theorem len2{α:Type}{l:List α}(h:l.length=2):∃a b,l=[a,b]:=by match l,h with|[a,b],_=>exact⟨a,b,rfl⟩
theorem len3{α:Type}{l:List α}(h:l.length=3):∃a b c,l=[a,b,c]:=by match l,h with|[a,b,c],_=>exact⟨a,b,c,rfl⟩
theorem len4{α:Type}{l:List α}(h:l.length=4):∃a b c d,l=[a,b,c,d]:=by match l,h with|[a,b,c,d],_=>exact⟨a,b,c,d,rfl⟩
theorem len9{α:Type}{l:List α}(h:l.length=9):∃a b c d e f g i j,l=[a,b,c,d,e,f,g,i,j]:=by match l,h with|[a,b,c,d,e,f,g,i,j],_=>exact⟨a,b,c,d,e,f,g,i,j,rfl⟩
theorem zwH{α:Type}{l:List α}(h:l.length=12):∃a b c d e f g i j k m n,l=[a,b,c,d,e,f,g,i,j,k,m,n]:=by match l,h with|[a,b,c,d,e,f,g,i,j,k,m,n],_=>exact⟨a,b,c,d,e,f,g,i,j,k,m,n,rfl⟩
abbrev zvL:Str:=[109,111,100,101,95,49]
abbrev nAt2:Str:=[97,116,95,50]
abbrev ze4:Str:=[98,111,100,121,95,49]
abbrev zjz:Str:=[110,101,120,116,95,49]
abbrev zjy:Str:=[98,97,99,107,95,49]
theorem xf1:(expF exaP).enums.map En.name=[zvL]/\(expF exaP).enums.map (fun u=>u.tags.length)=[2]/\(expF exaP).enums.map (fun u=>u.tags[1]?)=[some nAt2]:=by
 rw[zpH]
 decide +kernel
theorem xf2:(expF exaP).nodes.length=3/\(expF exaP).nodes[0]?.map Nod.name=some ze4/\(expF exaP).nodes[2]?.map Nod.name=some [102]:=by
 rw[zpH]
 decide +kernel
theorem xf3:(expF exaP).nodes[0]?.map (fun n=>(n.outs.length,n.outs[1]?.map Decl.name,n.outs[2]?.map Decl.name,n.eqs.length))=some (3,some zjz,some zjy,4):=by
 rw[zpH]
 decide +kernel
theorem xf4:(expF exaP).nodes[2]?.map (fun n=>(n.locals.length,n.eqs.length))=some (12,9)/\(expF exaP).nodes[2]?.map (fun n=>n.eqs[0]?.map fun q=>q.right.kind.1)=some (some 7)/\(expF exaP).nodes[2]?.map (fun n=>n.eqs[4]?.map fun q=>q.right.kind.1)=some (some 10)/\(expF exaP).nodes[2]?.map (fun n=>n.eqs[4]?.map fun q=>q.right.name)=some (some ze4)/\(expF exaP).nodes[2]?.map (fun n=>n.eqs[6]?.map fun q=>q.right.kind.1)=some (some 9):=by
 rw[zpH]
 decide +kernel
theorem xcount:countP exaP.nodes=1/\zuJ exaP.nodes=1:=by decide +kernel
set_option maxHeartbeats 16000000 in
theorem zdS:Pure Tryz.prog 10 [] (.b true):=by
 have c0:=zqG
 have c1:=xexp
 have c2:=zgE exaP (qaC xw (by decide))
 have c3:=zme exaP (qaC xw (by decide))
 rw[xcount.1]at c2
 rw[xcount.2]at c3
 obtain⟨f1,f2,f3⟩:=xf1
 obtain⟨g1,g2,g3⟩:=xf2
 have g4:=xf3
 have g5:=xf4
 generalize expF exaP=P at*
 obtain⟨es,ns⟩:=P
 dsimp only at*
 obtain⟨b,c,f,rfl⟩:=len3 g1
 obtain⟨u,rfl⟩:∃u,es=[u]:=by
  have:es.length=1:=by simpa using congrArg List.length f1
  match es,this with|[u],_=>exact⟨u,rfl⟩
 simp only[qaj,qaw,qbg,and_true]at f1 f2 f3
 simp at g2 g3 g4 g5
 obtain⟨h1,h2,h3,h4⟩:=g4
 obtain⟨⟨k1,k2⟩,k3,k4,k4',k5⟩:=g5
 obtain⟨un,ut⟩:=u
 obtain⟨bn,bi,bo,bl,bq,ba,bs,be⟩:=b
 obtain⟨fn,fi,fo,fl,fq,fa,fs,fe⟩:=f
 dsimp only at*
 obtain⟨t0,t1,rfl⟩:=len2 f2
 obtain⟨d0,d1,d2,rfl⟩:=len3 h1
 obtain⟨e0,e1,e2,e3,rfl⟩:=len4 h4
 obtain⟨l0,l1,l2,l3,l4,l5,l6,l7,l8,l9,l10,l11,rfl⟩:=zwH k1
 obtain⟨q0,q1,q2,q3,q4,q5,q6,q7,q8,rfl⟩:=len9 k2
 simp at f3 h2 h3 k3 k4 k4' k5
 have e30:T.n q0.right.kind=T.i 7:=by show T.i q0.right.kind.1=_;rw[k3]
 have e34:T.n q4.right.kind=T.i 10:=by show T.i q4.right.kind.1=_;rw[k4]
 have e36:T.n q6.right.kind=T.i 9:=by show T.i q6.right.kind.1=_;rw[k5]
 have e44:T.s q4.right.name=T.s ze4:=by rw[k4']
 subst f1 f3 g2 g3
 have hb1:zaa d1= .ag [T.s zjz,T.n d1.ty,.sl 3 (d1.clock.map onT)]:=by unfold zaa;rw[h2]
 have hb2:zaa d2= .ag [T.s zjy,T.n d2.ty,.sl 3 (d2.clock.map onT)]:=by unfold zaa;rw[h3]
 have hq0:equT q0= .ag [.sl 1 (q0.left.map T.s),T.i 7,T.n q0.right.op,T.n q0.right.t,T.n q0.right.v,T.s q0.right.name,.sl 6 (q0.right.args.map exT)]:=by unfold equT exC;rw[e30]
 have hq4:equT q4= .ag [.sl 1 (q4.left.map T.s),T.i 10,T.n q4.right.op,T.n q4.right.t,T.n q4.right.v,T.s ze4,.sl 6 (q4.right.args.map exT)]:=by unfold equT exC;rw[e34,e44]
 have hq6:equT q6= .ag [.sl 1 (q6.left.map T.s),T.i 9,T.n q6.right.op,T.n q6.right.t,T.n q6.right.v,T.s q6.right.name,.sl 6 (q6.right.args.map exT)]:=by unfold equT exC;rw[e36]
 simp only[zax,zaA,plnN,qaj,qaw,nodT,enT,hb1,hb2,hq0,hq4,hq6]at c1
 clear e30 e34 e36 e44 hb1 hb2 hq0 hq4 hq6 h1 h2 h3 h4 k1 k2 k3 k4 k4' k5 g1 f2
 refine so Tryz.func10 ?_
 repeat' (first|refine wkt ?_|refine wka ?_|refine wv c0 ?_|refine wv c1 ?_|refine wv c2 ?_|refine wv c3 ?_|exact wkc|(intro hc;exact absurd rfl hc)|intro hc|(apply TO.want;exact rfl)|refine wk2 ?_ ?_|fail)
 apply TR.zuT 8 9 10 11 (HA:=[.cells [.s [],.t (.v (.slice none 0 0)),.t (.v (.slice none 0 0)),.t (.v (.slice none 0 0)),.t (.v (.slice none 0 0)),.t (.v (.slice none 0 0)),.t (.v (.slice none 0 0)),.t (.v (.slice none 0 0))]]) (HB:=[.cells [.s [],.t (.v (.slice none 0 0)),.t (.v (.slice none 0 0)),.t (.v (.slice none 0 0)),.t (.v (.slice none 0 0)),.t (.v (.slice none 0 0)),.t (.v (.slice none 0 0)),.t (.v (.slice none 0 0))]]) (H1:=[.cells [.s [],.t (.v (.slice none 0 0)),.t (.v (.slice none 0 0)),.t (.v (.slice none 0 0)),.t (.v (.slice none 0 0)),.t (.v (.slice none 0 0)),.t (.v (.slice none 0 0)),.t (.v (.slice none 0 0))],.cells [.s [],.t (.v (.slice none 0 0)),.t (.v (.slice none 0 0)),.t (.v (.slice none 0 0)),.t (.v (.slice none 0 0)),.t (.v (.slice none 0 0)),.t (.v (.slice none 0 0)),.t (.v (.slice none 0 0))]]) (H2:=[.cells [.s [],.t (.v (.slice none 0 0)),.t (.v (.slice none 0 0)),.t (.v (.slice none 0 0)),.t (.v (.slice none 0 0)),.t (.v (.slice none 0 0)),.t (.v (.slice none 0 0)),.t (.v (.slice none 0 0))],.cells [.s [],.t (.v (.slice none 0 0)),.t (.v (.slice none 0 0)),.t (.v (.slice none 0 0)),.t (.v (.slice none 0 0)),.t (.v (.slice none 0 0)),.t (.v (.slice none 0 0)),.t (.v (.slice none 0 0))]]) (C1:=[.cells [.t (T.s ze4),.t (.sl 3 (bi.map zaa)),.t (.sl 3 [zaa d0,.ag [T.s zjz,T.n d1.ty,.sl 3 (d1.clock.map onT)],.ag [T.s zjy,T.n d2.ty,.sl 3 (d2.clock.map onT)]]),.t (.sl 3 (bl.map zaa)),.t (.sl 7 [equT e0,equT e1,equT e2,equT e3]),.t (.sl 1 []),.t (.sl 6 (bs.map exT)),.t (.sl 6 (be.map exT))],.cells [.s [],.t (.v (.slice none 0 0)),.t (.v (.slice none 0 0)),.t (.v (.slice none 0 0)),.t (.v (.slice none 0 0)),.t (.v (.slice none 0 0)),.t (.v (.slice none 0 0)),.t (.v (.slice none 0 0))]]) (C2:=[.cells [.s [],.t (.v (.slice none 0 0)),.t (.v (.slice none 0 0)),.t (.v (.slice none 0 0)),.t (.v (.slice none 0 0)),.t (.v (.slice none 0 0)),.t (.v (.slice none 0 0)),.t (.v (.slice none 0 0))],.cells [.t (T.s ze4),.t (.sl 3 (bi.map zaa)),.t (.sl 3 [zaa d0,.ag [T.s zjz,T.n d1.ty,.sl 3 (d1.clock.map onT)],.ag [T.s zjy,T.n d2.ty,.sl 3 (d2.clock.map onT)]]),.t (.sl 3 (bl.map zaa)),.t (.sl 7 [equT e0,equT e1,equT e2,equT e3]),.t (.sl 1 []),.t (.sl 6 (bs.map exT)),.t (.sl 6 (be.map exT))]]) (F1:=[.cells [.t (T.s ze4),.t (.sl 3 (bi.map zaa)),.t (.sl 3 [zaa d0,.ag [T.s zjz,T.n d1.ty,.sl 3 (d1.clock.map onT)],.ag [T.s zjy,T.n d2.ty,.sl 3 (d2.clock.map onT)]]),.t (.sl 3 (bl.map zaa)),.t (.sl 7 [equT e0,equT e1,equT e2,equT e3]),.t (.sl 1 []),.t (.sl 6 (bs.map exT)),.t (.sl 6 (be.map exT))],.cells [.t (T.s [102]),.t (.sl 3 (fi.map zaa)),.t (.sl 3 (fo.map zaa)),.t (.sl 3 [zaa l0,zaa l1,zaa l2,zaa l3,zaa l4,zaa l5,zaa l6,zaa l7,zaa l8,zaa l9,zaa l10,zaa l11]),.t (.sl 7 [.ag [.sl 1 (q0.left.map T.s),T.i 7,T.n q0.right.op,T.n q0.right.t,T.n q0.right.v,T.s q0.right.name,.sl 6 (q0.right.args.map exT)],equT q1,equT q2,equT q3,.ag [.sl 1 (q4.left.map T.s),T.i 10,T.n q4.right.op,T.n q4.right.t,T.n q4.right.v,T.s ze4,.sl 6 (q4.right.args.map exT)],equT q5,.ag [.sl 1 (q6.left.map T.s),T.i 9,T.n q6.right.op,T.n q6.right.t,T.n q6.right.v,T.s q6.right.name,.sl 6 (q6.right.args.map exT)],equT q7,equT q8]),.t (.sl 1 []),.t (.sl 6 (fs.map exT)),.t (.sl 6 (fe.map exT))]]) (F2:=[.cells [.t (T.s [102]),.t (.sl 3 (fi.map zaa)),.t (.sl 3 (fo.map zaa)),.t (.sl 3 [zaa l0,zaa l1,zaa l2,zaa l3,zaa l4,zaa l5,zaa l6,zaa l7,zaa l8,zaa l9,zaa l10,zaa l11]),.t (.sl 7 [.ag [.sl 1 (q0.left.map T.s),T.i 7,T.n q0.right.op,T.n q0.right.t,T.n q0.right.v,T.s q0.right.name,.sl 6 (q0.right.args.map exT)],equT q1,equT q2,equT q3,.ag [.sl 1 (q4.left.map T.s),T.i 10,T.n q4.right.op,T.n q4.right.t,T.n q4.right.v,T.s ze4,.sl 6 (q4.right.args.map exT)],equT q5,.ag [.sl 1 (q6.left.map T.s),T.i 9,T.n q6.right.op,T.n q6.right.t,T.n q6.right.v,T.s q6.right.name,.sl 6 (q6.right.args.map exT)],equT q7,equT q8]),.t (.sl 1 []),.t (.sl 6 (fs.map exT)),.t (.sl 6 (fe.map exT))],.cells [.t (T.s ze4),.t (.sl 3 (bi.map zaa)),.t (.sl 3 [zaa d0,.ag [T.s zjz,T.n d1.ty,.sl 3 (d1.clock.map onT)],.ag [T.s zjy,T.n d2.ty,.sl 3 (d2.clock.map onT)]]),.t (.sl 3 (bl.map zaa)),.t (.sl 7 [equT e0,equT e1,equT e2,equT e3]),.t (.sl 1 []),.t (.sl 6 (bs.map exT)),.t (.sl 6 (be.map exT))]]) [_,_,_,_,_,_,_,_,_,_,.any,.any] [_,_,_,_,_,_,_,_,_,_,.any,.any] hmix
 case hB=>(dsimp only[List.length];decide +kernel)
 case hp=>
  repeat' (first|exact trivial|exact⟨⟨rfl,rfl⟩,trivial⟩|exact qah rfl rfl|refine qah (fun env=>?_) ?_|refine qah ?_ ?_|refine wma ?_|(apply TO.alloc zag;(iterate 3 exact rfl))|(apply TO.indexAddr zag;(iterate 8 exact rfl);omega;exact rfl)|refine wmk ?_|intro env|fail)
  all_goals exact rfl
 case hE1=>exact rfl
 case hE2=>exact rfl
 case hK1=>
  repeat' (first|refine wkt ?_|refine zqp ?_|exact wkc|(intro hc;exact absurd rfl hc)|intro hc|(apply TO.want;exact rfl)|refine wk2 ?_ ?_|refine wk ?_|fail)
  exact wkr
 case hK2=>
  repeat' (first|refine wkt ?_|refine zqp ?_|exact wkc|(intro hc;exact absurd rfl hc)|intro hc|(apply TO.want;exact rfl)|refine wk2 ?_ ?_|refine wk ?_|fail)
  exact wkr
theorem zeJ:∀(m:Nat) (e:Ex),wEx e≤m->∀(q:Nat),1≤q->q≤1000000->Pure Tryz.prog 103 [.t (.ag (exC e)),.i q] (.i (min (wEx e) q:Nat)):=by
 intro m
 induction m with
 | zero=>intro e he;have:=zcQ e;omega
 | succ m ih0=>
   intro e he q hq1 hq2
   have hw:=zjL e
   have ih:∀x∈e.args,∀(q:Nat),1≤q->q≤1000000->Pure Tryz.prog 103 [.t (.ag (exC x)),.i q] (.i (min (wEx x) q:Nat)):=fun x hx q h1 h2=>ih0 x (by have:=zb9 hx;omega) q h1 h2
   clear ih0
   rw[hw]
   generalize hL:e.args=L at ih⊢
   have hml:(L.map exT).length=L.length:=qaa _
   unfold exC
   rw[hL]
   refine so Tryz.func103 ?_
   repeat' (first|refine wu ?_|exact wkc|intro hc|refine wk2 ?_ ?_|fail)
   refine TR.zal L.length (fun k=>k<1+((L.take k).map wEx).sum) (fun k=>[(1,.i q),(2,.cp [T.n e.kind,T.n e.op,T.n e.t,T.n e.v,.s e.name,.sl 6 (L.map exT)] 0),(5,.i (min (1+((L.take k).map wEx).sum) q:Nat)),(6,.i k)]) (fun _=>[]) (by simp) (fun k hlt hk=>?_) (fun hk=>?_) ⟨rfl,rfl,by rw[show min (1+((L.take 0).map wEx).sum) q=1 from by simp;omega];rfl,rfl,trivial⟩
   ·have hx:=zfn hlt
    have htk:((L.take (k+1)).map wEx).sum=((L.take k).map wEx).sum+wEx L[k]:=by rw[zb8 hlt,qal,qbH];simp
    have hle:((L.take k).map wEx).sum≤(L.map wEx).sum:=by
     conv=>rhs;rw[<-qaW k L]
     rw[qal,qbH];omega
    have hwp:=zcQ L[k]
    have hi:=ih L[k] (qad hlt)
    generalize L[k]=x at hx htk hwp hi
    generalize hS:((L.take k).map wEx).sum=S at*
    generalize hT:(L.map wEx).sum=W at*
    unfold exC at hx hi
    by_cases hc0:1+S<q
    ·have hn:min (1+S) q=1+S:=by omega
     rw[hn]
     have hi2:=hi (q-(1+S)) (by omega) (by omega)
     rw[show((q-(1+S):Nat):Int)=(q:Int)-((1+S:Nat):Int) from by omega]at hi2
     have hr:((1+S:Nat):Int)+((min (wEx x) (q-(1+S)):Nat):Int)=((min (1+(S+wEx x)) q:Nat):Int):=by omega
     generalize min (wEx x) (q-(1+S))=z at hi2 hr
     have hz:z≤1000000:=by omega
     repeat' (first|refine wu ?_|exact wkc|intro hc|refine wk2 ?_ ?_|refine wv hi2 ?_|fail)
     exact zab.zaz hlt (by rw[htk];omega) ⟨rfl,rfl,by rw[htk,<-hr];rfl,rfl,trivial⟩
    ·have hn:min (1+S) q=q:=by omega
     rw[hn,show min (1+W) q=q from by omega]
     repeat' (first|refine wu ?_|exact wkc|intro hc|refine wk2 ?_ ?_|fail)
     all_goals exact zwcs
   ·rw[qae]
    repeat' (first|refine wu ?_|exact wkc|intro hc|refine wk2 ?_ ?_|fail)
    all_goals exact zwcs
end Go.Proofs.YtpnnpgbaiobbjaaGreatDoor
namespace Go.TL
open Go
def FinK(id:Nat)(EF:Env)(GF:Heap)(K:TK):TK
 | .exit i,env,H=>i=id/\env.sub EF/\H=GF
 | e,env,H=>K e env H
theorem TR.fin{P:Program}{n id:Nat}{env EF:Env}{H GF:Heap}{K:TK}{c:Code}(h:TR P n c env H (FinK id EF GF K))(fin:K (.exit id) EF GF):TR P n c env H K:=
 TR.weak (TR.mono h fun te env H hk=>by
  cases te with
  | exit i=>
    obtain⟨rfl,h1,rfl⟩:=hk
    exact⟨EF,fun i v hv=>⟨v,Env.zhv h1 i v hv,Le.refl v⟩,fin⟩
  | _=>exact zpL.done hk)
section
variable {P:Program}{n:Nat}{env:Env}{K:TK}{all:Array Oper}{rest:List Oper}{d:Nat}{ty:TypeId}{pos:String}{aft:Array Edge}{H:Heap}{q:Bool}
theorem TO.quoN{t t':TypeId}{x y:Operand}{a b:Nat}(hd:Nat.ble (d+1) n=true)(hx:env.val x=some (.i a))(hy:env.val y=some (.i b))(hb:0<b)(ha:a≤1000000000000)
  (k:TO q P n all rest ((d,.i (a / b:Nat))::env) H K):TO q P n all (⟨some d,.binOp .quo t x y t',ty,pos,aft,none⟩::rest) env H K:=
 TO.bquo hd hx hy (by omega) (by
  have h2:a / b≤a:=Nat.div_le_self a b
  rw[show((a:Int).tdiv b)=((a / b:Nat):Int) from by rw[Int.ofNat_tdiv]]
  generalize a / b=c at*
  rw[zgD (by omega) (by omega)];exact k)
end
end Go.TL
namespace Go.Proofs.YtpnnpgbaiobbjaaGreatDoor
open Go Go.TL
attribute [local irreducible] TR TO Then zap RetK Sound zab Kf GG za3
def wgs{α:Type}(g:Nat->α->Nat)(q:Nat):List α->Nat->Nat
 | [],n=>n
 | x::l,n=>if n<q then wgs g q l (g n x) else n
theorem zoQ{α:Type}{g:Nat->α->Nat}{q n:Nat}(h:¬n<q):∀(l:List α),wgs g q l n=n
 | []=>rfl
 | x::l=>by rw[wgs,if_neg h]
theorem zgB{α:Type}(g:Nat->α->Nat)(q:Nat):∀(a b:List α) (n:Nat),wgs g q (a++b) n=wgs g q b (wgs g q a n)
 | [],b,n=>rfl
 | x::a,b,n=>by
   rw[qbs,wgs,wgs]
   by_cases h:n<q
   ·rw[if_pos h,if_pos h,zgB g q a b]
   ·rw[if_neg h,if_neg h,zoQ h]
theorem zdt{α:Type}{g:Nat->α->Nat}{q n:Nat}{l:List α}{k:Nat}(hk:k<l.length)(h:wgs g q (l.take k) n<q):wgs g q (l.take (k+1)) n=g (wgs g q (l.take k) n) l[k]:=by
 rw[qaA hk,zgB,wgs,if_pos h,wgs]
theorem zds{α:Type}{g:Nat->α->Nat}{q n:Nat}{l:List α}{k:Nat}(h:¬wgs g q (l.take k) n<q):wgs g q l n=wgs g q (l.take k) n:=by
 conv=>lhs;rw[<-qaW k l]
 rw[zgB,zoQ h]
theorem zc7{α:Type}{g:Nat->α->Nat}{q B:Nat}:∀(l:List α) (n:Nat),n≤B->(∀n,n<q->∀x∈l,g n x≤B)->wgs g q l n≤B
 | [],n,h,_=>h
 | x::l,n,h,hg=>by
   rw[wgs]
   split
   ·rename_i hq
    exact zc7 l _ (hg n hq x (by simp)) fun n hn y hy=>hg n hn y (by simp[hy])
   ·exact h
def wD(q:Nat)(l:List Decl):Nat:=wgs (fun n x=>n+((x.clock.map onT).length+x.name.length / 100)) q l l.length
theorem zl9{q:Nat}(hq:q≤1500){l:List Decl}(hl:l.length≤100000000)(hx:∀x∈l,(x.clock.map onT).length≤100000000/\x.name.length≤100000000):wD q l≤200000000:=
 zc7 l _ (by omega) fun n hn x h=>by have:=hx x h;omega
theorem zhy(q:Nat)(hq1:1≤q)(hq:q≤1500)(l:List Decl)(hl:l.length≤100000000)(hx:∀x∈l,(x.clock.map onT).length≤100000000/\x.name.length≤100000000):Pure Tryz.prog 49 [.t (zad l),.i q] (.i (wD q l:Nat)):=by
 have hml:(l.map zaa).length=l.length:=qaa _
 unfold wD
 refine so Tryz.func49 ?_
 repeat' (first|refine wu ?_|exact wkc|intro hc|refine wk2 ?_ ?_|fail)
 refine TR.fin (id:=0) (EF:=[(5,.i (wgs (fun n x=>n+((x.clock.map onT).length+x.name.length / 100)) q l l.length:Nat))]) (GF:=[]) (TR.zal l.length (fun _=>True) (fun k=>[(0,.t (zad l)),(1,.i q),(5,.i (wgs (fun n x=>n+((x.clock.map onT).length+x.name.length / 100)) q (l.take k) l.length:Nat)),(6,.i k)]) (fun _=>[]) trivial (fun k hlt _=>?_) (fun _=>?_) ⟨rfl,rfl,by rw[<-hml];rfl,rfl,trivial⟩) ?_
 ·have hat:=zcY hlt
  have hxk:=hx _ (qad hlt)
  have hb:wgs (fun n (x:Decl)=>n+((x.clock.map onT).length+x.name.length / 100)) q (l.take k) l.length≤200000000:=zc7 _ _ (by omega) fun n hn x h=>by have:=hx x (qaR h);omega
  by_cases hn:wgs (fun n (x:Decl)=>n+((x.clock.map onT).length+x.name.length / 100)) q (l.take k) l.length<q
  ·have hs:=zdt hlt hn
   generalize wgs (fun n (x:Decl)=>n+((x.clock.map onT).length+x.name.length / 100)) q (l.take k) l.length=n at*
   generalize l[k]=x at*
   rw[show n+((x.clock.map onT).length+x.name.length / 100)=n+(x.clock.map onT).length+x.name.length / 100 by omega]at hs
   unfold zeZ at hat
   repeat' (first|refine wkt ?_|(apply TO.quoN (b:=100);(iterate 3 exact rfl);omega;omega)|exact trivial|exact qah rfl rfl|refine qah (fun H env=>?_) ?_|refine wk ?_|exact wkc|intro hc|refine wk2 ?_ ?_|fail)
   exact zwfc
  ·have hs:=zds hn
   generalize wgs (fun n (x:Decl)=>n+((x.clock.map onT).length+x.name.length / 100)) q (l.take k) l.length=n at*
   exact zwdv
 ·exact zwdc
 ·repeat' (first|refine wu ?_|exact wkc|intro hc|refine wk2 ?_ ?_|fail)
  exact wkr
def wE(q:Nat)(l:List Equ):Nat:=wgs (fun n x=>n+((x.left.map T.s).length+min (wEx x.right) q)) q l l.length
theorem ztm{q:Nat}(hq:q≤1500){l:List Equ}(hl:l.length≤100000000)(hx:∀x∈l,(x.left.map T.s).length≤100000000):wE q l≤200000000:=
 zc7 l _ (by omega) fun n hn x h=>by have:=hx x h;omega
theorem zoM(q:Nat)(hq1:1≤q)(hq:q≤1500)(l:List Equ)(hl:l.length≤100000000)(hx:∀x∈l,(x.left.map T.s).length≤100000000):Pure Tryz.prog 50 [.t (.sl 7 (l.map equT)),.i q] (.i (wE q l:Nat)):=by
 have hml:(l.map equT).length=l.length:=qaa _
 unfold wE
 refine so Tryz.func50 ?_
 repeat' (first|refine wu ?_|exact wkc|intro hc|refine wk2 ?_ ?_|fail)
 refine TR.fin (id:=0) (EF:=[(5,.i (wgs (fun n x=>n+((x.left.map T.s).length+min (wEx x.right) q)) q l l.length:Nat))]) (GF:=[]) (TR.zal l.length (fun _=>True) (fun k=>[(0,.t (.sl 7 (l.map equT))),(1,.i q),(5,.i (wgs (fun n x=>n+((x.left.map T.s).length+min (wEx x.right) q)) q (l.take k) l.length:Nat)),(6,.i k)]) (fun _=>[]) trivial (fun k hlt _=>?_) (fun _=>?_) ⟨rfl,rfl,by rw[<-hml];rfl,rfl,trivial⟩) ?_
 ·have hat:=zjc hlt
  have hxk:=hx _ (qad hlt)
  have hb:wgs (fun n (x:Equ)=>n+((x.left.map T.s).length+min (wEx x.right) q)) q (l.take k) l.length≤200000000:=zc7 _ _ (by omega) fun n hn x h=>by have:=hx x (qaR h);omega
  by_cases hn:wgs (fun n (x:Equ)=>n+((x.left.map T.s).length+min (wEx x.right) q)) q (l.take k) l.length<q
  ·have hs:=zdt hlt hn
   generalize wgs (fun n (x:Equ)=>n+((x.left.map T.s).length+min (wEx x.right) q)) q (l.take k) l.length=n at*
   generalize l[k]=x at*
   rw[show n+((x.left.map T.s).length+min (wEx x.right) q)=n+(x.left.map T.s).length+min (wEx x.right) q by omega]at hs
   have hw:=zeJ _ x.right (qag _) q hq1 (by omega)
   have hmq:min (wEx x.right) q≤1500:=by omega
   generalize min (wEx x.right) q=wq at*
   unfold exC at hw
   unfold equC at hat
   repeat' (first|refine wkt ?_|refine rg [.i n,.t (.sl 7 (l.map equT)),.i k,.cp [.sl 1 (x.left.map T.s),T.n x.right.kind,T.n x.right.op,T.n x.right.t,T.n x.right.v,.s x.right.name,.sl 6 (x.right.args.map exT)] 0,.cp [.sl 1 (x.left.map T.s),T.n x.right.kind,T.n x.right.op,T.n x.right.t,T.n x.right.v,.s x.right.name,.sl 6 (x.right.args.map exT)] 0,.t (.sl 1 (x.left.map T.s)),.i (x.left.map T.s).length,.i (n+(x.left.map T.s).length:Nat),.t (.sl 7 (l.map equT)),.i k,.cp [.sl 1 (x.left.map T.s),T.n x.right.kind,T.n x.right.op,T.n x.right.t,T.n x.right.v,.s x.right.name,.sl 6 (x.right.args.map exT)] 0,.cp [.sl 1 (x.left.map T.s),T.n x.right.kind,T.n x.right.op,T.n x.right.t,T.n x.right.v,.s x.right.name,.sl 6 (x.right.args.map exT)] 1,.t (.ag [T.n x.right.kind,T.n x.right.op,T.n x.right.t,T.n x.right.v,.s x.right.name,.sl 6 (x.right.args.map exT)]),.i q,.i (wq:Nat),.i (n+(x.left.map T.s).length+wq:Nat),.i (n+(x.left.map T.s).length+wq:Nat)] ?_ ?_|refine wv hw ?_|exact trivial|exact qah rfl rfl|refine qah (fun H env=>?_) ?_|refine wk ?_|exact wkc|intro hc|refine wk2 ?_ ?_|fail)
   exact zwfc
  ·have hs:=zds hn
   generalize wgs (fun n (x:Equ)=>n+((x.left.map T.s).length+min (wEx x.right) q)) q (l.take k) l.length=n at*
   exact zwdv
 ·exact zwdc
 ·repeat' (first|refine wu ?_|exact wkc|intro hc|refine wk2 ?_ ?_|fail)
  exact wkr
def wX(q:Nat)(l:List Ex):Nat:=wgs (fun n x=>n+(min (wEx x) q)) q l l.length
theorem zto{q:Nat}(hq:q≤1500){l:List Ex}(hl:l.length≤100000000)(hx:∀x∈l,wEx x≤1000000000):wX q l≤200000000:=
 zc7 l _ (by omega) fun n hn x h=>by have:=hx x h;omega
theorem zoO(q:Nat)(hq1:1≤q)(hq:q≤1500)(l:List Ex)(hl:l.length≤100000000)(hx:∀x∈l,wEx x≤1000000000):Pure Tryz.prog 51 [.t (.sl 6 (l.map exT)),.i q] (.i (wX q l:Nat)):=by
 have hml:(l.map exT).length=l.length:=qaa _
 unfold wX
 refine so Tryz.func51 ?_
 repeat' (first|refine wu ?_|exact wkc|intro hc|refine wk2 ?_ ?_|fail)
 refine TR.fin (id:=0) (EF:=[(5,.i (wgs (fun n x=>n+(min (wEx x) q)) q l l.length:Nat))]) (GF:=[]) (TR.zal l.length (fun _=>True) (fun k=>[(0,.t (.sl 6 (l.map exT))),(1,.i q),(5,.i (wgs (fun n x=>n+(min (wEx x) q)) q (l.take k) l.length:Nat)),(6,.i k)]) (fun _=>[]) trivial (fun k hlt _=>?_) (fun _=>?_) ⟨rfl,rfl,by rw[<-hml];rfl,rfl,trivial⟩) ?_
 ·have hat:=zfn hlt
  have hxk:=hx _ (qad hlt)
  have hb:wgs (fun n (x:Ex)=>n+(min (wEx x) q)) q (l.take k) l.length≤200000000:=zc7 _ _ (by omega) fun n hn x h=>by have:=hx x (qaR h);omega
  by_cases hn:wgs (fun n (x:Ex)=>n+(min (wEx x) q)) q (l.take k) l.length<q
  ·have hs:=zdt hlt hn
   generalize wgs (fun n (x:Ex)=>n+(min (wEx x) q)) q (l.take k) l.length=n at*
   generalize l[k]=x at*
   have hw:=zeJ _ x (qag _) q hq1 (by omega)
   have hmq:min (wEx x) q≤1500:=by omega
   generalize min (wEx x) q=wq at*
   unfold exC at hw
   unfold exC at hat
   repeat' (first|refine wkt ?_|refine wv hw ?_|exact trivial|exact qah rfl rfl|refine qah (fun H env=>?_) ?_|refine wk ?_|exact wkc|intro hc|refine wk2 ?_ ?_|fail)
   exact zwfc
  ·have hs:=zds hn
   generalize wgs (fun n (x:Ex)=>n+(min (wEx x) q)) q (l.take k) l.length=n at*
   exact zwdv
 ·exact zwdc
 ·repeat' (first|refine wu ?_|exact wkc|intro hc|refine wk2 ?_ ?_|fail)
  exact wkr
def wT(q:Nat)(l:List Tran):Nat:=wgs (fun n x=>n+(min (wEx x.cond) q)) q l l.length
theorem ztn{q:Nat}(hq:q≤1500){l:List Tran}(hl:l.length≤100000000)(hx:∀x∈l,wEx x.cond≤1000000000):wT q l≤200000000:=
 zc7 l _ (by omega) fun n hn x h=>by have:=hx x h;omega
theorem zoN(q:Nat)(hq1:1≤q)(hq:q≤1500)(l:List Tran)(hl:l.length≤100000000)(hx:∀x∈l,wEx x.cond≤1000000000):Pure Tryz.prog 104 [.t (.sl 8 (l.map zah)),.i q] (.i (wT q l:Nat)):=by
 have hml:(l.map zah).length=l.length:=qaa _
 unfold wT
 refine so Tryz.func104 ?_
 repeat' (first|refine wu ?_|exact wkc|intro hc|refine wk2 ?_ ?_|fail)
 refine TR.fin (id:=0) (EF:=[(5,.i (wgs (fun n x=>n+(min (wEx x.cond) q)) q l l.length:Nat))]) (GF:=[]) (TR.zal l.length (fun _=>True) (fun k=>[(0,.t (.sl 8 (l.map zah))),(1,.i q),(5,.i (wgs (fun n x=>n+(min (wEx x.cond) q)) q (l.take k) l.length:Nat)),(6,.i k)]) (fun _=>[]) trivial (fun k hlt _=>?_) (fun _=>?_) ⟨rfl,rfl,by rw[<-hml];rfl,rfl,trivial⟩) ?_
 ·have hat:=zmi hlt
  have hxk:=hx _ (qad hlt)
  have hb:wgs (fun n (x:Tran)=>n+(min (wEx x.cond) q)) q (l.take k) l.length≤200000000:=zc7 _ _ (by omega) fun n hn x h=>by have:=hx x (qaR h);omega
  by_cases hn:wgs (fun n (x:Tran)=>n+(min (wEx x.cond) q)) q (l.take k) l.length<q
  ·have hs:=zdt hlt hn
   generalize wgs (fun n (x:Tran)=>n+(min (wEx x.cond) q)) q (l.take k) l.length=n at*
   generalize l[k]=x at*
   have hw:=zeJ _ x.cond (qag _) q hq1 (by omega)
   have hmq:min (wEx x.cond) q≤1500:=by omega
   generalize min (wEx x.cond) q=wq at*
   unfold exC at hw
   unfold zhe at hat
   repeat' (first|refine wkt ?_|refine wv hw ?_|exact trivial|exact qah rfl rfl|refine qah (fun H env=>?_) ?_|refine wk ?_|exact wkc|intro hc|refine wk2 ?_ ?_|fail)
   exact zwfc
  ·have hs:=zds hn
   generalize wgs (fun n (x:Tran)=>n+(min (wEx x.cond) q)) q (l.take k) l.length=n at*
   exact zwdv
 ·exact zwdc
 ·repeat' (first|refine wu ?_|exact wkc|intro hc|refine wk2 ?_ ?_|fail)
  exact wkr
def stW(F:Nat->List Auto->Nat)(q n:Nat)(s:Sta):Nat:=
 if n+1+wD q s.locals+wE q s.eqs+wT q s.unl+wT q s.unt<q then n+1+wD q s.locals+wE q s.eqs+wT q s.unl+wT q s.unt+F (q-(n+1+wD q s.locals+wE q s.eqs+wT q s.unl+wT q s.unt)) s.autos else n+1+wD q s.locals+wE q s.eqs+wT q s.unl+wT q s.unt
def wgA:Nat->Nat->List Auto->Nat
 | 0,_,_=>0
 | m+1,q,l=>wgs (fun n a=>wgs (stW (wgA m) q) q a.states n) q l l.length
theorem zem{l:List Decl}(h:(zad l).w≤100000000):l.length≤100000000/\∀x∈l,(x.clock.map onT).length≤100000000/\x.name.length≤100000000:=by
 have h1:=zai zaa 3 l
 have h2:(zad l).w=(T.sl 3 (l.map zaa)).w:=rfl
 refine⟨by omega,fun x hx=>?_⟩
 have h3:=zbd hx
 have h4:=zai onT 3 x.clock
 rw[qaa]
 omega
theorem zoh{l:List Equ}(h:(T.sl 7 (l.map equT)).w≤100000000):l.length≤100000000/\∀x∈l,(x.left.map T.s).length≤100000000:=by
 have h1:=zai equT 7 l
 refine⟨by omega,fun x hx=>?_⟩
 have h3:=zau (f:=equT) (sz:=7) hx
 have h4:=zdk (q:=x)
 rw[qaa]
 omega
theorem zsG{l:List Ex}(h:(T.sl 6 (l.map exT)).w≤100000000):l.length≤100000000/\∀x∈l,wEx x≤1000000000:=by
 have h1:=zai exT 6 l
 refine⟨by omega,fun x hx=>?_⟩
 have h3:=zau (f:=exT) (sz:=6) hx
 have h4:=zcT x
 omega
theorem zkB{l:List Tran}(h:(T.sl 8 (l.map zah)).w≤100000000):l.length≤100000000/\∀x∈l,wEx x.cond≤1000000000:=by
 have h1:=zai zah 8 l
 refine⟨by omega,fun x hx=>?_⟩
 have h3:=zau (f:=zah) (sz:=8) hx
 have h4:=zkG (t:=x)
 omega
theorem zvW{F:Nat->List Auto->Nat}{B q n:Nat}(hF:∀(q:Nat),q≤1500->∀l:List Auto,(T.sl 1 (l.map zae)).w≤100000000->F q l≤B)(hB:1000000000≤B)(hq:q≤1500)(hn:n<q){s:Sta}(hs:(staT s).w≤100000000):stW F q n s≤B+2000:=by
 have w4:=zdQ s
 have d:=zem (l:=s.locals) (by omega)
 have e:=zoh (l:=s.eqs) (by omega)
 have t1:=zkB (l:=s.unl) (by omega)
 have t2:=zkB (l:=s.unt) (by omega)
 have b1:=zl9 hq d.1 d.2
 have b2:=ztm hq e.1 e.2
 have b3:=ztn hq t1.1 t1.2
 have b4:=ztn hq t2.1 t2.2
 unfold stW
 generalize wD q s.locals=a1 at*
 generalize wE q s.eqs=a2 at*
 generalize wT q s.unl=a3 at*
 generalize wT q s.unt=a4 at*
 split
 ·have:=hF (q-(n+1+a1+a2+a3+a4)) (by omega) s.autos (by omega)
  omega
 ·omega
theorem zpS{F:Nat->List Auto->Nat}{B q n:Nat}(hF:∀(q:Nat),q≤1500->∀l:List Auto,(T.sl 1 (l.map zae)).w≤100000000->F q l≤B)(hB:1000000000≤B)(hq:q≤1500)(hn:n≤B){l:List Sta}(hs:∀s∈l,(staT s).w≤100000000):wgs (stW F q) q l n≤B+2000:=
 zc7 l n (by omega) fun n hn s h=>zvW hF hB hq hn (hs s h)
theorem zr7:∀(m:Nat) (q:Nat),q≤1500->∀l:List Auto,(T.sl 1 (l.map zae)).w≤100000000->wgA m q l≤1000000000+2000*m
 | 0,q,hq,l,hw=>by simp[wgA]
 | m+1,q,hq,l,hw=>by
   have h1:=zai zae 1 l
   obtain⟨B,hB⟩:∃B,B=1000000000+2000*(m+1):=⟨_,rfl⟩
   rw[<-hB]
   unfold wgA
   refine zc7 l _ (by omega) fun n hn a ha=>?_
   have w1:=zau (f:=zae) (sz:=1) ha
   have w2:=zbH a
   have:=zpS (n:=n) (zr7 m) (by omega) hq (by omega) (l:=a.states) fun s hs=>by have:=zau (f:=staT) (sz:=6) hs;omega
   omega
set_option maxHeartbeats 4000000 in
theorem zr8:∀(m:Nat) (l:List Auto),m≤100000000->(T.sl 1 (l.map zae)).w≤m->∀q:Nat,1≤q->q≤1500->Pure Tryz.prog 52 [.t (.sl 1 (l.map zae)),.i q] (.i (wgA m q l:Nat)):=by
 intro m
 induction m with
 | zero=>intro l _ h;have:=zai zae 1 l;omega
 | succ m ih0=>
   intro l hm8 hw q hq1 hq
   have hml:(l.map zae).length=l.length:=qaa _
   have hll:=zai zae 1 l
   have ih:=fun l h=>ih0 l (by omega) h
   clear ih0
   have hF:=zr7 m
   rw[wgA]
   generalize wgA m=F at*
   have hsw:∀a∈l,∀s∈a.states,(staT s).w≤m:=fun a ha s hs=>by
    have w1:=zau (f:=zae) (sz:=1) ha
    have w2:=zbH a
    have w3:=zau (f:=staT) (sz:=6) hs
    omega
   refine so Tryz.func52 ?_
   repeat' (first|refine wu ?_|exact wkc|intro hc|refine wk2 ?_ ?_|fail)
   refine TR.fin (id:=0) (EF:=[(5,.i (wgs (fun n (a:Auto)=>wgs (stW F q) q a.states n) q l l.length:Nat))]) (GF:=[]) (TR.zal l.length (fun _=>True) (fun k=>[(0,.t (.sl 1 (l.map zae))),(1,.i q),(5,.i (wgs (fun n (a:Auto)=>wgs (stW F q) q a.states n) q (l.take k) l.length:Nat)),(6,.i k)]) (fun _=>[]) trivial (fun k hlt _=>?_) (fun _=>?_) ⟨rfl,rfl,by rw[<-hml];rfl,rfl,trivial⟩) ?_
   ·have hat:=zhD hlt
    have hak:=hsw _ (qad hlt)
    have hb:wgs (fun n (a:Auto)=>wgs (stW F q) q a.states n) q (l.take k) l.length≤1000000000+2000*m+2000:=zc7 _ _ (by omega) fun n hn a ha=>zpS hF (by omega) hq (by omega) fun s hs=>by have:=hsw a (qaR ha) s hs;omega
    by_cases hn:wgs (fun n (a:Auto)=>wgs (stW F q) q a.states n) q (l.take k) l.length<q
    ·have hs:=zdt hlt hn
     generalize wgs (fun n (a:Auto)=>wgs (stW F q) q a.states n) q (l.take k) l.length=n at*
     have hln:l[k].states.length≤1000000000:=by
      have w1:=zau (f:=zae) (sz:=1) (qad hlt)
      have w2:=zbH l[k]
      have w3:=zai staT 6 l[k].states
      omega
     generalize l[k]=a at*
     have hma:(a.states.map staT).length=a.states.length:=qaa _
     unfold zdv at hat
     repeat' (first|refine wu ?_|exact wkc|intro hc|refine wk2 ?_ ?_|fail)
     refine TR.fin (id:=2) (EF:=[(0,.t (.sl 1 (l.map zae))),(1,.i q),(6,.i k),(5,.i (wgs (stW F q) q a.states n:Nat))]) (GF:=[]) (TR.zal a.states.length (fun _=>True) (fun j=>[(0,.t (.sl 1 (l.map zae))),(1,.i q),(6,.i k),(5,.i (wgs (stW F q) q (a.states.take j) n:Nat)),(7,.i j)]) (fun _=>[]) trivial (fun j hlj _=>?_) (fun _=>?_)) ?_
     ·have hat2:=zn0 hlj
      have hsk:=hak _ (qad hlj)
      have hb2:wgs (stW F q) q (a.states.take j) n≤1000000000+2000*m+2000:=zpS hF (by omega) hq (by omega) fun s hs=>by have:=hak s (qaR hs);omega
      by_cases hn2:wgs (stW F q) q (a.states.take j) n<q
      ·have hs2:=zdt hlj hn2
       generalize wgs (stW F q) q (a.states.take j) n=n2 at*
       generalize a.states[j]=s at*
       rw[stW.eq_1 F q n2 s]at hs2
       have w4:=zdQ s
       have d:=zem (l:=s.locals) (by omega)
       have e:=zoh (l:=s.eqs) (by omega)
       have t1:=zkB (l:=s.unl) (by omega)
       have t2:=zkB (l:=s.unt) (by omega)
       have b1:=zl9 hq d.1 d.2
       have b2:=ztm hq e.1 e.2
       have b3:=ztn hq t1.1 t1.2
       have b4:=ztn hq t2.1 t2.2
       have c1:=zhy q hq1 hq s.locals d.1 d.2
       have c2:=zoM q hq1 hq s.eqs e.1 e.2
       have c3:=zoN q hq1 hq s.unl t1.1 t1.2
       have c4:=zoN q hq1 hq s.unt t2.1 t2.2
       have hi:=ih s.autos (by omega)
       have hFs:=fun q' hq'=>hF q' hq' s.autos (by omega)
       clear ih hF hak hsw d e t1 t2 w4
       generalize wD q s.locals=a1 at*
       generalize wE q s.eqs=a2 at*
       generalize wT q s.unl=a3 at*
       generalize wT q s.unt=a4 at*
       unfold staC at hat2
       by_cases hn3:n2+1+a1+a2+a3+a4<q
       ·rw[if_pos hn3]at hs2
        have hi:=hi (q-(n2+1+a1+a2+a3+a4)) (by omega) (by omega)
        have hFs:=hFs (q-(n2+1+a1+a2+a3+a4)) (by omega)
        generalize F (q-(n2+1+a1+a2+a3+a4)) s.autos=fz at*
        rw[show((q-(n2+1+a1+a2+a3+a4):Nat):Int)=(q:Int)-((n2+1+a1+a2+a3+a4:Nat):Int) by omega]at hi
        repeat' (first|refine wkt ?_|refine wka ?_|refine rg [.i n2,.i (n2+1:Nat),.cp [.s s.name,zad s.locals,.sl 7 (s.eqs.map equT),.sl 1 (s.autos.map zae),.sl 8 (s.unl.map zah),.sl 8 (s.unt.map zah)] 1,.t (zad s.locals),.i q,.i a1,.i (n2+1+a1:Nat),.cp [.s s.name,zad s.locals,.sl 7 (s.eqs.map equT),.sl 1 (s.autos.map zae),.sl 8 (s.unl.map zah),.sl 8 (s.unt.map zah)] 2,.t (.sl 7 (s.eqs.map equT)),.i q,.i a2,.i (n2+1+a1+a2:Nat),.cp [.s s.name,zad s.locals,.sl 7 (s.eqs.map equT),.sl 1 (s.autos.map zae),.sl 8 (s.unl.map zah),.sl 8 (s.unt.map zah)] 4,.t (.sl 8 (s.unl.map zah)),.i q,.i a3,.i (n2+1+a1+a2+a3:Nat),.cp [.s s.name,zad s.locals,.sl 7 (s.eqs.map equT),.sl 1 (s.autos.map zae),.sl 8 (s.unl.map zah),.sl 8 (s.unt.map zah)] 5,.t (.sl 8 (s.unt.map zah)),.i q,.i a4,.i (n2+1+a1+a2+a3+a4:Nat),.i (n2+1+a1+a2+a3+a4:Nat)] ?_ ?_|refine wv c1 ?_|refine wv c2 ?_|refine wv c3 ?_|refine wv c4 ?_|refine wv hi ?_|exact trivial|exact qah rfl rfl|refine qah (fun H env=>?_) ?_|refine wk ?_|exact wkc|intro hc|refine wk2 ?_ ?_|fail)
        exact zwer
       ·rw[if_neg hn3]at hs2
        clear hi hFs
        repeat' (first|refine wkt ?_|refine wka ?_|refine rg [.i n2,.i (n2+1:Nat),.cp [.s s.name,zad s.locals,.sl 7 (s.eqs.map equT),.sl 1 (s.autos.map zae),.sl 8 (s.unl.map zah),.sl 8 (s.unt.map zah)] 1,.t (zad s.locals),.i q,.i a1,.i (n2+1+a1:Nat),.cp [.s s.name,zad s.locals,.sl 7 (s.eqs.map equT),.sl 1 (s.autos.map zae),.sl 8 (s.unl.map zah),.sl 8 (s.unt.map zah)] 2,.t (.sl 7 (s.eqs.map equT)),.i q,.i a2,.i (n2+1+a1+a2:Nat),.cp [.s s.name,zad s.locals,.sl 7 (s.eqs.map equT),.sl 1 (s.autos.map zae),.sl 8 (s.unl.map zah),.sl 8 (s.unt.map zah)] 4,.t (.sl 8 (s.unl.map zah)),.i q,.i a3,.i (n2+1+a1+a2+a3:Nat),.cp [.s s.name,zad s.locals,.sl 7 (s.eqs.map equT),.sl 1 (s.autos.map zae),.sl 8 (s.unl.map zah),.sl 8 (s.unt.map zah)] 5,.t (.sl 8 (s.unt.map zah)),.i q,.i a4,.i (n2+1+a1+a2+a3+a4:Nat),.i (n2+1+a1+a2+a3+a4:Nat)] ?_ ?_|refine wv c1 ?_|refine wv c2 ?_|refine wv c3 ?_|refine wv c4 ?_|exact trivial|exact qah rfl rfl|refine qah (fun H env=>?_) ?_|refine wk ?_|exact wkc|intro hc|refine wk2 ?_ ?_|fail)
        exact zwer
      ·have hs2:=zds hn2
       generalize wgs (stW F q) q (a.states.take j) n=n2 at*
       rw[hs2]
       repeat' (first|refine wu ?_|exact wkc|intro hc|refine wk2 ?_ ?_|fail)
       exact⟨rfl,⟨rfl,rfl,rfl,rfl,trivial⟩,rfl⟩
     ·rw[qae]
      repeat' (first|refine wu ?_|exact wkc|intro hc|refine wk2 ?_ ?_|fail)
      all_goals exact⟨rfl,⟨rfl,rfl,rfl,rfl,trivial⟩,rfl⟩
     ·repeat' (first|refine wu ?_|exact wkc|intro hc|refine wk2 ?_ ?_|fail)
      exact zwfc
    ·have hs:=zds hn
     generalize wgs (fun n (a:Auto)=>wgs (stW F q) q a.states n) q (l.take k) l.length=n at*
     exact zwdv
   ·exact zwdc
   ·repeat' (first|refine wu ?_|exact wkc|intro hc|refine wk2 ?_ ?_|fail)
    exact wkr
def ndW(F:Nat->List Auto->Nat)(q w:Nat)(n:Nod):Nat:=if w+wD q n.ins+wD q n.outs+wD q n.locals+wE q n.eqs+wX q n.assume+wX q n.ensure<q then w+wD q n.ins+wD q n.outs+wD q n.locals+wE q n.eqs+wX q n.assume+wX q n.ensure+F (q-(w+wD q n.ins+wD q n.outs+wD q n.locals+wE q n.eqs+wX q n.assume+wX q n.ensure)) n.autos else w+wD q n.ins+wD q n.outs+wD q n.locals+wE q n.eqs+wX q n.assume+wX q n.ensure
def wgP(q:Nat)(p:Prog):Nat:=wgs (ndW (wgA 100000000) q) q p.nodes (wgs (fun w (u:En)=>w+(u.tags.map T.s).length) q p.enums ((p.enums.map enT).length+(p.nodes.map nodT).length))
theorem zvN{F:Nat->List Auto->Nat}{B q w:Nat}(hF:∀(q:Nat),q≤1500->∀l:List Auto,(T.sl 1 (l.map zae)).w≤100000000->F q l≤B)(hB:2000000000≤B)(hq:q≤1500)(hn:w<q){n:Nod}(hs:(nodT n).w≤100000000):ndW F q w n≤B+2000:=by
 have w4:=zda n
 have d1:=zem (l:=n.ins) (by omega)
 have d2:=zem (l:=n.outs) (by omega)
 have d3:=zem (l:=n.locals) (by omega)
 have e:=zoh (l:=n.eqs) (by omega)
 have x1:=zsG (l:=n.assume) (by omega)
 have x2:=zsG (l:=n.ensure) (by omega)
 have b1:=zl9 hq d1.1 d1.2
 have b2:=zl9 hq d2.1 d2.2
 have b3:=zl9 hq d3.1 d3.2
 have b4:=ztm hq e.1 e.2
 have b5:=zto hq x1.1 x1.2
 have b6:=zto hq x2.1 x2.2
 unfold ndW
 generalize wD q n.ins=a1 at*
 generalize wD q n.outs=a2 at*
 generalize wD q n.locals=a3 at*
 generalize wE q n.eqs=a4 at*
 generalize wX q n.assume=a5 at*
 generalize wX q n.ensure=a6 at*
 split
 ·have:=hF (q-(w+a1+a2+a3+a4+a5+a6)) (by omega) n.autos (by omega)
  omega
 ·omega
set_option maxHeartbeats 4000000 in
theorem zr9 (p:Prog) (hw:(T.ag (zax p)).w≤100000000) (q:Nat) (hq1:1≤q) (hq:q≤1500):Pure Tryz.prog 23 [.t (.ag (zax p)),.i q] (.i (wgP q p:Nat)):=by
 have hln:∀u∈p.nodes,(nodT u).w≤100000000:=fun u hu=>by
  have h1:=zau (f:=nodT) (sz:=8) hu
  exact zwcd
 have hpl:p.nodes.length≤100000000:=by
  have h1:=zai nodT 8 p.nodes
  exact zwcd
 have l1:(T.sl 2 (p.enums.map enT)).w+(zaA p.nodes).w≤(T.ag (zax p)).w:=by rw[w_ag];simp only[zax,qaj,qaw,qan,qaG];omega
 have le1:=zai enT 2 p.enums
 have hme:(p.enums.map enT).length=p.enums.length:=qaa _
 have hml:(p.nodes.map nodT).length=p.nodes.length:=qaa _
 have hten:∀u∈p.enums,(u.tags.map T.s).length≤100000000:=fun u hu=>by
  have h1:=zau (f:=enT) (sz:=2) hu
  rw[show enT u= .ag [.s u.name,.sl 1 (u.tags.map T.s)] from rfl,w_ag]at h1
  simp only[qaj,qaw,qan,qaG]at h1
  have h2:=zai T.s 1 u.tags
  rw[qaa];omega
 obtain⟨B,hB,hF⟩:∃B,B=1000000000+2000*100000000/\∀(q:Nat),q≤1500->∀l:List Auto,(T.sl 1 (l.map zae)).w≤100000000->wgA 100000000 q l≤B:=⟨_,rfl,zr7 100000000⟩
 have hA:=fun l h=>zr8 100000000 l (qag _) h
 unfold wgP
 generalize wgA 100000000=F at*
 unfold zax
 refine so Tryz.func23 ?_
 repeat' (first|refine wu ?_|exact wkc|intro hc|refine wk2 ?_ ?_|fail)
 refine TR.fin (id:=0) (EF:=[(1,.i q),(2,.cp [.sl 2 (p.enums.map enT),zaA p.nodes] 0),(5,.i (wgs (fun w (u:En)=>w+(u.tags.map T.s).length) q p.enums ((p.enums.map enT).length+(p.nodes.map nodT).length):Nat))]) (GF:=[]) (TR.zal p.enums.length (fun _=>True) (fun k=>[(1,.i q),(2,.cp [.sl 2 (p.enums.map enT),zaA p.nodes] 0),(5,.i (wgs (fun w (u:En)=>w+(u.tags.map T.s).length) q (p.enums.take k) ((p.enums.map enT).length+(p.nodes.map nodT).length):Nat)),(6,.i k)]) (fun _=>[]) trivial (fun k hlt _=>?_) (fun _=>?_)) ?_
 ·have hat:=zao enT hlt
  have htk:=hten _ (qad hlt)
  have hb:wgs (fun w (u:En)=>w+(u.tags.map T.s).length) q (p.enums.take k) ((p.enums.map enT).length+(p.nodes.map nodT).length)≤300000000:=zc7 _ _ (by omega) fun n hn u hu=>by have:=hten u (qaR hu);omega
  by_cases hn:wgs (fun w (u:En)=>w+(u.tags.map T.s).length) q (p.enums.take k) ((p.enums.map enT).length+(p.nodes.map nodT).length)<q
  ·have hs:=zdt hlt hn
   generalize wgs (fun w (u:En)=>w+(u.tags.map T.s).length) q (p.enums.take k) ((p.enums.map enT).length+(p.nodes.map nodT).length)=w at*
   generalize p.enums[k]=u at*
   unfold enT at hat
   repeat' (first|refine wu ?_|exact wkc|intro hc|refine wk2 ?_ ?_|fail)
   exact zwfc
  ·have hs:=zds hn
   generalize wgs (fun w (u:En)=>w+(u.tags.map T.s).length) q (p.enums.take k) ((p.enums.map enT).length+(p.nodes.map nodT).length)=w at*
   rw[hs]
   repeat' (first|refine wu ?_|exact wkc|intro hc|refine wk2 ?_ ?_|fail)
   exact⟨rfl,⟨rfl,rfl,rfl,trivial⟩,rfl⟩
 ·rw[qae]
  repeat' (first|refine wu ?_|exact wkc|intro hc|refine wk2 ?_ ?_|fail)
  all_goals exact⟨rfl,⟨rfl,rfl,rfl,trivial⟩,rfl⟩
 have hw0:wgs (fun w (u:En)=>w+(u.tags.map T.s).length) q p.enums ((p.enums.map enT).length+(p.nodes.map nodT).length)≤300000000:=zc7 _ _ (by omega) fun n hn u hu=>by have:=hten u hu;omega
 generalize wgs (fun w (u:En)=>w+(u.tags.map T.s).length) q p.enums ((p.enums.map enT).length+(p.nodes.map nodT).length)=w0 at*
 repeat' (first|refine wu ?_|exact wkc|intro hc|refine wk2 ?_ ?_|fail)
 refine TR.fin (id:=2) (EF:=[(5,.i (wgs (ndW F q) q p.nodes w0:Nat))]) (GF:=[]) (TR.zal p.nodes.length (fun _=>True) (fun k=>[(1,.i q),(2,.cp [.sl 2 (p.enums.map enT),zaA p.nodes] 0),(5,.i (wgs (ndW F q) q (p.nodes.take k) w0:Nat)),(7,.i k)]) (fun _=>[]) trivial (fun k hlt _=>?_) (fun _=>?_)) ?_
 ·have hat:=zfo hlt
  have hnw:=hln _ (qad hlt)
  have hb:wgs (ndW F q) q (p.nodes.take k) w0≤B+2000:=zc7 _ _ (by omega) fun n hn u hu=>zvN hF (by omega) hq hn (hln u (qaR hu))
  by_cases hn:wgs (ndW F q) q (p.nodes.take k) w0<q
  ·have hs:=zdt hlt hn
   generalize wgs (ndW F q) q (p.nodes.take k) w0=w at*
   generalize p.nodes[k]=n at*
   rw[ndW.eq_1 F q w n]at hs
   have w4:=zda n
   have d1:=zem (l:=n.ins) (by omega)
   have d2:=zem (l:=n.outs) (by omega)
   have d3:=zem (l:=n.locals) (by omega)
   have e:=zoh (l:=n.eqs) (by omega)
   have x1:=zsG (l:=n.assume) (by omega)
   have x2:=zsG (l:=n.ensure) (by omega)
   have b1:=zl9 hq d1.1 d1.2
   have b2:=zl9 hq d2.1 d2.2
   have b3:=zl9 hq d3.1 d3.2
   have b4:=ztm hq e.1 e.2
   have b5:=zto hq x1.1 x1.2
   have b6:=zto hq x2.1 x2.2
   have c1:=zhy q hq1 hq n.ins d1.1 d1.2
   have c2:=zhy q hq1 hq n.outs d2.1 d2.2
   have c3:=zhy q hq1 hq n.locals d3.1 d3.2
   have c4:=zoM q hq1 hq n.eqs e.1 e.2
   have c5:=zoO q hq1 hq n.assume x1.1 x1.2
   have c6:=zoO q hq1 hq n.ensure x2.1 x2.2
   have hi:=hA n.autos (by omega)
   have hFs:=fun q' hq'=>hF q' hq' n.autos (by omega)
   clear hA hF hln hten d1 d2 d3 e x1 x2 w4
   generalize wD q n.ins=a1 at*
   generalize wD q n.outs=a2 at*
   generalize wD q n.locals=a3 at*
   generalize wE q n.eqs=a4 at*
   generalize wX q n.assume=a5 at*
   generalize wX q n.ensure=a6 at*
   unfold nodC at hat
   by_cases hn3:w+a1+a2+a3+a4+a5+a6<q
   ·rw[if_pos hn3]at hs
    have hi:=hi (q-(w+a1+a2+a3+a4+a5+a6)) (by omega) (by omega)
    have hFs:=hFs (q-(w+a1+a2+a3+a4+a5+a6)) (by omega)
    generalize F (q-(w+a1+a2+a3+a4+a5+a6)) n.autos=fz at*
    rw[show((q-(w+a1+a2+a3+a4+a5+a6):Nat):Int)=(q:Int)-((w+a1+a2+a3+a4+a5+a6:Nat):Int) by omega]at hi
    repeat' (first|refine wkt ?_|refine wka ?_|refine rg [.i w,.cp (nC n) 1,.t (zad n.ins),.i q,.i a1,.i (w+a1:Nat),.cp (nC n) 2,.t (zad n.outs),.i q,.i a2,.i (w+a1+a2:Nat),.cp (nC n) 3,.t (zad n.locals),.i q,.i a3,.i (w+a1+a2+a3:Nat),.cp (nC n) 4,.t (.sl 7 (n.eqs.map equT)),.i q,.i a4,.i (w+a1+a2+a3+a4:Nat),.cp (nC n) 6,.t (.sl 6 (n.assume.map exT)),.i q,.i a5,.i (w+a1+a2+a3+a4+a5:Nat),.cp (nC n) 7,.t (.sl 6 (n.ensure.map exT)),.i q,.i a6,.i (w+a1+a2+a3+a4+a5+a6:Nat),.i (w+a1+a2+a3+a4+a5+a6:Nat)] ?_ ?_|refine wv c1 ?_|refine wv c2 ?_|refine wv c3 ?_|refine wv c4 ?_|refine wv c5 ?_|refine wv c6 ?_|refine wv hi ?_|exact trivial|exact qah rfl rfl|refine qah (fun H env=>?_) ?_|refine wk ?_|exact wkc|intro hc|refine wk2 ?_ ?_|fail)
    exact zwfc
   ·rw[if_neg hn3]at hs
    clear hi hFs
    repeat' (first|refine wkt ?_|refine wka ?_|refine rg [.i w,.cp (nC n) 1,.t (zad n.ins),.i q,.i a1,.i (w+a1:Nat),.cp (nC n) 2,.t (zad n.outs),.i q,.i a2,.i (w+a1+a2:Nat),.cp (nC n) 3,.t (zad n.locals),.i q,.i a3,.i (w+a1+a2+a3:Nat),.cp (nC n) 4,.t (.sl 7 (n.eqs.map equT)),.i q,.i a4,.i (w+a1+a2+a3+a4:Nat),.cp (nC n) 6,.t (.sl 6 (n.assume.map exT)),.i q,.i a5,.i (w+a1+a2+a3+a4+a5:Nat),.cp (nC n) 7,.t (.sl 6 (n.ensure.map exT)),.i q,.i a6,.i (w+a1+a2+a3+a4+a5+a6:Nat),.i (w+a1+a2+a3+a4+a5+a6:Nat)] ?_ ?_|refine wv c1 ?_|refine wv c2 ?_|refine wv c3 ?_|refine wv c4 ?_|refine wv c5 ?_|refine wv c6 ?_|exact trivial|exact qah rfl rfl|refine qah (fun H env=>?_) ?_|refine wk ?_|exact wkc|intro hc|refine wk2 ?_ ?_|fail)
    exact zwfc
  ·have hs:=zds hn
   generalize wgs (ndW F q) q (p.nodes.take k) w0=w at*
   exact zwdv
 ·exact zwdc
 ·repeat' (first|refine wu ?_|exact wkc|intro hc|refine wk2 ?_ ?_|fail)
  exact wkr
end Go.Proofs.YtpnnpgbaiobbjaaGreatDoor
