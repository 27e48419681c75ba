import Derived.Test.YtpfnfpaahefdaaaGreatPk34
set_option linter.all false
namespace Go.Proofs.YtpfnfpaahefdaaaGreat
open Go Go.TL
attribute [local irreducible] TR TO Then zab RetK Sound zac Kf GG za2
theorem zrf(t:T):1≤t.w:=by
 cases t <;> rw[T.w] <;> omega
theorem zef{α:Type}(f:α->T):∀l:List α,l.length≤sw f l
 | []=>qae _
 | x::l=>by
   have h1:=zef f l
   have h2:=zrf (f x)
   rw[zes,qac];omega
theorem zrd(d:Decl):(zag d).w=4+d.name.length+sw onT d.clock:=by
 unfold zag
 rw[w_ag];simp only[qah,qas,qax,qaK,w_s,w_n,zgW];omega
theorem zrt(q:Equ):(equT q).w=1+sw T.s q.left+om q.right:=by
 have:=zp2 q.right
 unfold equT
 rw[w_ag,qah,qax,zgW];omega
theorem zco{l:List Decl}(h:sw zag l≤100000000):l.length≤1000000000/\∀d∈l,d.clock.length≤1000000000/\∀o∈d.clock,o.name.length≤1000000000:=by
 refine⟨by have:=zef zag l;omega,fun d hd=>?_⟩
 have h1:=zfo (f:=zag) hd
 rw[zrd]at h1
 have h2:=zef onT d.clock
 refine⟨by omega,fun o ho=>?_⟩
 have h3:=zfo (f:=onT) ho
 rw[w_on]at h3;omega
theorem zfB{l:List Equ}(h:sw equT l≤100000000):l.length≤1000000000/\∀q∈l,q.left.length≤1000000000/\wEx q.right≤1000000000:=by
 refine⟨by have:=zef equT l;omega,fun q hq=>?_⟩
 have h1:=zfo (f:=equT) hq
 rw[zrt]at h1
 have h2:=zef T.s q.left
 have h3:=zhs q.right
 unfold om at h1
 exact⟨by omega,by omega⟩
theorem zhE{l:List Ex}(h:sw exT l≤100000000):l.length≤1000000000/\∀e∈l,wEx e≤1000000000:=by
 refine⟨by have:=zef exT l;omega,fun e he=>?_⟩
 have h1:=zfo (f:=exT) he
 have h3:=zhs e
 omega
theorem zeT{l:List Tran}(h:sw zaW l≤100000000):l.length≤1000000000/\∀q∈l,wEx q.cond≤1000000000:=by
 refine⟨by have:=zef zaW l;omega,fun q hq=>?_⟩
 have h1:=zfo (f:=zaW) hq
 rw[zk2]at h1
 have h3:=zhs q.cond
 unfold om at h1
 omega
set_option maxHeartbeats 16000000 in
theorem zgE (l:List Tran) (hb:l.length≤1000000000) (hn:∀q∈l,wEx q.cond≤1000000000):Pure Tryz.prog 61 [.t (.sl 8 (l.map zaW)),.t (.sl 8 (l.map zaW))] (.b true):=by
 have hml:(l.map zaW).length=l.length:=qad _
 refine so Tryz.func61 ?_
 repeat' (first|refine wkt ?_|exact wkc|(intro hc;exact absurd rfl hc)|intro hc|refine wk2 ?_ ?_|(apply TO.want;exact rfl)|fail)
 refine TR.zbv l.length (fun _=>True) (fun k=>[(0,.t (.sl 8 (l.map zaW))),(1,.t (.sl 8 (l.map zaW))),(5,.i k)]) (fun _=>[]) trivial (fun k hlt _=>?_) (fun _=>?_)
 ·have hx:=zbW zaW hlt
  have hc1:=zcf _ l[k].cond (qae _) (hn _ (qaz hlt))
  rw[zao]at hc1
  unfold zaW at hx
  unfold exC at hc1
  clear hn
  generalize l[k]=u at*
  obtain⟨e,to,rs⟩:=u
  simp only at hx hc1
  cases rs
  all_goals
   repeat' (first|refine wkt ?_|exact wkc|(intro hc;exact absurd rfl hc)|intro hc|refine wk2 ?_ ?_|(apply TO.want;exact rfl)|fail)
   apply TR.zdz 0 (g:=True) [(_,0,0),(_,0,0),(_,0,0),(_,0,0),(_,0,0),(_,0,0),(_,0,0),(_,0,0),(_,0,0),(_,0,0),(_,0,0),(_,0,0),(_,0,0),(_,0,0),(_,0,0),(_,0,0),(_,0,0),(_,0,0),(_,0,0),(_,0,0),(_,0,0),(_,0,0),(_,0,0),(_,0,0),(_,0,0),(_,0,0),(_,0,0),(_,0,0),(_,0,0),(_,0,0),(_,0,0),(_,0,0),(_,0,0),(_,0,0),(_,0,0),(_,0,0),(_,0,0),(_,0,0)] [[]] hmix
   case hB=>exact zqm
   case h0=>exact rfl
   case hp=>
    repeat' (first|exact trivial|exact⟨⟨rfl,rfl⟩,trivial⟩|exact qai rfl rfl|refine qai (fun env=>?_) ?_|refine qai ?_ ?_|refine wma ?_|(apply TO.indexAddr zaa;(iterate 8 exact rfl);omega;exact hx)|refine wmv hc1 ?_|(apply TO.sne';(iterate 3 exact rfl);(intro hc;exact absurd rfl hc);intro _)|(apply TO.cne;(iterate 3 exact rfl);(intro hc;exact absurd rfl hc);intro _)|(apply TO.neb;(iterate 3 exact rfl);kernel_rfl)|refine wmk ?_|fail)
    done
   case hc=>exact rfl
   case hF=>exact rfl
   case hE=>exact rfl
   intro _
   repeat' (first|refine wkt ?_|refine zac.exit ?_|exact wkc|(intro hc;exact absurd rfl hc)|intro hc|(apply TO.want;exact rfl)|refine wk2 ?_ ?_|refine wk ?_|fail)
   exact zac.zb0 hlt trivial
 ·repeat' (first|refine wkt ?_|refine zac.exit ?_|exact wkc|(intro hc;exact absurd rfl hc)|intro hc|(apply TO.want;exact rfl)|refine wk2 ?_ ?_|refine wk ?_|fail)
  exact wkr
end Go.Proofs.YtpfnfpaahefdaaaGreat
namespace Go.TL
open Go
section rules
variable {P:Program}{all:Array Oper}
abbrev StC (P:Program)(n:Nat)(K:TK)(all:Array Oper)(full:Env)(o:Oper)(v:SV)(H H':Heap):Prop:=∀env,TO false P n all [o] (zaS full (slotsOf all o)++env) H (NKP K True (putE o.dst v (zaS full (slotsOf all o)++env)) H')
def zk4(P:Program)(n:Nat)(K:TK)(a b c d:Nat)(all:Array Oper)(f1 f2:Env)(H0 HA HB H1 H2 C1 C2 F1 F2:Heap):Nat->List Oper->List SV->List SV->Prop
 | _,[],[],[]=>True
 | i,o::l,v::t,w::u=>
   (bif Nat.beq i a then StC P n K all f1 o v H0 HA/\StC P n K all f2 o w HB H2
   else bif Nat.beq i b then StC P n K all f1 o w H0 HB/\StC P n K all f1 o v HA H1
   else bif Nat.beq i c then StC P n K all f1 o v H1 C1/\StC P n K all f2 o w H2 C2
   else bif Nat.beq i d then StC P n K all f1 o v C1 F1/\StC P n K all f2 o w C2 F2
   else(v=w/\StC P n K all f1 o v H0 H0)/\StC P n K all f1 o v HA HA/\StC P n K all f2 o w HB HB/\StC P n K all f1 o v H1 H1/\StC P n K all f2 o w H2 H2/\StC P n K all f1 o v C1 C1/\StC P n K all f2 o w C2 C2)
   /\ zk4 P n K a b c d all f1 f2 H0 HA HB H1 H2 C1 C2 F1 F2 (i+1) l t u
 | _,_,_,_=>False
theorem zk4.get{n:Nat}{K:TK}{a b c d:Nat}{f1 f2:Env}{H0 HA HB H1 H2 C1 C2 F1 F2:Heap}:∀ {l:List Oper} {t u:List SV} {k:Nat},zk4 P n K a b c d all f1 f2 H0 HA HB H1 H2 C1 C2 F1 F2 k l t u->(l.length=t.length/\l.length=u.length)/\∀(i:Nat) o v w,l[i]?=some o->t[i]?=some v->u[i]?=some w->
  (bif Nat.beq (k+i) a then StC P n K all f1 o v H0 HA/\StC P n K all f2 o w HB H2
  else bif Nat.beq (k+i) b then StC P n K all f1 o w H0 HB/\StC P n K all f1 o v HA H1
  else bif Nat.beq (k+i) c then StC P n K all f1 o v H1 C1/\StC P n K all f2 o w H2 C2
  else bif Nat.beq (k+i) d then StC P n K all f1 o v C1 F1/\StC P n K all f2 o w C2 F2
  else(v=w/\StC P n K all f1 o v H0 H0)/\StC P n K all f1 o v HA HA/\StC P n K all f2 o w HB HB/\StC P n K all f1 o v H1 H1/\StC P n K all f2 o w H2 H2/\StC P n K all f1 o v C1 C1/\StC P n K all f2 o w C2 C2)
 | [],[],[],k,_=>by simp
 | o::l,v::t,w::u,k,h=>by
   simp only[zk4]at h
   obtain⟨h1,h2⟩:=h
   obtain⟨⟨g1,g3⟩,g2⟩:=zk4.get h2
   refine⟨⟨by simp[g1],by simp[g3]⟩,fun i o' v' w' ho hv hw=>?_⟩
   cases i with
   | zero=>
     simp at ho hv hw
     subst ho hv hw
     exact h1
   | succ i=>
     have:=g2 i o' v' w' (by simpa using ho) (by simpa using hv) (by simpa using hw)
     rw[show k+1+i=k+(i+1) by omega]at this
     exact this
 | [],_::_,_,_,h=>by cases h
 | [],[],_::_,_,h=>by cases h
 | _::_,[],_,_,h=>by cases h
 | _::_,_::_,[],_,h=>by cases h
def zqP(ops:Array Oper)(a b c d:Nat):Bool:=(cov ops 8 (zaP ops c)).contains a && (cov ops 8 (zaP ops c)).contains b && (List.range ops.size).all fun i=>Nat.beq i d || (cov ops 8 (zaP ops d)).contains i
theorem zcW{i a:Nat}(h:i≠a):Nat.beq i a=false:=by
 cases hb:Nat.beq i a with
 | false=>rfl
 | true=>exact absurd (qaI hb) h
theorem TR.zm9(a b c d:Nat){n:Nat}{env0 e1 e2:Env}{H0 HA HB H1 H2 C1 C2 F1 F2:Heap}{K:TK}{id':Nat}{l:List Oper}(t u:List SV)(hm:P.follows .mixedOrders=true)
  (hB:(mixB l.toArray [] && zqP l.toArray a b c d && Nat.blt a l.length && Nat.blt b l.length && Nat.blt c l.length && Nat.blt d l.length && !Nat.beq a b && !Nat.beq a c && !Nat.beq a d && !Nat.beq b c && !Nat.beq b d && !Nat.beq c d)=true)
  (hp:zk4 P n K a b c d l.toArray (zbc l.toArray t env0) (zbc l.toArray u env0) H0 HA HB H1 H2 C1 C2 F1 F2 0 l t u)(hE1:zbF (zbc l.toArray t env0)=some e1)(hE2:zbF (zbc l.toArray u env0)=some e2)(hK1:K .normal e1 F1)(hK2:K .normal e2 F2):
  TR P n (.region id' l.toArray true) env0 H0 K:=by
 obtain⟨⟨g1,g3⟩,g2⟩:=hp.get
 simp only[qat,qbM,qa3]at hB
 obtain⟨⟨⟨⟨⟨⟨⟨⟨⟨⟨⟨hB,hL⟩,hal⟩,hbl⟩,hcl0⟩,hdl⟩,hab⟩,hac⟩,had⟩,hbc⟩,hbd⟩,hcd⟩:=hB
 have ne:∀ {x y:Nat},Nat.beq x y=false->x≠y:=fun h e=>by rw[e,qbg]at h;cases h
 have ne_ab:=ne hab
 have ne_ac:=ne hac
 have ne_ad:=ne had
 have ne_bc:=ne hbc
 have ne_bd:=ne hbd
 have ne_cd:=ne hcd
 unfold zqP at hL
 simp only[qat]at hL
 obtain⟨⟨hLa,hLb⟩,hL⟩:=hL
 have hLa':a∈cov l.toArray 8 (zaP l.toArray c):=by simpa using hLa
 have hLb':b∈cov l.toArray 8 (zaP l.toArray c):=by simpa using hLb
 have hLd:∀i,i<l.length->i≠d->i∈cov l.toArray 8 (zaP l.toArray d):=fun i hi n2=>by
  have:=qaw.1 hL i (by simpa using hi)
  rw[qbX]at this
  rcases this with h|h
  ·exact absurd (qaI h) n2
  ·simpa using h
 intro φ m ac h1 h2 h3 h4
 have s0:Step m ⟨m.A,m.β,m.H,{ m.w with drawn:=m.w.drawn+1 }⟩/\HRel ⟨m.A,m.β,m.H,{ m.w with drawn:=m.w.drawn+1 }⟩:=zcN h2 ⟨rfl,rfl,rfl,qae _,fun _ _=>rfl⟩
 refine zbz (wpIn_region_any hm ?_)
 let V:(Nat->Bool)×Bool->List SV:=fun s=>bif s.1 a then(bif s.1 b then(bif s.2 then u else t) else t) else(bif s.1 b then u else t)
 let S:(Nat->Bool)×Bool->Heap:=fun s=>bif s.1 d then(bif s.2 then F2 else F1) else bif s.1 c then(bif s.2 then C2 else C1) else bif s.1 a then(bif s.1 b then(bif s.2 then H2 else H1) else HA) else(bif s.1 b then HB else H0)
 have hSe:∀(f:Nat->Bool) (o x y z w:Bool),f d=x->f c=y->f a=z->f b=w->S (f,o)=bif x then(bif o then F2 else F1) else bif y then(bif o then C2 else C1) else bif z then(bif w then(bif o then H2 else H1) else HA) else(bif w then HB else H0):=fun f o x y z w h1 h2 h3 h4=>by subst h1 h2 h3 h4;rfl
 have hVe:∀(f:Nat->Bool) (o z w:Bool),f a=z->f b=w->V (f,o)=bif z then(bif w then(bif o then u else t) else t) else(bif w then u else t):=fun f o z w h3 h4=>by subst h3 h4;rfl
 have hrep:∀i:Nat,(Array.replicate l.toArray.size false).getD i false=false:=fun i=>by
  exact zwfg
 have hVl:∀s,(V s).length=l.toArray.size:=fun s=>by
  simp only[V]
  have hlt:l.toArray.size=l.length:=by simp
  rw[hlt]
  cases s.1 a <;> cases s.1 b <;> cases s.2 <;> first|exact g1.symm|exact g3.symm
 have hVeq:∀(i:Nat),i≠a->i≠b->i≠c->i≠d->t[i]?=u[i]? :=fun i n1 n2 n3 n4=>by
  by_cases hi:i<l.length
  ·have ho:l[i]?=some (l[i]'hi):=qab _
   have ht:t[i]?=some (t[i]'(by omega)):=qab _
   have hu:u[i]?=some (u[i]'(by omega)):=qab _
   have:=g2 i _ _ _ ho ht hu
   rw[qaM,zcW n1,zcW n2,zcW n3,zcW n4]at this
   rw[ht,hu,this.1.1]
  ·rw[qaG (by omega),qaG (by omega)]
 refine zkd [] (env0:=env0) (σ:=(Nat->Bool)×Bool) (fun s=>s.1) S V (G:=fun _=>True) (m0:=m) (fun t ht=>by cases ht) hB hVl (fun s i o ho hdi hcv hcl=>?_) (fun s hs _=>?_) l.toArray.size (Array.replicate l.toArray.size false)
  ⟨m.A,m.β,m.H,{ m.w with drawn:=m.w.drawn+1 }⟩ ac (fun i=>(Array.replicate l.toArray.size false).getD i false,false) (by simp) ?_ ?_ (fun _=>rfl) ?_ (fun j h=>?_) s0.1 s0.2 ?_ (h4.step h2 s0.1)
 ·obtain⟨s,od⟩:=s
  dsimp only at hdi hcv hcl⊢
  have hil:i<l.length:=by have:=(qaj.1 ho).1;simpa using this
  have hol:l[i]?=some o:=by simpa using ho
  have htl:t[i]?=some (t[i]'(by omega)):=qab (by omega)
  have hul:u[i]?=some (u[i]'(by omega)):=qab (by omega)
  generalize t[i]'(by omega)=v at htl
  generalize u[i]'(by omega)=w at hul
  have hg:=g2 i o v w hol htl hul
  rw[qaM]at hg
  have hi':∀j,j≠i->(s j || decide (i=j))=s j:=fun j hj=>by simp[Ne.symm hj]
  have hii:(s i || decide (i=i))=true:=by simp
  have nod:i≠d->s d=false:=fun hne=>by
   cases h:s d with
   | false=>rfl
   | true=>
     have:=hcl d h i (hLd i hil hne)
     rw[hdi]at this
     cases this
  have noc:i=a\/i=b->s c=false:=fun hne=>by
   cases h:s c with
   | false=>rfl
   | true=>
     rcases hne with hne|hne
     ·have:=hcl c h a hLa'
      rw[<-hne,hdi]at this
      cases this
     ·have:=hcl c h b hLb'
      rw[<-hne,hdi]at this
      cases this
  by_cases e4:i=d
  ·subst e4
   have ha:=hcv a (hLd a hal ne_ad)
   have hb:=hcv b (hLd b hbl ne_bd)
   have hc:=hcv c (hLd c hcl0 ne_cd)
   rw[zcW ne_ad.symm,zcW ne_bd.symm,zcW ne_cd.symm,qbg]at hg
   have hV:=hVe s od true true ha hb
   have hV':=hVe (fun j=>s j || decide (i=j)) od true true ((hi' a ne_ad).trans ha) ((hi' b ne_bd).trans hb)
   have hS:=hSe s od false true true true hdi hc ha hb
   have hS':=hSe (fun j=>s j || decide (i=j)) od true _ _ _ hii rfl rfl rfl
   exact zwy
  by_cases e3:i=c
  ·subst e3
   have ha:=hcv a hLa'
   have hb:=hcv b hLb'
   have hd:=nod e4
   rw[zcW ne_ac.symm,zcW ne_bc.symm,qbg]at hg
   have hV:=hVe s od true true ha hb
   have hV':=hVe (fun j=>s j || decide (i=j)) od true true ((hi' a ne_ac).trans ha) ((hi' b ne_bc).trans hb)
   have hS:=hSe s od false false true true hd hdi ha hb
   have hS':=hSe (fun j=>s j || decide (i=j)) od false true _ _ ((hi' d ne_cd.symm).trans hd) hii rfl rfl
   exact zwy
  have hd:=nod e4
  by_cases e1:i=a
  ·subst e1
   have hc:=noc (.inl rfl)
   rw[qbg]at hg
   cases hb:s b with
   | false=>
     have hV:=hVe s od false false hdi hb
     have hV':=hVe (fun j=>s j || decide (i=j)) od true false hii ((hi' b ne_ab.symm).trans hb)
     have hS:=hSe s od false false false false hd hc hdi hb
     have hS':=hSe (fun j=>s j || decide (i=j)) od false false true false ((hi' d ne_ad.symm).trans hd) ((hi' c ne_ac.symm).trans hc) hii ((hi' b ne_ab.symm).trans hb)
     exact⟨(fun j=>s j || decide (i=j),od),v,fun j=>rfl,fun j _=>by rw[hV,hV'];rfl,by rw[hV'];exact htl,by rw[hV,hS,hS'];exact hg.1⟩
   | true=>
     have hV:=hVe s od false true hdi hb
     have hV':=hVe (fun j=>s j || decide (i=j)) true true true hii ((hi' b ne_ab.symm).trans hb)
     have hS:=hSe s od false false false true hd hc hdi hb
     have hS':=hSe (fun j=>s j || decide (i=j)) true false false true true ((hi' d ne_ad.symm).trans hd) ((hi' c ne_ac.symm).trans hc) hii ((hi' b ne_ab.symm).trans hb)
     exact⟨(fun j=>s j || decide (i=j),true),w,fun j=>rfl,fun j _=>by rw[hV,hV'];rfl,by rw[hV'];exact hul,by rw[hV,hS,hS'];exact hg.2⟩
  by_cases e2:i=b
  ·subst e2
   have hc:=noc (.inr rfl)
   rw[zcW ne_ab.symm,qbg]at hg
   cases ha:s a with
   | false=>
     have hV:=hVe s od false false ha hdi
     have hV':=hVe (fun j=>s j || decide (i=j)) od false true ((hi' a ne_ab).trans ha) hii
     have hS:=hSe s od false false false false hd hc ha hdi
     have hS':=hSe (fun j=>s j || decide (i=j)) od false false false true ((hi' d ne_bd.symm).trans hd) ((hi' c ne_bc.symm).trans hc) ((hi' a ne_ab).trans ha) hii
     refine⟨(fun j=>s j || decide (i=j),od),w,fun j=>rfl,fun j hj=>?_,by rw[hV'];exact hul,by rw[hV,hS,hS'];exact hg.1⟩
     rw[hV,hV']
     exact(hVeq j (fun e=>by rw[e,ha]at hj;cases hj) (fun e=>by rw[e,hdi]at hj;cases hj) (fun e=>by rw[e,hc]at hj;cases hj) (fun e=>by rw[e,hd]at hj;cases hj)).symm
   | true=>
     have hV:=hVe s od true false ha hdi
     have hV':=hVe (fun j=>s j || decide (i=j)) false true true ((hi' a ne_ab).trans ha) hii
     have hS:=hSe s od false false true false hd hc ha hdi
     have hS':=hSe (fun j=>s j || decide (i=j)) false false false true true ((hi' d ne_bd.symm).trans hd) ((hi' c ne_bc.symm).trans hc) ((hi' a ne_ab).trans ha) hii
     exact⟨(fun j=>s j || decide (i=j),false),v,fun j=>rfl,fun j _=>by rw[hV,hV'];rfl,by rw[hV'];exact htl,by rw[hV,hS,hS'];exact hg.2⟩
  rw[zcW e1,zcW e2,zcW e3,zcW e4]at hg
  obtain⟨⟨hvw,q1⟩,q2,q3,q4,q5,q6,q7⟩:=hg
  subst hvw
  have hV':=hVe (fun j=>s j || decide (i=j)) od (s a) (s b) (hi' a (Ne.symm e1)) (hi' b (Ne.symm e2))
  have hV:=hVe s od _ _ rfl rfl
  have hS:=hSe s od false (s c) _ _ hd rfl rfl rfl
  have hS':=hSe (fun j=>s j || decide (i=j)) od false (s c) (s a) (s b) ((hi' d (Ne.symm e4)).trans hd) (hi' c (Ne.symm e3)) (hi' a (Ne.symm e1)) (hi' b (Ne.symm e2))
  refine⟨(fun j=>s j || decide (i=j),od),v,fun j=>rfl,fun j _=>by rw[hV,hV'],?_,?_⟩
  ·rw[hV']
   cases s a <;> cases s b <;> cases od <;> first|exact htl|exact hul
  ·rw[hV,hS,hS']
   cases hc:s c with
   | true=>
     have ha:=hcl c hc a hLa'
     have hb:=hcl c hc b hLb'
     rw[ha,hb]
     cases od
     ·exact q6
     ·exact q7
   | false=>
     cases s a <;> cases s b <;> cases od
     ·exact q1
     ·exact q1
     ·exact q3
     ·exact q3
     ·exact q2
     ·exact q2
     ·exact q4
     ·exact q5
 ·obtain⟨s,od⟩:=s
  dsimp only at hs⊢
  have ha:=hs a (by simpa using hal)
  have hb:=hs b (by simpa using hbl)
  have hd:=hs d (by simpa using hdl)
  rw[hVe s od true true ha hb,hSe s od true _ _ _ hd rfl rfl rfl]
  cases od
  ·show K .normal (zbc l.toArray t env0) F1
   rw[<-zbf hE1]
   exact hK1
  ·show K .normal (zbc l.toArray u env0) F2
   rw[<-zbf hE2]
   exact hK2
 ·exact zwfh
 ·exact zwcm
 ·simp only[S,hrep,cond_false]
  exact h1
 ·rw[qaP]at h
  split at h <;> cases h
 ·have:∀y:List SV,envA l.toArray y (fun i=>(Array.replicate l.toArray.size false).getD i false) (List.range l.toArray.size)=[]:=by
   intro y
   have:∀x:List Nat,envA l.toArray y (fun i=>(Array.replicate l.toArray.size false).getD i false) x=[]:=by
    exact zwef
   exact this _
  rw[this,qbk]
  exact h3.step h2 s0.1
end rules
end Go.TL
namespace Go.Proofs.YtpfnfpaahefdaaaGreat
open Go Go.TL
attribute [local irreducible] TR TO Then zab RetK Sound zac Kf GG za2
set_option maxHeartbeats 64000000 in
theorem zjh:∀(w:Nat) (l:List Auto),sw zaG l≤w->w≤100000000->Pure Tryz.prog 31 [.t (.sl 1 (l.map zaG)),.t (.sl 1 (l.map zaG))] (.b true):=by
 intro w
 induction w with
 | zero=>
   intro l hw hb
   have:=zef zaG l
   have hl:l=[]:=qay (by omega)
   subst hl
   refine so Tryz.func31 ?_
   repeat' (first|refine wkt ?_|exact wkc|(intro hc;exact absurd rfl hc)|intro hc|refine wk2 ?_ ?_|(apply TO.want;exact rfl)|fail)
   refine TR.zbv 0 (fun _=>True) (fun k=>[(0,.t (.sl 1 [])),(1,.t (.sl 1 [])),(5,.i k)]) (fun _=>[]) trivial (fun k hlt _=>absurd hlt (Nat.not_lt_zero _)) (fun _=>?_)
   repeat' (first|refine wkt ?_|refine zac.exit ?_|exact wkc|(intro hc;exact absurd rfl hc)|intro hc|(apply TO.want;exact rfl)|refine wk2 ?_ ?_|refine wk ?_|fail)
   exact wkr
 | succ w ih=>
 intro l hw hb
 have hml:(l.map zaG).length=l.length:=qad _
 have hlen:=zef zaG l
 refine so Tryz.func31 ?_
 repeat' (first|refine wkt ?_|exact wkc|(intro hc;exact absurd rfl hc)|intro hc|refine wk2 ?_ ?_|(apply TO.want;exact rfl)|fail)
 refine TR.zbv l.length (fun _=>True) (fun k=>[(0,.t (.sl 1 (l.map zaG))),(1,.t (.sl 1 (l.map zaG))),(5,.i k)]) (fun _=>[]) trivial (fun i hlt _=>?_) (fun _=>?_)
 ·have hx:=zbW zaG hlt
  have hwa:=zfo (f:=zaG) (qaz hlt)
  rw[zdt]at hx hwa
  generalize l[i].states=ss at*
  rw[w_ag]at hwa
  simp only[qah,qas,qax,qaK,zgW]at hwa
  have hms:(ss.map staT).length=ss.length:=qad _
  have hsl:=zef staT ss
  repeat' (first|refine wkt ?_|exact wkc|(intro hc;exact absurd rfl hc)|intro hc|refine wk2 ?_ ?_|(apply TO.want;exact rfl)|fail)
  apply TR.zdz 0 (g:=True) [(_,0,0),(_,0,0),(_,0,0),(_,0,0),(_,0,0),(_,0,0),(_,0,0),(_,0,0),(_,0,0),(_,0,0),(_,0,0),(_,0,0),(_,0,0)] [[]] hmix
  case hB=>exact zqm
  case h0=>exact rfl
  case hp=>
   repeat' (first|exact trivial|exact⟨⟨rfl,rfl⟩,trivial⟩|exact qai rfl rfl|refine qai (fun env=>?_) ?_|refine qai ?_ ?_|refine wma ?_|(apply TO.indexAddr zaa;(iterate 8 exact rfl);omega;exact hx)|(apply TO.sne';(iterate 3 exact rfl);(intro hc;exact absurd rfl hc);intro _)|(apply TO.cne;(iterate 3 exact rfl);(intro hc;exact absurd rfl hc);intro _)|(apply TO.neb;(iterate 3 exact rfl);kernel_rfl)|refine wmk ?_|fail)
   done
  case hc=>exact rfl
  case hF=>exact rfl
  case hE=>exact rfl
  intro _
  repeat' (first|refine wkt ?_|refine zac.exit ?_|exact wkc|(intro hc;exact absurd rfl hc)|intro hc|(apply TO.want;exact rfl)|refine wk2 ?_ ?_|refine wk ?_|fail)
  refine TR.zbv ss.length (fun _=>True) (fun k=>[(0,.t (.sl 1 (l.map zaG))),(1,.t (.sl 1 (l.map zaG))),(5,.i i),(6,.i k)]) (fun _=>[]) trivial (fun k hlt2 _=>?_) (fun _=>?_)
  ·have hy:=zbW staT hlt2
   have hws:=zfo (f:=staT) (qaz hlt2)
   rw[zdc]at hy hws
   generalize ss[k]=s at*
   rw[w_ag]at hws
   simp only[qah,qas,qax,qaK,w_s,zgW]at hws
   have i1:=zdA s.locals (zco (by omega)).1 (zco (by omega)).2
   have i2:=zgt s.eqs (zfB (by omega)).1 (zfB (by omega)).2
   have i3:=ih s.autos (by omega) (by omega)
   have i4:=zgE s.unl (zeT (by omega)).1 (zeT (by omega)).2
   have i5:=zgE s.unt (zeT (by omega)).1 (zeT (by omega)).2
   repeat' (first|refine wkt ?_|refine zqh ?_|exact wkc|(intro hc;exact absurd rfl hc)|intro hc|refine wk2 ?_ ?_|(apply TO.want;exact rfl)|fail)
   apply TR.zm9 16 17 18 19 (HA:=[.cells [.s [],.t (.v (.slice none 0 0)),.t (.v (.slice none 0 0)),.t (.v (.slice none 0 0)),.t (.v (.slice none 0 0)),.t (.v (.slice none 0 0))]]) (HB:=[.cells [.s [],.t (.v (.slice none 0 0)),.t (.v (.slice none 0 0)),.t (.v (.slice none 0 0)),.t (.v (.slice none 0 0)),.t (.v (.slice none 0 0))]]) (H1:=[.cells [.s [],.t (.v (.slice none 0 0)),.t (.v (.slice none 0 0)),.t (.v (.slice none 0 0)),.t (.v (.slice none 0 0)),.t (.v (.slice none 0 0))],.cells [.s [],.t (.v (.slice none 0 0)),.t (.v (.slice none 0 0)),.t (.v (.slice none 0 0)),.t (.v (.slice none 0 0)),.t (.v (.slice none 0 0))]]) (H2:=[.cells [.s [],.t (.v (.slice none 0 0)),.t (.v (.slice none 0 0)),.t (.v (.slice none 0 0)),.t (.v (.slice none 0 0)),.t (.v (.slice none 0 0))],.cells [.s [],.t (.v (.slice none 0 0)),.t (.v (.slice none 0 0)),.t (.v (.slice none 0 0)),.t (.v (.slice none 0 0)),.t (.v (.slice none 0 0))]]) (C1:=[.cells [.t (.s s.name),.t (.sl 3 (s.locals.map zag)),.t (.sl 7 (s.eqs.map equT)),.t (.sl 1 (s.autos.map zaG)),.t (.sl 8 (s.unl.map zaW)),.t (.sl 8 (s.unt.map zaW))],.cells [.s [],.t (.v (.slice none 0 0)),.t (.v (.slice none 0 0)),.t (.v (.slice none 0 0)),.t (.v (.slice none 0 0)),.t (.v (.slice none 0 0))]]) (C2:=[.cells [.s [],.t (.v (.slice none 0 0)),.t (.v (.slice none 0 0)),.t (.v (.slice none 0 0)),.t (.v (.slice none 0 0)),.t (.v (.slice none 0 0))],.cells [.t (.s s.name),.t (.sl 3 (s.locals.map zag)),.t (.sl 7 (s.eqs.map equT)),.t (.sl 1 (s.autos.map zaG)),.t (.sl 8 (s.unl.map zaW)),.t (.sl 8 (s.unt.map zaW))]]) (F1:=[.cells [.t (.s s.name),.t (.sl 3 (s.locals.map zag)),.t (.sl 7 (s.eqs.map equT)),.t (.sl 1 (s.autos.map zaG)),.t (.sl 8 (s.unl.map zaW)),.t (.sl 8 (s.unt.map zaW))],.cells [.t (.s s.name),.t (.sl 3 (s.locals.map zag)),.t (.sl 7 (s.eqs.map equT)),.t (.sl 1 (s.autos.map zaG)),.t (.sl 8 (s.unl.map zaW)),.t (.sl 8 (s.unt.map zaW))]]) (F2:=[.cells [.t (.s s.name),.t (.sl 3 (s.locals.map zag)),.t (.sl 7 (s.eqs.map equT)),.t (.sl 1 (s.autos.map zaG)),.t (.sl 8 (s.unl.map zaW)),.t (.sl 8 (s.unt.map zaW))],.cells [.t (.s s.name),.t (.sl 3 (s.locals.map zag)),.t (.sl 7 (s.eqs.map equT)),.t (.sl 1 (s.autos.map zaG)),.t (.sl 8 (s.unl.map zaW)),.t (.sl 8 (s.unt.map zaW))]]) [_,_,_,_,_,_,_,_,_,_,_,_,_,_,_,_,_,_,.any,.any] [_,_,_,_,_,_,_,_,_,_,_,_,_,_,_,_,_,_,.any,.any] hmix
   case hB=>(dsimp only[List.length];decide +kernel)
   case hp=>
    repeat' (first|exact trivial|exact⟨⟨rfl,rfl⟩,trivial⟩|exact qai rfl rfl|refine qai (fun env=>?_) ?_|refine qai ?_ ?_|refine wma ?_|(apply TO.alloc zaa;(iterate 3 exact rfl))|(apply TO.indexAddr zaa;(iterate 8 exact rfl);omega;exact hx)|(apply TO.indexAddr zaa;(iterate 8 exact rfl);omega;exact hy)|refine wmk ?_|intro env|fail)
    all_goals exact rfl
   case hE1=>exact rfl
   case hE2=>exact rfl
   case hK1=>
    repeat' (first|refine wkt ?_|refine wv i1 ?_|refine wv i2 ?_|refine wv i3 ?_|refine wv i4 ?_|refine wv i5 ?_|refine zac.exit ?_|exact wkc|(intro hc;exact absurd rfl hc)|intro hc|(apply TO.want;exact rfl)|refine wk2 ?_ ?_|refine wk ?_|fail)
    exact zac.zmW 0 hlt2 trivial rfl rfl rfl rfl rfl ⟨rfl,rfl,rfl,rfl,trivial⟩
   case hK2=>
    repeat' (first|refine wkt ?_|refine wv i1 ?_|refine wv i2 ?_|refine wv i3 ?_|refine wv i4 ?_|refine wv i5 ?_|refine zac.exit ?_|exact wkc|(intro hc;exact absurd rfl hc)|intro hc|(apply TO.want;exact rfl)|refine wk2 ?_ ?_|refine wk ?_|fail)
    exact zac.zmW 0 hlt2 trivial rfl rfl rfl rfl rfl ⟨rfl,rfl,rfl,rfl,trivial⟩
  ·repeat' (first|refine wkt ?_|refine zqh ?_|refine zac.exit ?_|exact wkc|(intro hc;exact absurd rfl hc)|intro hc|refine wk2 ?_ ?_|refine wk ?_|fail)
   exact zac.zb0 hlt trivial
 ·repeat' (first|refine wkt ?_|refine zac.exit ?_|exact wkc|(intro hc;exact absurd rfl hc)|intro hc|(apply TO.want;exact rfl)|refine wk2 ?_ ?_|refine wk ?_|fail)
  exact wkr
set_option maxHeartbeats 64000000 in
theorem znf (p:Prog) (hp:zfc p 90000000):Pure Tryz.prog 11 [.t (zeN p),.t (zeN p)] (.b true):=by
 have hme:(p.enums.map enT).length=p.enums.length:=qad _
 have hmn:(p.nodes.map nodT).length=p.nodes.length:=qad _
 have b1:=hp.es
 have b2:=hp.ns
 have btg:=hp.tg
 have bnd:=hp.nd
 rw[zhN]
 refine so Tryz.func11 ?_
 repeat' (first|refine wkt ?_|exact wkc|(intro hc;exact absurd rfl hc)|intro hc|refine wk2 ?_ ?_|(apply TO.want;exact rfl)|fail)
 refine TR.zbv p.enums.length (fun _=>True) (fun k=>[(2,.cp [.sl 2 (p.enums.map enT),.sl 8 (p.nodes.map nodT)] 0),(3,.cp [.sl 2 (p.enums.map enT),.sl 8 (p.nodes.map nodT)] 0),(5,.i k)]) (fun _=>[]) trivial (fun k hlt _=>?_) (fun _=>?_)
 ·have hx:=zbW enT hlt
  have hs:=zgu p.enums[k].tags (by have:=btg _ (qaz hlt);omega)
  clear bnd btg
  unfold enT at hx
  generalize p.enums[k]=u at*
  repeat' (first|refine wkt ?_|exact wkc|(intro hc;exact absurd rfl hc)|intro hc|refine wk2 ?_ ?_|(apply TO.want;exact rfl)|fail)
  apply TR.zdz 0 (g:=True) [(_,0,0),(_,0,0),(_,0,0),(_,0,0),(_,0,0),(_,0,0),(_,0,0),(_,0,0),(_,0,0),(_,0,0),(_,0,0),(_,0,0),(_,0,0),(_,0,0),(_,0,0),(_,0,0),(_,0,0),(_,0,0),(_,0,0),(_,0,0),(_,0,0),(_,0,0),(_,0,0),(_,0,0),(_,0,0),(_,0,0),(_,0,0),(_,0,0),(_,0,0)] [[]] hmix
  case hB=>exact zqm
  case h0=>exact rfl
  case hp=>
   repeat' (first|exact trivial|exact⟨⟨rfl,rfl⟩,trivial⟩|exact qai rfl rfl|refine qai (fun env=>?_) ?_|refine qai ?_ ?_|refine wma ?_|(apply TO.indexAddr zaa;(iterate 8 exact rfl);omega;exact hx)|refine wmv hs ?_|(apply TO.sne';(iterate 3 exact rfl);(intro hc;exact absurd rfl hc);intro _)|(apply TO.cne;(iterate 3 exact rfl);(intro hc;exact absurd rfl hc);intro _)|(apply TO.neb;(iterate 3 exact rfl);kernel_rfl)|refine wmk ?_|fail)
   done
  case hc=>exact rfl
  case hF=>exact rfl
  case hE=>exact rfl
  intro _
  repeat' (first|refine wkt ?_|refine zac.exit ?_|exact wkc|(intro hc;exact absurd rfl hc)|intro hc|(apply TO.want;exact rfl)|refine wk2 ?_ ?_|refine wk ?_|fail)
  exact zac.zb0 hlt trivial
 ·clear btg
  repeat' (first|refine wkt ?_|refine zac.exit ?_|exact wkc|(intro hc;exact absurd rfl hc)|intro hc|(apply TO.want;exact rfl)|refine wk2 ?_ ?_|refine wk ?_|fail)
  refine TR.zbv p.nodes.length (fun _=>True) (fun k=>[(2,.cp [.sl 2 (p.enums.map enT),.sl 8 (p.nodes.map nodT)] 0),(3,.cp [.sl 2 (p.enums.map enT),.sl 8 (p.nodes.map nodT)] 0),(6,.i k)]) (fun _=>[]) trivial (fun k hlt _=>?_) (fun _=>?_)
  ·have hx:=zbW nodT hlt
   have hw:=bnd _ (qaz hlt)
   clear bnd
   generalize p.nodes[k]=n at*
   rw[zjK]at hx hw
   rw[w_ag]at hw
   simp only[qah,qas,qax,qaK,w_s,zgW]at hw
   have i1:=zdA n.ins (zco (by omega)).1 (zco (by omega)).2
   have i2:=zdA n.outs (zco (by omega)).1 (zco (by omega)).2
   have i3:=zdA n.locals (zco (by omega)).1 (zco (by omega)).2
   have i4:=zgt n.eqs (zfB (by omega)).1 (zfB (by omega)).2
   have i5:=zgv n.assume (zhE (by omega)).1 (zhE (by omega)).2
   have i6:=zgv n.ensure (zhE (by omega)).1 (zhE (by omega)).2
   have i7:=zjh _ n.autos (qae _) (by omega)
   repeat' (first|refine wkt ?_|exact wkc|(intro hc;exact absurd rfl hc)|intro hc|refine wk2 ?_ ?_|(apply TO.want;exact rfl)|fail)
   apply TR.zm9 10 11 12 13 (HA:=[.cells [.s [],.t (.v (.slice none 0 0)),.t (.v (.slice none 0 0)),.t (.v (.slice none 0 0)),.t (.v (.slice none 0 0)),.t (.v (.slice none 0 0)),.t (.v (.slice none 0 0)),.t (.v (.slice none 0 0))]]) (HB:=[.cells [.s [],.t (.v (.slice none 0 0)),.t (.v (.slice none 0 0)),.t (.v (.slice none 0 0)),.t (.v (.slice none 0 0)),.t (.v (.slice none 0 0)),.t (.v (.slice none 0 0)),.t (.v (.slice none 0 0))]]) (H1:=[.cells [.s [],.t (.v (.slice none 0 0)),.t (.v (.slice none 0 0)),.t (.v (.slice none 0 0)),.t (.v (.slice none 0 0)),.t (.v (.slice none 0 0)),.t (.v (.slice none 0 0)),.t (.v (.slice none 0 0))],.cells [.s [],.t (.v (.slice none 0 0)),.t (.v (.slice none 0 0)),.t (.v (.slice none 0 0)),.t (.v (.slice none 0 0)),.t (.v (.slice none 0 0)),.t (.v (.slice none 0 0)),.t (.v (.slice none 0 0))]]) (H2:=[.cells [.s [],.t (.v (.slice none 0 0)),.t (.v (.slice none 0 0)),.t (.v (.slice none 0 0)),.t (.v (.slice none 0 0)),.t (.v (.slice none 0 0)),.t (.v (.slice none 0 0)),.t (.v (.slice none 0 0))],.cells [.s [],.t (.v (.slice none 0 0)),.t (.v (.slice none 0 0)),.t (.v (.slice none 0 0)),.t (.v (.slice none 0 0)),.t (.v (.slice none 0 0)),.t (.v (.slice none 0 0)),.t (.v (.slice none 0 0))]]) (C1:=[.cells [.t (.s n.name),.t (.sl 3 (n.ins.map zag)),.t (.sl 3 (n.outs.map zag)),.t (.sl 3 (n.locals.map zag)),.t (.sl 7 (n.eqs.map equT)),.t (.sl 1 (n.autos.map zaG)),.t (.sl 6 (n.assume.map exT)),.t (.sl 6 (n.ensure.map exT))],.cells [.s [],.t (.v (.slice none 0 0)),.t (.v (.slice none 0 0)),.t (.v (.slice none 0 0)),.t (.v (.slice none 0 0)),.t (.v (.slice none 0 0)),.t (.v (.slice none 0 0)),.t (.v (.slice none 0 0))]]) (C2:=[.cells [.s [],.t (.v (.slice none 0 0)),.t (.v (.slice none 0 0)),.t (.v (.slice none 0 0)),.t (.v (.slice none 0 0)),.t (.v (.slice none 0 0)),.t (.v (.slice none 0 0)),.t (.v (.slice none 0 0))],.cells [.t (.s n.name),.t (.sl 3 (n.ins.map zag)),.t (.sl 3 (n.outs.map zag)),.t (.sl 3 (n.locals.map zag)),.t (.sl 7 (n.eqs.map equT)),.t (.sl 1 (n.autos.map zaG)),.t (.sl 6 (n.assume.map exT)),.t (.sl 6 (n.ensure.map exT))]]) (F1:=[.cells [.t (.s n.name),.t (.sl 3 (n.ins.map zag)),.t (.sl 3 (n.outs.map zag)),.t (.sl 3 (n.locals.map zag)),.t (.sl 7 (n.eqs.map equT)),.t (.sl 1 (n.autos.map zaG)),.t (.sl 6 (n.assume.map exT)),.t (.sl 6 (n.ensure.map exT))],.cells [.t (.s n.name),.t (.sl 3 (n.ins.map zag)),.t (.sl 3 (n.outs.map zag)),.t (.sl 3 (n.locals.map zag)),.t (.sl 7 (n.eqs.map equT)),.t (.sl 1 (n.autos.map zaG)),.t (.sl 6 (n.assume.map exT)),.t (.sl 6 (n.ensure.map exT))]]) (F2:=[.cells [.t (.s n.name),.t (.sl 3 (n.ins.map zag)),.t (.sl 3 (n.outs.map zag)),.t (.sl 3 (n.locals.map zag)),.t (.sl 7 (n.eqs.map equT)),.t (.sl 1 (n.autos.map zaG)),.t (.sl 6 (n.assume.map exT)),.t (.sl 6 (n.ensure.map exT))],.cells [.t (.s n.name),.t (.sl 3 (n.ins.map zag)),.t (.sl 3 (n.outs.map zag)),.t (.sl 3 (n.locals.map zag)),.t (.sl 7 (n.eqs.map equT)),.t (.sl 1 (n.autos.map zaG)),.t (.sl 6 (n.assume.map exT)),.t (.sl 6 (n.ensure.map exT))]]) [_,_,_,_,_,_,_,_,_,_,_,_,.any,.any] [_,_,_,_,_,_,_,_,_,_,_,_,.any,.any] hmix
   case hB=>(dsimp only[List.length];decide +kernel)
   case hp=>
    repeat' (first|exact trivial|exact⟨⟨rfl,rfl⟩,trivial⟩|exact qai rfl rfl|refine qai (fun env=>?_) ?_|refine qai ?_ ?_|refine wma ?_|(apply TO.alloc zaa;(iterate 3 exact rfl))|(apply TO.indexAddr zaa;(iterate 8 exact rfl);omega;exact hx)|refine wmk ?_|intro env|fail)
    all_goals exact rfl
   case hE1=>exact rfl
   case hE2=>exact rfl
   case hK1=>
    repeat' (first|refine wkt ?_|refine wv i1 ?_|refine wv i2 ?_|refine wv i3 ?_|refine wv i4 ?_|refine wv i5 ?_|refine wv i6 ?_|refine wv i7 ?_|refine zac.exit ?_|exact wkc|(intro hc;exact absurd rfl hc)|intro hc|(apply TO.want;exact rfl)|refine wk2 ?_ ?_|refine wk ?_|fail)
    exact zac.zmW 0 hlt trivial rfl rfl rfl rfl rfl ⟨rfl,rfl,rfl,trivial⟩
   case hK2=>
    repeat' (first|refine wkt ?_|refine wv i1 ?_|refine wv i2 ?_|refine wv i3 ?_|refine wv i4 ?_|refine wv i5 ?_|refine wv i6 ?_|refine wv i7 ?_|refine zac.exit ?_|exact wkc|(intro hc;exact absurd rfl hc)|intro hc|(apply TO.want;exact rfl)|refine wk2 ?_ ?_|refine wk ?_|fail)
    exact zac.zmW 0 hlt trivial rfl rfl rfl rfl rfl ⟨rfl,rfl,rfl,trivial⟩
  ·repeat' (first|refine wkt ?_|refine zac.exit ?_|exact wkc|(intro hc;exact absurd rfl hc)|intro hc|(apply TO.want;exact rfl)|refine wk2 ?_ ?_|refine wk ?_|fail)
   exact wkr
end Go.Proofs.YtpfnfpaahefdaaaGreat
