import Derived.Test.YtpfnfpaahefdaaaGreatPk33
set_option linter.all false
namespace Go.Proofs.YtpfnfpaahefdaaaGreat
open Go Go.TL
attribute [local irreducible] TR TO Then zac RetK Sound zaf Kf GG zaY
theorem zpP{R:Rd}{i j:Nat}{s:Str}(h:R.id i= .ok s j):j≤R.K.length:=by
 unfold Rd.id at h
 split at h
 ·rename_i hk
  cases h
  exact zcd hk
 ·cases h
theorem zhp{R:Rd}{f:Nat->PR Ex}{w:Str}:∀(m:Nat) (xs:List Tran) (gs:List (Str×Nat)) {i:Nat} {ys:List Tran} {hs:List (Str×Nat)} {j:Nat},R.trans f w m xs gs i= .ok (ys,hs) j->(∀x∈gs,x.2≤R.K.length)->∀x∈hs,x.2≤R.K.length
 | 0,xs,gs,i,ys,hs,j,h,hl=>by cases h;exact hl
 | m+1,xs,gs,i,ys,hs,j,h,hl=>by
   unfold Rd.trans at h
   split at h
   ·obtain⟨_,_,_,h⟩:=zad h
    obtain⟨_,_,_,h⟩:=zad h
    obtain⟨_,_,_,h⟩:=zad h
    obtain⟨_,_,hi,h⟩:=zad h
    obtain⟨_,_,_,h⟩:=zad h
    have:=zpP hi
    refine zhp m _ _ h fun x hx=>?_
    rcases qbf.1 hx with hx|hx
    ·exact hl x hx
    ·simp at hx;subst hx;show _-1≤_;omega
   ·cases h;exact hl
theorem zik{R:Rd}{f:Nat->PR Ex}{bd:Nat->PR (List Equ×List Auto)}:∀(m:Nat) (xs:List Sta) (gs:List (List (Str×Nat))) {i:Nat} {ys:List Sta} {hs:List (List (Str×Nat))} {j:Nat},R.states f bd m xs gs i= .ok (ys,hs) j->(∀g∈gs,∀x∈g,x.2≤R.K.length)->∀g∈hs,∀x∈g,x.2≤R.K.length
 | 0,xs,gs,i,ys,hs,j,h,hl=>by cases h;exact hl
 | m+1,xs,gs,i,ys,hs,j,h,hl=>by
   unfold Rd.states at h
   split at h
   ·obtain⟨_,_,_,h⟩:=zad h
    obtain⟨x,_,hst,h⟩:=zad h
    unfold Rd.state at hst
    obtain⟨_,_,_,hst⟩:=zad hst
    obtain⟨_,_,_,hst⟩:=zad hst
    obtain⟨⟨us,gu⟩,_,hu,hst⟩:=zad hst
    obtain⟨_,_,_,hst⟩:=zad hst
    obtain⟨_,_,_,hst⟩:=zad hst
    obtain⟨⟨vs,gv⟩,_,hv,hst⟩:=zad hst
    obtain⟨_,_,_,hst⟩:=zad hst
    cases hst
    have h1:=zhp _ _ _ hu (fun x hx=>by cases hx)
    have h2:=zhp _ _ _ hv (fun x hx=>by cases hx)
    refine zik m _ _ h fun g hg=>?_
    rcases qbf.1 hg with hg|hg
    ·exact hl g hg
    ·rcases qbb.1 hg with rfl|hg
     ·exact h1
     ·rcases qbb.1 hg with rfl|hg
      ·exact h2
      ·cases hg
   ·cases h;exact hl
theorem zlD{ns:List Str}{N:Nat}:∀ {g:List (Str×Nat)} {k:Nat} {c:Int},fixG ns g= .er k c->(∀x∈g,x.2≤N)->k≤N/\c≠0
 | [],k,c,h,_=>by cases h
 | (s,a)::g,k,c,h,hg=>by
   rw[fixG]at h
   split at h
   ·cases h;exact⟨hg (s,a) qaA,by decide⟩
   ·cases hq:fixG ns g with
    | ok v j=>rw[hq]at h;cases h
    | er k' c'=>
      rw[hq]at h
      cases h
      exact zlD hq fun x hx=>hg x (qax _ hx)
theorem zjD{ns:List Str}{N:Nat}:∀ {gs:List (List (Str×Nat))} {k:Nat} {c:Int},zdQ ns gs= .er k c->(∀g∈gs,∀x∈g,x.2≤N)->k≤N/\c≠0
 | [],k,c,h,_=>by cases h
 | g::gs,k,c,h,hg=>by
   rw[zdQ]at h
   cases hp:fixG ns g with
   | er k' c'=>
     rw[hp]at h
     cases h
     exact zlD hp (hg g qaA)
   | ok v j=>
     rw[hp]at h
     cases hq:zdQ ns gs with
     | ok v j=>simp only[PR.bind,hq]at h;cases h
     | er k' c'=>
       simp only[PR.bind,hq]at h
       cases h
       exact zjD hq fun x hx=>hg x (qax _ hx)
theorem zhC{R:Rd}{f:Nat->PR Ex}(hf:∀i,i≤R.K.length->InR R.K.length (i+1) (f i)){bd:Nat->PR (List Equ×List Auto)}(hb:∀i,i≤R.K.length->InR R.K.length i (bd i)){i:Nat}(h:i≤R.K.length):InR R.K.length i (R.automaton f bd i):=by
 unfold Rd.automaton
 have h1:=zil hf hb R.K.length [] [] h
 cases hs:R.states f bd R.K.length [] [] i with
 | er k c=>rw[hs]at h1;exact h1
 | ok x j=>
   rw[hs]at h1
   obtain⟨ss,gs⟩:=x
   have hg:=zik _ _ _ hs (fun g hg=>by cases hg)
   refine(zaG _ h1.2).bind fun _ j2 h2 h3=>?_
   cases hq:zdQ (ss.map Sta.name) gs with
   | er k c=>exact zjD hq hg
   | ok v a=>
     have:=h1.1
     exact⟨by omega,h3⟩
theorem ze7(l:List Tok)(n:Int)(es:List En)(hk:TkOk l)(hes:EsOk es):∀(b d:Nat),b+d=3->zoV l n es d ((rdr l es).zcm (rdr l es).expr b)
 | 0,d,hd=>fun j hj=>by
   have hd3:d=3:=by omega
   subst hd3
   refine⟨zgn l n es j hk hes hj 3 (by decide) (fun i=>.er i 5) (fun h=>absurd h (by decide)),?_⟩
   have h:=zgY (R:=rdr l es) (f:=(rdr l es).expr) (fun j hj=>by rw[zae]at hj⊢;exact(zez l n es j hk hes hj).2) (au:=fun i=>.er i 5) (fun i hi=>⟨hi,by decide⟩) (deep:=true) ((rdr l es).K.length+1) [] [] (i:=j) (by rw[zae];exact hj)
   unfold Rd.zcm
   rw[zae]at h⊢
   exact h
 | b+1,d,hd=>fun j hj=>by
   have hB:=ze7 l n es hk hes b (d+1) (by omega)
   have hA:∀i,i≤l.length->InR l.length i ((rdr l es).automaton (rdr l es).expr ((rdr l es).zcm (rdr l es).expr b) i):=fun i hi=>by
    have h:=zhC (R:=rdr l es) (f:=(rdr l es).expr) (fun j hj=>by rw[zae]at hj⊢;exact(zez l n es j hk hes hj).2) (bd:=(rdr l es).zcm (rdr l es).expr b) (fun j hj=>by rw[zae]at hj⊢;exact(hB j hj).2) (i:=i) (by rw[zae];exact hi)
    rw[zae]at h
    exact h
   have hdd:decide (3≤d)=false:=by simp;omega
   refine⟨?_,?_⟩
   ·have h:=zgn l n es j hk hes hj d (by omega) ((rdr l es).automaton (rdr l es).expr ((rdr l es).zcm (rdr l es).expr b)) (fun _ i hi=>?_)
    ·rw[hdd]at h
     exact h
    ·have hlt:=zaj hi
     rw[zae]at hlt
     exact⟨zkf l n es (i+1) hk hes hlt d (by omega) _ hB,hA _ hlt⟩
   ·have h:=zgY (R:=rdr l es) (f:=(rdr l es).expr) (fun j hj=>by rw[zae]at hj⊢;exact(zez l n es j hk hes hj).2) (au:=(rdr l es).automaton (rdr l es).expr ((rdr l es).zcm (rdr l es).expr b)) (fun i hi=>by rw[zae]at hi⊢;exact hA i hi) (deep:=false) ((rdr l es).K.length+1) [] [] (i:=j) (by rw[zae];exact hj)
    unfold Rd.zcm
    rw[zae]at h⊢
    exact h
end Go.Proofs.YtpfnfpaahefdaaaGreat
namespace Go.TL
open Go
section rules
variable {P:Program}{all:Array Oper}
theorem zmL(w:List Nat){σ:Type}(D:σ->Nat->Bool)(Hp:σ->Heap)(V:σ->List SV){G:Nat->Prop}{n:Nat}{env0:Env}{K:TK}{φ:Fm}{m0:M}(hw:∀t,w.contains t=true->(env0.look t).isSome=true)(hB:mixW w all []=true)(hvl:∀s,(V s).length=all.size)
  (hst:∀(s:σ) (i:Nat) o,all[i]?=some o->D s i=false->(∀j∈cov all 8 (zaR all i),D s j=true)->(∀k,D s k=true->∀j∈cov all 8 (zaR all k),D s j=true)->
    ∃(s':σ) (v:SV),(∀j,D s' j=(D s j || decide (i=j)))/\(∀j,D s j=true->(V s')[j]?=(V s)[j]?)/\(V s')[i]?=some v/\
     ∀env,TO false P n all [o] (zaJ (zaJ env0 w++za9 all (V s) env0) (slotsOf all o)++env) (Hp s) (NKP K (G i) (putE o.dst v (zaJ (zaJ env0 w++za9 all (V s) env0) (slotsOf all o)++env)) (Hp s')))
  (hK:∀s,(∀j,j<all.size->D s j=true)->(∀j,j<all.size->G j)->K .normal (za9 all (V s) env0) (Hp s)):
  ∀(fuel:Nat) (L:Array Bool) (m:M) (a:Act) (s:σ),L.size=all.size->DC all L->unl all.size L≤fuel->(∀i,D s i=L.getD i false)->m.H=Hp s->(∀j,L[j]?=some true->G j)->
   Step m0 m->HRel m->ERel m n (envA all (V s) (fun i=>L.getD i false) (List.range all.size)++env0) a.tmps->zck φ m.w a.defers->
   wpAnyIn (Fr φ.r) 0 P .any all (Post φ m0 n K) fuel L a m.w:=by
 simp only[mixW,qat]at hB
 obtain⟨hd,hall⟩:=hB
 have hall':∀i,i<all.size->_:=fun i hi=>qaw.1 hall i (by simpa using hi)
 have hdl:∀i d,zbU all i=some d->i<all.size:=fun i d h=>by
  exact zwcx
 have hu:∀i j d,zbU all i=some d->zbU all j=some d->i=j:=by
  exact zwbo
 have hcv:∀(i:Nat) o s j,all[i]?=some o->s∈slotsOf all o->zbU all j=some s->(w.contains s=true->i∈cov all 8 (zaR all j))/\(w.contains s=false->j∈cov all 8 (zaR all i)):=by
  exact zwt
 have hfull:∀(vs:List SV) (L:Array Bool),L.size=all.size->(∀i,i<all.size->L[i]?=some true)->envA all vs (fun i=>L.getD i false) (List.range all.size)++env0=za9 all vs env0:=by
  intro vs L hL hA
  exact zwl
 have hdone:∀(L:Array Bool) (m:M) (a:Act) (s:σ),L.size=all.size->(∀i,i<all.size->L[i]?=some true)->(∀i,D s i=L.getD i false)->m.H=Hp s->(∀j,L[j]?=some true->G j)->
   Step m0 m->HRel m->ERel m n (envA all (V s) (fun i=>L.getD i false) (List.range all.size)++env0) a.tmps->zck φ m.w a.defers->Post φ m0 n K .normal a m.w:=by
  intro L m a s hL hA hD hH hG st h2 h3 h4
  rw[hfull (V s) L hL hA]at h3
  exact⟨m,za9 all (V s) env0,.normal,rfl,st,h2,h3,h4,trivial,by rw[hH];exact hK s (fun j hj=>by rw[hD j];exact gT.2 (hA j hj)) fun j hj=>hG j (hA j hj)⟩
 intro fuel
 induction fuel with
 | zero=>
   intro L m a s hL hdc hun hD hH hG st h2 h3 h4
   have hA:∀i,i<all.size->L[i]?=some true:=by
    exact zwr
   refine⟨?_,hdone L m a s hL hA hD hH hG st h2 h3 h4⟩
   refine qbs.2 fun i hi=>?_
   have h:=((zbm hL).1 hi).1
   rw[hA i (by rw[<-hL];exact(qah.1 h).1)]at h
   cases h
 | succ fuel ih=>
   intro L m a s hL hdc hun hD hH hG st h2 h3 h4
   refine⟨fun hr=>?_,fun i hi=>?_⟩
   ·refine hdone L m a s hL (fun i hi=>?_) hD hH hG st h2 h3 h4
    exact zwbg
   ·obtain⟨g1,g2⟩:=(zbm hL).1 hi
    have hil:i<all.size:=by rw[<-hL];exact(qah.1 g1).1
    have ho:all[i]?=some all[i]:=qaj hil
    generalize all[i]=o at ho
    have hcl:=zbY hdc 8 (zaR all i) g2
    have hlook:∀t u,(zaJ (zaJ env0 w++za9 all (V s) env0) (slotsOf all o)++(envA all (V s) (fun i=>L.getD i false) (List.range all.size)++env0)).look t=some u->
      (envA all (V s) (fun i=>L.getD i false) (List.range all.size)++env0).look t=some u:=by
     intro t u htu
     rw[zaI]at htu
     cases hpk:(zaJ (zaJ env0 w++za9 all (V s) env0) (slotsOf all o)).look t with
     | none=>rw[hpk]at htu;exact htu
     | some u'=>
       rw[hpk]at htu
       cases htu
       obtain⟨k1,k2⟩:=zc5 _ _ _ _ hpk
       rw[zaI]at k2
       cases hwl:(zaJ env0 w).look t with
       | some u1=>
         rw[hwl]at k2
         cases k2
         obtain⟨w1,w2⟩:=zc5 _ _ _ _ hwl
         rw[zaI]
         have:(envA all (V s) (fun i=>L.getD i false) (List.range all.size)).look t=none:=by
          exact zwbm
         rw[this]
         exact w2
       | none=>
       rw[hwl]at k2
       have hwn:w.contains t=false:=by
        exact zwbe
       dsimp only at k2
       unfold za9 at k2
       rw[zaI]at k2⊢
       cases hq':(envA all (V s) (fun _=>true) (List.range all.size)).look t with
       | some u''=>
         rw[hq']at k2
         cases k2
         obtain⟨j,j1,_,j2,j3⟩:=zeg _ hq'
         have hj:=hcl j ((hcv i o t j ho k1 j2).2 hwn)
         rw[zbl hu (p:=fun i=>L.getD i false) (gT.2 hj) j2 j3 _ j1]
       | none=>
         rw[hq']at k2
         have:(envA all (V s) (fun i=>L.getD i false) (List.range all.size)).look t=none:=by
          refine zc2 _ fun j hj _ hjd=>?_
          have hjl:j<all.size:=by simpa using hj
          have:=zbl (vs:=V s) hu (p:=fun _=>true) rfl hjd (qab (by rw[hvl];omega)) (List.range all.size) hj
          rw[this]at hq'
          cases hq'
         rw[this]
         exact k2
    have h3':ERel m n (zaJ (zaJ env0 w++za9 all (V s) env0) (slotsOf all o)++(envA all (V s) (fun i=>L.getD i false) (List.range all.size)++env0)) a.tmps:=h3.sub hlook
    have hset:∀j:Nat,(L.setIfInBounds i true)[j]?=if i=j then some true else L[j]? :=by
     exact zwek
    have hdf:D s i=false:=by
     rw[hD i]
     cases hb:L.getD i false with
     | false=>rfl
     | true=>have:=gT.1 hb;rw[g1]at this;cases this
    obtain⟨s1,v,d1,d2,d3,d4⟩:=hst s i o ho hdf (fun j hj=>by rw[hD j];exact gT.2 (hcl j hj)) (fun k hk j hj=>by
     rw[hD k]at hk
     rw[hD j]
     exact gT.2 (zbY hdc 8 (zaR all k) (hdc k (gT.1 hk)) j hj))
    refine zhj (K:=K) (hpan:=fun m' env' a' v ch s' hm' he' hd' hx hk=>⟨m',env',.panic v,rfl,st.trans s',hm',he',hd',hx,hk⟩) ho (d4 _) hH h2 h3' h4 ?_
    intro hgi m' a' hH1 s' h2' h3'' h4'
    refine ih (L.setIfInBounds i true) m' a' s1 (by simpa using hL) (zlr hL hdc hi) ?_ (fun j=>?_) hH1 (fun j hj=>by
      rw[hset]at hj
      split at hj
      ·rename_i e;subst e;exact hgi
      ·exact hG j hj) (st.trans s') h2' (h3''.sub fun t u htu=>?_) h4'
    ·exact zwu
    ·rw[d1 j,hD j]
     cases hb:(L.setIfInBounds i true).getD j false with
     | true=>
       have:=gT.1 hb
       rw[hset]at this
       split at this
       ·rename_i e;simp[e]
       ·rw[gT.2 this];rfl
     | false=>
       by_cases hij:i=j
       ·have:=hset j
        rw[if_pos hij]at this
        rw[gT.2 this]at hb;cases hb
       ·have h9:=hset j
        rw[if_neg hij]at h9
        cases hl:L.getD j false with
        | false=>simp[hij]
        | true=>
          rw[gT.1 hl]at h9
          rw[gT.2 h9]at hb;cases hb
    ·rw[zaI]at htu
     cases hq':(envA all (V s1) (fun x=>(L.setIfInBounds i true).getD x false) (List.range all.size)).look t with
     | some u'=>
       rw[hq']at htu
       cases htu
       obtain⟨j,j1,j0,j2,j3⟩:=zeg _ hq'
       have j0':=gT.1 j0
       rw[hset]at j0'
       by_cases hij:i=j
       ·subst hij
        rw[d3]at j3
        exact zwdv
       ·rw[if_neg hij]at j0'
        have hne:zbU all i≠some t:=fun e=>hij (hu i j t e j2)
        have e2:(envA all (V s) (fun i=>L.getD i false) (List.range all.size)++env0).look t=some u:=by
         rw[zaI,zbl hu (p:=fun i=>L.getD i false) (gT.2 j0') j2 (by rw[<-d2 j (by rw[hD j];exact gT.2 j0')];exact j3) _ j1]
        have e3:(zaJ (zaJ env0 w++za9 all (V s) env0) (slotsOf all o)++(envA all (V s) (fun i=>L.getD i false) (List.range all.size)++env0)).look t=some u:=by
         exact zwbh
        exact zwbw
     | none=>
       rw[hq']at htu
       have hno:∀j,j<all.size->L[j]?=some true->zbU all j≠some t:=by
        intro j hj hjt hjd
        have:=zbl (vs:=V s1) hu (p:=fun x=>(L.setIfInBounds i true).getD x false) (i:=j) (gT.2 (by rw[hset];split;rfl;exact hjt)) hjd (qab (by rw[hvl];omega)) (List.range all.size) (by simpa using hj)
        rw[this]at hq'
        cases hq'
       have hni:zbU all i≠some t:=by
        intro hjd
        have:=zbl (vs:=V s1) hu (p:=fun x=>(L.setIfInBounds i true).getD x false) (i:=i) (gT.2 (by rw[hset,if_pos rfl])) hjd (qab (by rw[hvl];omega)) (List.range all.size) (by simpa using hil)
        rw[this]at hq'
        cases hq'
       have e2:(envA all (V s) (fun i=>L.getD i false) (List.range all.size)++env0).look t=some u:=by
        exact zwda
       have e3:(zaJ (zaJ env0 w++za9 all (V s) env0) (slotsOf all o)++(envA all (V s) (fun i=>L.getD i false) (List.range all.size)++env0)).look t=some u:=by
        exact zwbh
       cases hdd:o.dst with
       | none=>exact e3
       | some d=>
         have:d≠t:=fun e=>hni (by unfold zbU;rw[ho];simp[hdd,e])
         rw[putE,Env.zat _ _ this]
         exact e3
end rules
section rules
variable {P:Program}{all:Array Oper}
abbrev OneF (P:Program)(n:Nat)(K:TK)(g:Prop)(all:Array Oper)(full:Env)(o:Oper)(v:SV)(X Y:Heap):Prop:=∀env,TO false P n all [o] (zaJ full (slotsOf all o)++env) X (NKP K g (putE o.dst v (zaJ full (slotsOf all o)++env)) Y)
def ziw(P:Program)(n:Nat)(K:TK)(a b c d:Nat)(g:Prop)(all:Array Oper)(full:Env)(H0 H1 H2 HC HD HF:Heap):Nat->List Oper->List SV->Prop
 | _,[],[]=>True
 | i,o::l,v::t=>
   (bif Nat.beq i a then OneF P n K g all full o v H0 H1
   else bif Nat.beq i b then OneF P n K True all full o v H1 H2
   else bif Nat.beq i c then OneF P n K True all full o v H2 HC/\OneF P n K True all full o v HD HF
   else bif Nat.beq i d then OneF P n K True all full o v H2 HD/\OneF P n K True all full o v HC HF
   else bif Nat.blt i b then OneF P n K True all full o v H0 H0/\OneF P n K True all full o v H1 H1
   else OneF P n K True all full o v H2 H2/\OneF P n K True all full o v HC HC/\OneF P n K True all full o v HD HD/\OneF P n K True all full o v HF HF)
   /\ ziw P n K a b c d g all full H0 H1 H2 HC HD HF (i+1) l t
 | _,_,_=>False
theorem ziw.get{n:Nat}{K:TK}{a b c d:Nat}{g:Prop}{full:Env}{H0 H1 H2 HC HD HF:Heap}:∀ {l:List Oper} {t:List SV} {k:Nat},ziw P n K a b c d g all full H0 H1 H2 HC HD HF k l t->l.length=t.length/\∀(i:Nat) o v,l[i]?=some o->t[i]?=some v->
  (bif Nat.beq (k+i) a then OneF P n K g all full o v H0 H1
  else bif Nat.beq (k+i) b then OneF P n K True all full o v H1 H2
  else bif Nat.beq (k+i) c then OneF P n K True all full o v H2 HC/\OneF P n K True all full o v HD HF
  else bif Nat.beq (k+i) d then OneF P n K True all full o v H2 HD/\OneF P n K True all full o v HC HF
  else bif Nat.blt (k+i) b then OneF P n K True all full o v H0 H0/\OneF P n K True all full o v H1 H1
  else OneF P n K True all full o v H2 H2/\OneF P n K True all full o v HC HC/\OneF P n K True all full o v HD HD/\OneF P n K True all full o v HF HF)
 | [],[],k,_=>by simp
 | o::l,v::t,k,h=>by
   simp only[ziw]at h
   obtain⟨h1,h2⟩:=h
   obtain⟨g1,g2⟩:=ziw.get h2
   refine⟨by simp[g1],fun i o' v' ho hv=>?_⟩
   cases i with
   | zero=>
     simp at ho hv
     subst ho hv
     exact h1
   | succ i=>
     have:=g2 i o' v' (by simpa using ho) (by simpa using hv)
     rw[show k+1+i=k+(i+1) by omega]at this
     exact this
 | [],_::_,_,h=>by exact h.elim
 | _::_,[],_,h=>by exact h.elim
def midF(ops:Array Oper)(a b:Nat):Bool:=(Nat.blt a b && Nat.blt b ops.size) && (List.range ops.size).all fun i=>Nat.beq i b || (bif Nat.blt i b then(cov ops 8 (zaR ops b)).contains i else(cov ops 8 (zaR ops i)).contains b)
theorem zo6{x y:Nat}(h:x<y):Nat.blt x y=true:=by rw[qa3];exact h
theorem zo5{x y:Nat}(h:¬x<y):Nat.blt x y=false:=by
 cases hh:Nat.blt x y with
 | false=>rfl
 | true=>rw[qa3]at hh;exact absurd hh h
theorem TR.regionF(a b c d:Nat){g:Prop}{n:Nat}{env0 envF:Env}{H0 H1 H2 HC HD HF:Heap}{K:TK}{id':Nat}{l:List Oper}(t:List SV)(hm:P.follows .mixedOrders=true)
  (hB:(mixB l.toArray [] && midF l.toArray a b && (Nat.blt b c && Nat.blt c d && Nat.blt d l.length))=true)
  (hp:ziw P n K a b c d g l.toArray (za9 l.toArray t env0) H0 H1 H2 HC HD HF 0 l t)(hE:zbJ (za9 l.toArray t env0)=some envF)(hK:g->K .normal envF HF):
  TR P n (.region id' l.toArray true) env0 H0 K:=by
 obtain⟨g1,g2⟩:=hp.get
 simp only[qat,qa3,midF]at hB
 obtain⟨⟨hB,⟨hab,hbl⟩,hL⟩,⟨hbc,hcd⟩,hdl⟩:=hB
 simp only[List.size_toArray]at hbl hL
 have hE':∀i,i<l.length->i<b->i∈cov l.toArray 8 (zaR l.toArray b):=fun i hi hlt=>by
  have:=qaw.1 hL i (by simpa using hi)
  rw[zo6 hlt,cond_true,show Nat.beq i b=false from by cases h:Nat.beq i b with|false=>rfl|true=>exact absurd (qaS h) (by omega),qbt]at this
  simpa using this
 have hLt:∀i,i<l.length->b<i->b∈cov l.toArray 8 (zaR l.toArray i):=fun i hi hlt=>by
  have:=qaw.1 hL i (by simpa using hi)
  rw[zo5 (show ¬i<b by omega),cond_false,show Nat.beq i b=false from by cases h:Nat.beq i b with|false=>rfl|true=>exact absurd (qaS h) (by omega),qbt]at this
  simpa using this
 have nb:∀ {x y:Nat},x≠y->Nat.beq x y=false:=fun{x y} h=>by cases hh:Nat.beq x y with|false=>rfl|true=>exact absurd (qaS hh) h
 intro φ m ac h1 h2 h3 h4
 have s0:Step m ⟨m.A,m.β,m.H,{ m.w with drawn:=m.w.drawn+1 }⟩/\HRel ⟨m.A,m.β,m.H,{ m.w with drawn:=m.w.drawn+1 }⟩:=zdh h2 ⟨rfl,rfl,rfl,qae _,fun _ _=>rfl⟩
 refine zbC (wpIn_region_any hm ?_)
 let S:(Nat->Bool)->Heap:=fun f=>bif f b then(bif f c then(bif f d then HF else HC) else(bif f d then HD else H2)) else(bif f a then H1 else H0)
 have hSe:∀(f:Nat->Bool) (x y z w:Bool),f b=x->f c=y->f d=z->f a=w->S f=bif x then(bif y then(bif z then HF else HC) else(bif z then HD else H2)) else(bif w then H1 else H0):=fun f x y z w h1 h2 h3 h4=>by subst h1 h2 h3 h4;rfl
 have hrep:∀i:Nat,(Array.replicate l.toArray.size false).getD i false=false:=fun i=>by
  rw[qa0,qaQ]
  split <;> rfl
 refine zmL [] (env0:=env0) (σ:=Nat->Bool) (fun s=>s) S (fun _=>t) (G:=fun i=>bif Nat.beq i a then g else True) (m0:=m) (fun t ht=>by cases ht) hB (fun _=>by simp[g1]) (fun s i o ho hdi hcv hcl=>?_) (fun s hs hG=>?_) l.toArray.size (Array.replicate l.toArray.size false)
  ⟨m.A,m.β,m.H,{ m.w with drawn:=m.w.drawn+1 }⟩ ac (fun i=>(Array.replicate l.toArray.size false).getD i false) (by simp) ?_ ?_ (fun _=>rfl) ?_ (fun j h=>?_) s0.1 s0.2 ?_ (h4.step h2 s0.1)
 ·have hil:i<l.length:=by have:=(qah.1 ho).1;simpa using this
  have hol:l[i]?=some o:=by simpa using ho
  have htl:t[i]?=some (t[i]'(by omega)):=qab (by omega)
  generalize t[i]'(by omega)=v at htl
  have hg:=g2 i o v hol htl
  rw[qaU]at hg
  refine⟨fun j=>s j || decide (i=j),v,fun j=>rfl,fun j _=>rfl,htl,?_⟩
  have hi':∀j,j≠i->(s j || decide (i=j))=s j:=fun j hj=>by simp[Ne.symm hj]
  have hii:(s i || decide (i=i))=true:=by simp
  have early:i≤b->s b=false->s c=false/\s d=false:=fun _ hb=>by
   refine⟨?_,?_⟩
   ·cases h:s c with
    | false=>rfl
    | true=>have:=hcl c h b (hLt c (by omega) hbc);rw[hb]at this;cases this
   ·cases h:s d with
    | false=>rfl
    | true=>have:=hcl d h b (hLt d (by omega) (by omega));rw[hb]at this;cases this
  by_cases hib:i<b
  ·have hsb:s b=false:=by
    cases h:s b with
    | false=>rfl
    | true=>have:=hcl b h i (hE' i hil hib);rw[hdi]at this;cases this
   obtain⟨hsc,hsd⟩:=early (by omega) hsb
   have f1:=hi' b (by omega)
   have f2:=hi' c (by omega)
   have f3:=hi' d (by omega)
   by_cases e1:i=a
   ·subst e1
    rw[qby,cond_true]at hg
    rw[hSe s _ _ _ _ hsb hsc hsd hdi,hSe (fun j=>s j || decide (i=j)) _ _ _ _ (f1.trans hsb) (f2.trans hsc) (f3.trans hsd) hii]
    intro env
    have:=hg env
    simp only[cond_false,cond_true]
    rw[qby,cond_true]
    exact this
   ·rw[nb e1,nb (show i≠b by omega),nb (show i≠c by omega),nb (show i≠d by omega),zo6 hib]at hg
    simp only[cond_false,cond_true]at hg
    have f4:=hi' a (Ne.symm e1)
    rw[nb e1,cond_false]
    cases hsa:s a with
    | false=>
      rw[hSe s _ _ _ _ hsb hsc hsd hsa,hSe (fun j=>s j || decide (i=j)) _ _ _ _ (f1.trans hsb) (f2.trans hsc) (f3.trans hsd) (f4.trans hsa)]
      exact hg.1
    | true=>
      rw[hSe s _ _ _ _ hsb hsc hsd hsa,hSe (fun j=>s j || decide (i=j)) _ _ _ _ (f1.trans hsb) (f2.trans hsc) (f3.trans hsd) (f4.trans hsa)]
      exact hg.2
  have hia:i≠a:=by omega
  rw[nb hia]at hg
  rw[nb hia,cond_false]
  have f4:=hi' a (Ne.symm hia)
  by_cases e2:i=b
  ·subst e2
   rw[qby]at hg
   simp only[cond_false,cond_true]at hg
   obtain⟨hsc,hsd⟩:=early (qae _) hdi
   have hsa:s a=true:=hcv a (hE' a (by omega) hab)
   rw[hSe s _ _ _ _ hdi hsc hsd hsa,hSe (fun j=>s j || decide (i=j)) _ _ _ _ hii ((hi' c (by omega)).trans hsc) ((hi' d (by omega)).trans hsd) (f4.trans hsa)]
   exact hg
  have hsb:s b=true:=hcv b (hLt i hil (by omega))
  have f1:=hi' b (Ne.symm e2)
  rw[nb e2]at hg
  by_cases e3:i=c
  ·subst e3
   rw[qby]at hg
   simp only[cond_false,cond_true]at hg
   have f3:=hi' d (by omega)
   cases hsd:s d with
   | false=>
     rw[hSe s _ _ _ _ hsb hdi hsd rfl,hSe (fun j=>s j || decide (i=j)) _ _ _ _ (f1.trans hsb) hii (f3.trans hsd) rfl]
     exact hg.1
   | true=>
     rw[hSe s _ _ _ _ hsb hdi hsd rfl,hSe (fun j=>s j || decide (i=j)) _ _ _ _ (f1.trans hsb) hii (f3.trans hsd) rfl]
     exact hg.2
  have f2:=hi' c (Ne.symm e3)
  rw[nb e3]at hg
  by_cases e4:i=d
  ·subst e4
   rw[qby]at hg
   simp only[cond_false,cond_true]at hg
   cases hsc:s c with
   | false=>
     rw[hSe s _ _ _ _ hsb hsc hdi rfl,hSe (fun j=>s j || decide (i=j)) _ _ _ _ (f1.trans hsb) (f2.trans hsc) hii rfl]
     exact hg.1
   | true=>
     rw[hSe s _ _ _ _ hsb hsc hdi rfl,hSe (fun j=>s j || decide (i=j)) _ _ _ _ (f1.trans hsb) (f2.trans hsc) hii rfl]
     exact hg.2
  have f3:=hi' d (Ne.symm e4)
  rw[nb e4,zo5 hib]at hg
  simp only[cond_false]at hg
  obtain⟨q1,q2,q3,q4⟩:=hg
  cases hsc:s c <;> cases hsd:s d
  all_goals rw[hSe s _ _ _ _ hsb hsc hsd rfl,hSe (fun j=>s j || decide (i=j)) _ _ _ _ (f1.trans hsb) (f2.trans hsc) (f3.trans hsd) rfl]
  ·exact q1
  ·exact q3
  ·exact q2
  ·exact q4
 ·have hb:=hs b (by simpa using hbl)
  have hc:=hs c (by simp;omega)
  have hd:=hs d (by simpa using hdl)
  rw[<-zbd hE]
  rw[hSe s _ _ _ _ hb hc hd rfl]
  have:=hG a (by simp;omega)
  rw[qby,cond_true]at this
  exact hK this
 ·exact zwev
 ·exact zwci
 ·simp only[S,hrep,cond_false]
  exact h1
 ·rw[qaQ]at h
  split at h <;> cases h
 ·have:envA l.toArray t (fun i=>(Array.replicate l.toArray.size false).getD i false) (List.range l.toArray.size)=[]:=by
   have:∀x:List Nat,envA l.toArray t (fun i=>(Array.replicate l.toArray.size false).getD i false) x=[]:=by
    intro x
    induction x with
    | nil=>rfl
    | cons i x ih=>
      have h0:=hrep i
      simp only[envA,h0,ih]
   exact this _
  rw[this,qbk]
  exact h3.step h2 s0.1
end rules
end Go.TL
