import Derived.Test.YtpfnfpaahefdaaaGreatPk30
set_option linter.all false
namespace Go.Proofs.YtpfnfpaahefdaaaGreat
open Go Go.TL
attribute [local irreducible] TR TO Then zab RetK Sound zac Kf GG za2
theorem zrn{R:Rd}{i j:Nat}{s:Str}(h:R.id i= .ok s j):j≤R.K.length:=by
 unfold Rd.id at h
 split at h
 ·rename_i hk
  cases h
  exact zcu hk
 ·cases h
theorem zh2{R:Rd}{f:Nat->PR Ex}{w:Str}:∀(m:Nat) (xs:List Tran) (gs:List (Str×Nat)) {i:Nat} {ys:List Tran} {hs:List (Str×Nat)} {j:Nat},R.trans f w m xs gs i= .ok (ys,hs) j->(∀x∈gs,x.2≤R.K.length)->∀x∈hs,x.2≤R.K.length
 | 0,xs,gs,i,ys,hs,j,h,hl=>by cases h;exact hl
 | m+1,xs,gs,i,ys,hs,j,h,hl=>by
   unfold Rd.trans at h
   split at h
   ·obtain⟨_,_,_,h⟩:=zae h
    obtain⟨_,_,_,h⟩:=zae h
    obtain⟨_,_,_,h⟩:=zae h
    obtain⟨_,_,hi,h⟩:=zae h
    obtain⟨_,_,_,h⟩:=zae h
    have:=zrn hi
    refine zh2 m _ _ h fun x hx=>?_
    rcases qbi.1 hx with hx|hx
    ·exact hl x hx
    ·simp at hx;subst hx;show _-1≤_;omega
   ·cases h;exact hl
theorem zi1{R:Rd}{f:Nat->PR Ex}{bd:Nat->PR (List Equ×List Auto)}:∀(m:Nat) (xs:List Sta) (gs:List (List (Str×Nat))) {i:Nat} {ys:List Sta} {hs:List (List (Str×Nat))} {j:Nat},R.states f bd m xs gs i= .ok (ys,hs) j->(∀g∈gs,∀x∈g,x.2≤R.K.length)->∀g∈hs,∀x∈g,x.2≤R.K.length
 | 0,xs,gs,i,ys,hs,j,h,hl=>by cases h;exact hl
 | m+1,xs,gs,i,ys,hs,j,h,hl=>by
   unfold Rd.states at h
   split at h
   ·obtain⟨_,_,_,h⟩:=zae h
    obtain⟨x,_,hst,h⟩:=zae h
    unfold Rd.state at hst
    obtain⟨_,_,_,hst⟩:=zae hst
    obtain⟨_,_,_,hst⟩:=zae hst
    obtain⟨⟨us,gu⟩,_,hu,hst⟩:=zae hst
    obtain⟨_,_,_,hst⟩:=zae hst
    obtain⟨_,_,_,hst⟩:=zae hst
    obtain⟨⟨vs,gv⟩,_,hv,hst⟩:=zae hst
    obtain⟨_,_,_,hst⟩:=zae hst
    cases hst
    have h1:=zh2 _ _ _ hu (fun x hx=>by cases hx)
    have h2:=zh2 _ _ _ hv (fun x hx=>by cases hx)
    refine zi1 m _ _ h fun g hg=>?_
    rcases qbi.1 hg with hg|hg
    ·exact hl g hg
    ·rcases qa8.1 hg with rfl|hg
     ·exact h1
     ·rcases qa8.1 hg with rfl|hg
      ·exact h2
      ·cases hg
   ·cases h;exact hl
theorem zmG{ns:List Str}{N:Nat}:∀ {g:List (Str×Nat)} {k:Nat} {c:Int},fixG ns g= .er k c->(∀x∈g,x.2≤N)->k≤N/\c≠0
 | [],k,c,h,_=>by cases h
 | (s,a)::g,k,c,h,hg=>by
   rw[fixG]at h
   split at h
   ·cases h;exact⟨hg (s,a) qaC,by decide⟩
   ·cases hq:fixG ns g with
    | ok v j=>rw[hq]at h;cases h
    | er k' c'=>
      rw[hq]at h
      cases h
      exact zmG hq fun x hx=>hg x (qaA _ hx)
theorem zkt{ns:List Str}{N:Nat}:∀ {gs:List (List (Str×Nat))} {k:Nat} {c:Int},zd9 ns gs= .er k c->(∀g∈gs,∀x∈g,x.2≤N)->k≤N/\c≠0
 | [],k,c,h,_=>by cases h
 | g::gs,k,c,h,hg=>by
   rw[zd9]at h
   cases hp:fixG ns g with
   | er k' c'=>
     rw[hp]at h
     cases h
     exact zmG hp (hg g qaC)
   | ok v j=>
     rw[hp]at h
     cases hq:zd9 ns gs with
     | ok v j=>simp only[PR.bind,hq]at h;cases h
     | er k' c'=>
       simp only[PR.bind,hq]at h
       cases h
       exact zkt hq fun x hx=>hg x (qaA _ hx)
theorem zid{R:Rd}{f:Nat->PR Ex}(hf:∀i,i≤R.K.length->InR R.K.length (i+1) (f i)){bd:Nat->PR (List Equ×List Auto)}(hb:∀i,i≤R.K.length->InR R.K.length i (bd i)){i:Nat}(h:i≤R.K.length):InR R.K.length i (R.automaton f bd i):=by
 unfold Rd.automaton
 have h1:=zi2 hf hb R.K.length [] [] h
 cases hs:R.states f bd R.K.length [] [] i with
 | er k c=>rw[hs]at h1;exact h1
 | ok x j=>
   rw[hs]at h1
   obtain⟨ss,gs⟩:=x
   have hg:=zi1 _ _ _ hs (fun g hg=>by cases hg)
   refine(zaQ _ h1.2).bind fun _ j2 h2 h3=>?_
   cases hq:zd9 (ss.map Sta.name) gs with
   | er k c=>exact zkt hq hg
   | ok v a=>
     have:=h1.1
     exact⟨by omega,h3⟩
theorem zfz(l:List Tok)(n:Int)(es:List En)(hk:TkOk l)(hes:EsOk es):∀(b d:Nat),b+d=3->zp3 l n es d ((rdr l es).zcB (rdr l es).expr b)
 | 0,d,hd=>fun j hj=>by
   have hd3:d=3:=by omega
   subst hd3
   refine⟨zg1 l n es j hk hes hj 3 (by decide) (fun i=>.er i 5) (fun h=>absurd h (by decide)),?_⟩
   have h:=zhA (R:=rdr l es) (f:=(rdr l es).expr) (fun j hj=>by rw[zaf]at hj⊢;exact(zeX l n es j hk hes hj).2) (au:=fun i=>.er i 5) (fun i hi=>⟨hi,by decide⟩) (deep:=true) ((rdr l es).K.length+1) [] [] (i:=j) (by rw[zaf];exact hj)
   unfold Rd.zcB
   rw[zaf]at h⊢
   exact h
 | b+1,d,hd=>fun j hj=>by
   have hB:=zfz l n es hk hes b (d+1) (by omega)
   have hA:∀i,i≤l.length->InR l.length i ((rdr l es).automaton (rdr l es).expr ((rdr l es).zcB (rdr l es).expr b) i):=fun i hi=>by
    have h:=zid (R:=rdr l es) (f:=(rdr l es).expr) (fun j hj=>by rw[zaf]at hj⊢;exact(zeX l n es j hk hes hj).2) (bd:=(rdr l es).zcB (rdr l es).expr b) (fun j hj=>by rw[zaf]at hj⊢;exact(hB j hj).2) (i:=i) (by rw[zaf];exact hi)
    rw[zaf]at h
    exact h
   have hdd:decide (3≤d)=false:=by simp;omega
   refine⟨?_,?_⟩
   ·have h:=zg1 l n es j hk hes hj d (by omega) ((rdr l es).automaton (rdr l es).expr ((rdr l es).zcB (rdr l es).expr b)) (fun _ i hi=>?_)
    ·rw[hdd]at h
     exact h
    ·have hlt:=zam hi
     rw[zaf]at hlt
     exact⟨zlc l n es (i+1) hk hes hlt d (by omega) _ hB,hA _ hlt⟩
   ·have h:=zhA (R:=rdr l es) (f:=(rdr l es).expr) (fun j hj=>by rw[zaf]at hj⊢;exact(zeX l n es j hk hes hj).2) (au:=(rdr l es).automaton (rdr l es).expr ((rdr l es).zcB (rdr l es).expr b)) (fun i hi=>by rw[zaf]at hi⊢;exact hA i hi) (deep:=false) ((rdr l es).K.length+1) [] [] (i:=j) (by rw[zaf];exact hj)
    unfold Rd.zcB
    rw[zaf]at h⊢
    exact h
end Go.Proofs.YtpfnfpaahefdaaaGreat
namespace Go.TL
open Go
section rules
variable {P:Program}{all:Array Oper}
theorem zkd(w:List Nat){σ:Type}(D:σ->Nat->Bool)(Hp:σ->Heap)(V:σ->List SV){G:Nat->Prop}{n:Nat}{env0:Env}{K:TK}{φ:Fm}{m0:M}(hw:∀t,w.contains t=true->(env0.look t).isSome=true)(hB:mixW w all []=true)(hvl:∀s,(V s).length=all.size)
  (hst:∀(s:σ) (i:Nat) o,all[i]?=some o->D s i=false->(∀j∈cov all 8 (zaP all i),D s j=true)->(∀k,D s k=true->∀j∈cov all 8 (zaP all k),D s j=true)->
    ∃(s':σ) (v:SV),(∀j,D s' j=(D s j || decide (i=j)))/\(∀j,D s j=true->(V s')[j]?=(V s)[j]?)/\(V s')[i]?=some v/\
     ∀env,TO false P n all [o] (zaS (zaS env0 w++zbc all (V s) env0) (slotsOf all o)++env) (Hp s) (NKP K (G i) (putE o.dst v (zaS (zaS env0 w++zbc all (V s) env0) (slotsOf all o)++env)) (Hp s')))
  (hK:∀s,(∀j,j<all.size->D s j=true)->(∀j,j<all.size->G j)->K .normal (zbc all (V s) env0) (Hp s)):
  ∀(fuel:Nat) (L:Array Bool) (m:M) (a:Act) (s:σ),L.size=all.size->DC all L->unl all.size L≤fuel->(∀i,D s i=L.getD i false)->m.H=Hp s->(∀j,L[j]?=some true->G j)->
   Step m0 m->HRel m->ERel m n (envA all (V s) (fun i=>L.getD i false) (List.range all.size)++env0) a.tmps->zcz φ m.w a.defers->
   wpAnyIn (Fr φ.r) 0 P .any all (Post φ m0 n K) fuel L a m.w:=by
 simp only[mixW,qat]at hB
 obtain⟨hd,hall⟩:=hB
 have hall':∀i,i<all.size->_:=fun i hi=>qaw.1 hall i (by simpa using hi)
 have hdl:∀i d,zb9 all i=some d->i<all.size:=fun i d h=>by
  exact zwdc
 have hu:∀i j d,zb9 all i=some d->zb9 all j=some d->i=j:=by
  exact zwbr
 have hcv:∀(i:Nat) o s j,all[i]?=some o->s∈slotsOf all o->zb9 all j=some s->(w.contains s=true->i∈cov all 8 (zaP all j))/\(w.contains s=false->j∈cov all 8 (zaP all i)):=by
  exact zwu
 have hfull:∀(vs:List SV) (L:Array Bool),L.size=all.size->(∀i,i<all.size->L[i]?=some true)->envA all vs (fun i=>L.getD i false) (List.range all.size)++env0=zbc all vs env0:=by
  intro vs L hL hA
  exact zwm
 have hdone:∀(L:Array Bool) (m:M) (a:Act) (s:σ),L.size=all.size->(∀i,i<all.size->L[i]?=some true)->(∀i,D s i=L.getD i false)->m.H=Hp s->(∀j,L[j]?=some true->G j)->
   Step m0 m->HRel m->ERel m n (envA all (V s) (fun i=>L.getD i false) (List.range all.size)++env0) a.tmps->zcz φ m.w a.defers->Post φ m0 n K .normal a m.w:=by
  intro L m a s hL hA hD hH hG st h2 h3 h4
  rw[hfull (V s) L hL hA]at h3
  exact⟨m,zbc all (V s) env0,.normal,rfl,st,h2,h3,h4,trivial,by rw[hH];exact hK s (fun j hj=>by rw[hD j];exact gT.2 (hA j hj)) fun j hj=>hG j (hA j hj)⟩
 intro fuel
 induction fuel with
 | zero=>
   intro L m a s hL hdc hun hD hH hG st h2 h3 h4
   have hA:∀i,i<all.size->L[i]?=some true:=by
    exact zws
   refine⟨?_,hdone L m a s hL hA hD hH hG st h2 h3 h4⟩
   refine qby.2 fun i hi=>?_
   have h:=((zbw hL).1 hi).1
   rw[hA i (by rw[<-hL];exact(qaj.1 h).1)]at h
   cases h
 | succ fuel ih=>
   intro L m a s hL hdc hun hD hH hG st h2 h3 h4
   refine⟨fun hr=>?_,fun i hi=>?_⟩
   ·refine hdone L m a s hL (fun i hi=>?_) hD hH hG st h2 h3 h4
    exact zwbi
   ·obtain⟨g1,g2⟩:=(zbw hL).1 hi
    have hil:i<all.size:=by rw[<-hL];exact(qaj.1 g1).1
    have ho:all[i]?=some all[i]:=qak hil
    generalize all[i]=o at ho
    have hcl:=zcc hdc 8 (zaP all i) g2
    have hlook:∀t u,(zaS (zaS env0 w++zbc all (V s) env0) (slotsOf all o)++(envA all (V s) (fun i=>L.getD i false) (List.range all.size)++env0)).look t=some u->
      (envA all (V s) (fun i=>L.getD i false) (List.range all.size)++env0).look t=some u:=by
     intro t u htu
     rw[zaR]at htu
     cases hpk:(zaS (zaS env0 w++zbc all (V s) env0) (slotsOf all o)).look t with
     | none=>rw[hpk]at htu;exact htu
     | some u'=>
       rw[hpk]at htu
       cases htu
       obtain⟨k1,k2⟩:=zdk _ _ _ _ hpk
       rw[zaR]at k2
       cases hwl:(zaS env0 w).look t with
       | some u1=>
         rw[hwl]at k2
         cases k2
         obtain⟨w1,w2⟩:=zdk _ _ _ _ hwl
         rw[zaR]
         have:(envA all (V s) (fun i=>L.getD i false) (List.range all.size)).look t=none:=by
          exact zwbp
         rw[this]
         exact w2
       | none=>
       rw[hwl]at k2
       have hwn:w.contains t=false:=by
        exact zwbg
       dsimp only at k2
       unfold zbc at k2
       rw[zaR]at k2⊢
       cases hq':(envA all (V s) (fun _=>true) (List.range all.size)).look t with
       | some u''=>
         rw[hq']at k2
         cases k2
         obtain⟨j,j1,_,j2,j3⟩:=zeB _ hq'
         have hj:=hcl j ((hcv i o t j ho k1 j2).2 hwn)
         rw[zbu hu (p:=fun i=>L.getD i false) (gT.2 hj) j2 j3 _ j1]
       | none=>
         rw[hq']at k2
         have:(envA all (V s) (fun i=>L.getD i false) (List.range all.size)).look t=none:=by
          refine zdh _ fun j hj _ hjd=>?_
          have hjl:j<all.size:=by simpa using hj
          have:=zbu (vs:=V s) hu (p:=fun _=>true) rfl hjd (qab (by rw[hvl];omega)) (List.range all.size) hj
          rw[this]at hq'
          cases hq'
         rw[this]
         exact k2
    have h3':ERel m n (zaS (zaS env0 w++zbc all (V s) env0) (slotsOf all o)++(envA all (V s) (fun i=>L.getD i false) (List.range all.size)++env0)) a.tmps:=h3.sub hlook
    have hset:∀j:Nat,(L.setIfInBounds i true)[j]?=if i=j then some true else L[j]? :=by
     exact zwev
    have hdf:D s i=false:=by
     rw[hD i]
     cases hb:L.getD i false with
     | false=>rfl
     | true=>have:=gT.1 hb;rw[g1]at this;cases this
    obtain⟨s1,v,d1,d2,d3,d4⟩:=hst s i o ho hdf (fun j hj=>by rw[hD j];exact gT.2 (hcl j hj)) (fun k hk j hj=>by
     rw[hD k]at hk
     rw[hD j]
     exact gT.2 (zcc hdc 8 (zaP all k) (hdc k (gT.1 hk)) j hj))
    refine zhV (K:=K) (hpan:=fun m' env' a' v ch s' hm' he' hd' hx hk=>⟨m',env',.panic v,rfl,st.trans s',hm',he',hd',hx,hk⟩) ho (d4 _) hH h2 h3' h4 ?_
    intro hgi m' a' hH1 s' h2' h3'' h4'
    refine ih (L.setIfInBounds i true) m' a' s1 (by simpa using hL) (zmu hL hdc hi) ?_ (fun j=>?_) hH1 (fun j hj=>by
      rw[hset]at hj
      split at hj
      ·rename_i e;subst e;exact hgi
      ·exact hG j hj) (st.trans s') h2' (h3''.sub fun t u htu=>?_) h4'
    ·exact zwv
    ·rw[d1 j,hD j]
     cases hb:(L.setIfInBounds i true).getD j false with
     | true=>
       have:=gT.1 hb
       rw[hset]at this
       split at this
       ·rename_i e;simp[e]
       ·rw[gT.2 this];rfl
     | false=>
       by_cases hij:i=j
       ·have:=hset j
        rw[if_pos hij]at this
        rw[gT.2 this]at hb;cases hb
       ·have h9:=hset j
        rw[if_neg hij]at h9
        cases hl:L.getD j false with
        | false=>simp[hij]
        | true=>
          rw[gT.1 hl]at h9
          rw[gT.2 h9]at hb;cases hb
    ·rw[zaR]at htu
     cases hq':(envA all (V s1) (fun x=>(L.setIfInBounds i true).getD x false) (List.range all.size)).look t with
     | some u'=>
       rw[hq']at htu
       cases htu
       obtain⟨j,j1,j0,j2,j3⟩:=zeB _ hq'
       have j0':=gT.1 j0
       rw[hset]at j0'
       by_cases hij:i=j
       ·subst hij
        rw[d3]at j3
        exact zwec
       ·rw[if_neg hij]at j0'
        have hne:zb9 all i≠some t:=fun e=>hij (hu i j t e j2)
        have e2:(envA all (V s) (fun i=>L.getD i false) (List.range all.size)++env0).look t=some u:=by
         rw[zaR,zbu hu (p:=fun i=>L.getD i false) (gT.2 j0') j2 (by rw[<-d2 j (by rw[hD j];exact gT.2 j0')];exact j3) _ j1]
        have e3:(zaS (zaS env0 w++zbc all (V s) env0) (slotsOf all o)++(envA all (V s) (fun i=>L.getD i false) (List.range all.size)++env0)).look t=some u:=by
         exact zwbj
        exact zwca
     | none=>
       rw[hq']at htu
       have hno:∀j,j<all.size->L[j]?=some true->zb9 all j≠some t:=by
        intro j hj hjt hjd
        have:=zbu (vs:=V s1) hu (p:=fun x=>(L.setIfInBounds i true).getD x false) (i:=j) (gT.2 (by rw[hset];split;rfl;exact hjt)) hjd (qab (by rw[hvl];omega)) (List.range all.size) (by simpa using hj)
        rw[this]at hq'
        cases hq'
       have hni:zb9 all i≠some t:=by
        intro hjd
        have:=zbu (vs:=V s1) hu (p:=fun x=>(L.setIfInBounds i true).getD x false) (i:=i) (gT.2 (by rw[hset,if_pos rfl])) hjd (qab (by rw[hvl];omega)) (List.range all.size) (by simpa using hil)
        rw[this]at hq'
        cases hq'
       have e2:(envA all (V s) (fun i=>L.getD i false) (List.range all.size)++env0).look t=some u:=by
        exact zwdf
       have e3:(zaS (zaS env0 w++zbc all (V s) env0) (slotsOf all o)++(envA all (V s) (fun i=>L.getD i false) (List.range all.size)++env0)).look t=some u:=by
        exact zwbj
       cases hdd:o.dst with
       | none=>exact e3
       | some d=>
         have:d≠t:=fun e=>hni (by unfold zb9;rw[ho];simp[hdd,e])
         rw[putE,Env.zaz _ _ this]
         exact e3
end rules
section rules
variable {P:Program}{all:Array Oper}
abbrev OneF (P:Program)(n:Nat)(K:TK)(g:Prop)(all:Array Oper)(full:Env)(o:Oper)(v:SV)(X Y:Heap):Prop:=∀env,TO false P n all [o] (zaS full (slotsOf all o)++env) X (NKP K g (putE o.dst v (zaS full (slotsOf all o)++env)) Y)
def zjd(P:Program)(n:Nat)(K:TK)(a b c d:Nat)(g:Prop)(all:Array Oper)(full:Env)(H0 H1 H2 HC HD HF:Heap):Nat->List Oper->List SV->Prop
 | _,[],[]=>True
 | i,o::l,v::t=>
   (bif Nat.beq i a then OneF P n K g all full o v H0 H1
   else bif Nat.beq i b then OneF P n K True all full o v H1 H2
   else bif Nat.beq i c then OneF P n K True all full o v H2 HC/\OneF P n K True all full o v HD HF
   else bif Nat.beq i d then OneF P n K True all full o v H2 HD/\OneF P n K True all full o v HC HF
   else bif Nat.blt i b then OneF P n K True all full o v H0 H0/\OneF P n K True all full o v H1 H1
   else OneF P n K True all full o v H2 H2/\OneF P n K True all full o v HC HC/\OneF P n K True all full o v HD HD/\OneF P n K True all full o v HF HF)
   /\ zjd P n K a b c d g all full H0 H1 H2 HC HD HF (i+1) l t
 | _,_,_=>False
theorem zjd.get{n:Nat}{K:TK}{a b c d:Nat}{g:Prop}{full:Env}{H0 H1 H2 HC HD HF:Heap}:∀ {l:List Oper} {t:List SV} {k:Nat},zjd P n K a b c d g all full H0 H1 H2 HC HD HF k l t->l.length=t.length/\∀(i:Nat) o v,l[i]?=some o->t[i]?=some v->
  (bif Nat.beq (k+i) a then OneF P n K g all full o v H0 H1
  else bif Nat.beq (k+i) b then OneF P n K True all full o v H1 H2
  else bif Nat.beq (k+i) c then OneF P n K True all full o v H2 HC/\OneF P n K True all full o v HD HF
  else bif Nat.beq (k+i) d then OneF P n K True all full o v H2 HD/\OneF P n K True all full o v HC HF
  else bif Nat.blt (k+i) b then OneF P n K True all full o v H0 H0/\OneF P n K True all full o v H1 H1
  else OneF P n K True all full o v H2 H2/\OneF P n K True all full o v HC HC/\OneF P n K True all full o v HD HD/\OneF P n K True all full o v HF HF)
 | [],[],k,_=>by simp
 | o::l,v::t,k,h=>by
   simp only[zjd]at h
   obtain⟨h1,h2⟩:=h
   obtain⟨g1,g2⟩:=zjd.get h2
   refine⟨by simp[g1],fun i o' v' ho hv=>?_⟩
   cases i with
   | zero=>
     simp at ho hv
     subst ho hv
     exact h1
   | succ i=>
     have:=g2 i o' v' (by simpa using ho) (by simpa using hv)
     rw[show k+1+i=k+(i+1) by omega]at this
     exact this
 | [],_::_,_,h=>by exact h.elim
 | _::_,[],_,h=>by exact h.elim
def midF(ops:Array Oper)(a b:Nat):Bool:=(Nat.blt a b && Nat.blt b ops.size) && (List.range ops.size).all fun i=>Nat.beq i b || (bif Nat.blt i b then(cov ops 8 (zaP ops b)).contains i else(cov ops 8 (zaP ops i)).contains b)
theorem zqw{x y:Nat}(h:x<y):Nat.blt x y=true:=by rw[qa3];exact h
theorem zqv{x y:Nat}(h:¬x<y):Nat.blt x y=false:=by
 cases hh:Nat.blt x y with
 | false=>rfl
 | true=>rw[qa3]at hh;exact absurd hh h
theorem TR.regionF(a b c d:Nat){g:Prop}{n:Nat}{env0 envF:Env}{H0 H1 H2 HC HD HF:Heap}{K:TK}{id':Nat}{l:List Oper}(t:List SV)(hm:P.follows .mixedOrders=true)
  (hB:(mixB l.toArray [] && midF l.toArray a b && (Nat.blt b c && Nat.blt c d && Nat.blt d l.length))=true)
  (hp:zjd P n K a b c d g l.toArray (zbc l.toArray t env0) H0 H1 H2 HC HD HF 0 l t)(hE:zbF (zbc l.toArray t env0)=some envF)(hK:g->K .normal envF HF):
  TR P n (.region id' l.toArray true) env0 H0 K:=by
 obtain⟨g1,g2⟩:=hp.get
 simp only[qat,qa3,midF]at hB
 obtain⟨⟨hB,⟨hab,hbl⟩,hL⟩,⟨hbc,hcd⟩,hdl⟩:=hB
 simp only[List.size_toArray]at hbl hL
 have hE':∀i,i<l.length->i<b->i∈cov l.toArray 8 (zaP l.toArray b):=fun i hi hlt=>by
  have:=qaw.1 hL i (by simpa using hi)
  rw[zqw hlt,cond_true,show Nat.beq i b=false from by cases h:Nat.beq i b with|false=>rfl|true=>exact absurd (qaI h) (by omega),qbz]at this
  simpa using this
 have hLt:∀i,i<l.length->b<i->b∈cov l.toArray 8 (zaP l.toArray i):=fun i hi hlt=>by
  have:=qaw.1 hL i (by simpa using hi)
  rw[zqv (show ¬i<b by omega),cond_false,show Nat.beq i b=false from by cases h:Nat.beq i b with|false=>rfl|true=>exact absurd (qaI h) (by omega),qbz]at this
  simpa using this
 have nb:∀ {x y:Nat},x≠y->Nat.beq x y=false:=fun{x y} h=>by cases hh:Nat.beq x y with|false=>rfl|true=>exact absurd (qaI hh) h
 intro φ m ac h1 h2 h3 h4
 have s0:Step m ⟨m.A,m.β,m.H,{ m.w with drawn:=m.w.drawn+1 }⟩/\HRel ⟨m.A,m.β,m.H,{ m.w with drawn:=m.w.drawn+1 }⟩:=zcN h2 ⟨rfl,rfl,rfl,qae _,fun _ _=>rfl⟩
 refine zbz (wpIn_region_any hm ?_)
 let S:(Nat->Bool)->Heap:=fun f=>bif f b then(bif f c then(bif f d then HF else HC) else(bif f d then HD else H2)) else(bif f a then H1 else H0)
 have hSe:∀(f:Nat->Bool) (x y z w:Bool),f b=x->f c=y->f d=z->f a=w->S f=bif x then(bif y then(bif z then HF else HC) else(bif z then HD else H2)) else(bif w then H1 else H0):=fun f x y z w h1 h2 h3 h4=>by subst h1 h2 h3 h4;rfl
 have hrep:∀i:Nat,(Array.replicate l.toArray.size false).getD i false=false:=fun i=>by
  exact zwfg
 refine zkd [] (env0:=env0) (σ:=Nat->Bool) (fun s=>s) S (fun _=>t) (G:=fun i=>bif Nat.beq i a then g else True) (m0:=m) (fun t ht=>by cases ht) hB (fun _=>by simp[g1]) (fun s i o ho hdi hcv hcl=>?_) (fun s hs hG=>?_) l.toArray.size (Array.replicate l.toArray.size false)
  ⟨m.A,m.β,m.H,{ m.w with drawn:=m.w.drawn+1 }⟩ ac (fun i=>(Array.replicate l.toArray.size false).getD i false) (by simp) ?_ ?_ (fun _=>rfl) ?_ (fun j h=>?_) s0.1 s0.2 ?_ (h4.step h2 s0.1)
 ·have hil:i<l.length:=by have:=(qaj.1 ho).1;simpa using this
  have hol:l[i]?=some o:=by simpa using ho
  have htl:t[i]?=some (t[i]'(by omega)):=qab (by omega)
  generalize t[i]'(by omega)=v at htl
  have hg:=g2 i o v hol htl
  rw[qaM]at hg
  refine⟨fun j=>s j || decide (i=j),v,fun j=>rfl,fun j _=>rfl,htl,?_⟩
  have hi':∀j,j≠i->(s j || decide (i=j))=s j:=fun j hj=>by simp[Ne.symm hj]
  have hii:(s i || decide (i=i))=true:=by simp
  have early:i≤b->s b=false->s c=false/\s d=false:=fun _ hb=>by
   refine⟨?_,?_⟩
   ·cases h:s c with
    | false=>rfl
    | true=>have:=hcl c h b (hLt c (by omega) hbc);rw[hb]at this;cases this
   ·cases h:s d with
    | false=>rfl
    | true=>have:=hcl d h b (hLt d (by omega) (by omega));rw[hb]at this;cases this
  by_cases hib:i<b
  ·have hsb:s b=false:=by
    cases h:s b with
    | false=>rfl
    | true=>have:=hcl b h i (hE' i hil hib);rw[hdi]at this;cases this
   obtain⟨hsc,hsd⟩:=early (by omega) hsb
   have f1:=hi' b (by omega)
   have f2:=hi' c (by omega)
   have f3:=hi' d (by omega)
   by_cases e1:i=a
   ·subst e1
    rw[qbg,cond_true]at hg
    rw[hSe s _ _ _ _ hsb hsc hsd hdi,hSe (fun j=>s j || decide (i=j)) _ _ _ _ (f1.trans hsb) (f2.trans hsc) (f3.trans hsd) hii]
    intro env
    have:=hg env
    simp only[cond_false,cond_true]
    rw[qbg,cond_true]
    exact this
   ·rw[nb e1,nb (show i≠b by omega),nb (show i≠c by omega),nb (show i≠d by omega),zqw hib]at hg
    simp only[cond_false,cond_true]at hg
    have f4:=hi' a (Ne.symm e1)
    rw[nb e1,cond_false]
    cases hsa:s a with
    | false=>
      rw[hSe s _ _ _ _ hsb hsc hsd hsa,hSe (fun j=>s j || decide (i=j)) _ _ _ _ (f1.trans hsb) (f2.trans hsc) (f3.trans hsd) (f4.trans hsa)]
      exact hg.1
    | true=>
      rw[hSe s _ _ _ _ hsb hsc hsd hsa,hSe (fun j=>s j || decide (i=j)) _ _ _ _ (f1.trans hsb) (f2.trans hsc) (f3.trans hsd) (f4.trans hsa)]
      exact hg.2
  have hia:i≠a:=by omega
  rw[nb hia]at hg
  rw[nb hia,cond_false]
  have f4:=hi' a (Ne.symm hia)
  by_cases e2:i=b
  ·subst e2
   rw[qbg]at hg
   simp only[cond_false,cond_true]at hg
   obtain⟨hsc,hsd⟩:=early (qae _) hdi
   have hsa:s a=true:=hcv a (hE' a (by omega) hab)
   rw[hSe s _ _ _ _ hdi hsc hsd hsa,hSe (fun j=>s j || decide (i=j)) _ _ _ _ hii ((hi' c (by omega)).trans hsc) ((hi' d (by omega)).trans hsd) (f4.trans hsa)]
   exact hg
  have hsb:s b=true:=hcv b (hLt i hil (by omega))
  have f1:=hi' b (Ne.symm e2)
  rw[nb e2]at hg
  by_cases e3:i=c
  ·subst e3
   rw[qbg]at hg
   simp only[cond_false,cond_true]at hg
   have f3:=hi' d (by omega)
   cases hsd:s d with
   | false=>
     rw[hSe s _ _ _ _ hsb hdi hsd rfl,hSe (fun j=>s j || decide (i=j)) _ _ _ _ (f1.trans hsb) hii (f3.trans hsd) rfl]
     exact hg.1
   | true=>
     rw[hSe s _ _ _ _ hsb hdi hsd rfl,hSe (fun j=>s j || decide (i=j)) _ _ _ _ (f1.trans hsb) hii (f3.trans hsd) rfl]
     exact hg.2
  have f2:=hi' c (Ne.symm e3)
  rw[nb e3]at hg
  by_cases e4:i=d
  ·subst e4
   rw[qbg]at hg
   simp only[cond_false,cond_true]at hg
   cases hsc:s c with
   | false=>
     rw[hSe s _ _ _ _ hsb hsc hdi rfl,hSe (fun j=>s j || decide (i=j)) _ _ _ _ (f1.trans hsb) (f2.trans hsc) hii rfl]
     exact hg.1
   | true=>
     rw[hSe s _ _ _ _ hsb hsc hdi rfl,hSe (fun j=>s j || decide (i=j)) _ _ _ _ (f1.trans hsb) (f2.trans hsc) hii rfl]
     exact hg.2
  have f3:=hi' d (Ne.symm e4)
  rw[nb e4,zqv hib]at hg
  simp only[cond_false]at hg
  obtain⟨q1,q2,q3,q4⟩:=hg
  cases hsc:s c <;> cases hsd:s d
  all_goals rw[hSe s _ _ _ _ hsb hsc hsd rfl,hSe (fun j=>s j || decide (i=j)) _ _ _ _ (f1.trans hsb) (f2.trans hsc) (f3.trans hsd) rfl]
  ·exact q1
  ·exact q3
  ·exact q2
  ·exact q4
 ·have hb:=hs b (by simpa using hbl)
  have hc:=hs c (by simp;omega)
  have hd:=hs d (by simpa using hdl)
  rw[<-zbf hE]
  rw[hSe s _ _ _ _ hb hc hd rfl]
  have:=hG a (by simp;omega)
  rw[qbg,cond_true]at this
  exact hK this
 ·exact zwfh
 ·exact zwcm
 ·simp only[S,hrep,cond_false]
  exact h1
 ·rw[qaP]at h
  split at h <;> cases h
 ·have:envA l.toArray t (fun i=>(Array.replicate l.toArray.size false).getD i false) (List.range l.toArray.size)=[]:=by
   have:∀x:List Nat,envA l.toArray t (fun i=>(Array.replicate l.toArray.size false).getD i false) x=[]:=by
    exact zwef
   exact this _
  rw[this,qbk]
  exact h3.step h2 s0.1
end rules
end Go.TL
namespace Go.Proofs.YtpfnfpaahefdaaaGreat
open Go Go.TL
attribute [local irreducible] TR TO Then zab RetK Sound zac Kf GG za2
attribute [local irreducible] zaV zdL
def exCs(l:List Ex):List T:=((l.map exT).map T.cells).flatten
theorem zkp(l:List Ex)(e:Ex):exCs (l++[e])=exCs l++exC e:=by simp[exCs,zao,T.cells]
theorem zeC:∀l:List Ex,(exCs l).length=l.length*6
 | []=>rfl
 | e::l=>by
   have:=zeC l
   unfold exCs at this⊢
   rw[qah,qah,qbb,qal,this,qac,zao]
   show 6+_=_
   omega
theorem zgA(cs z vs:List SV)(h:z.length=vs.length):splice (cs++z) cs.length vs=cs++vs:=by
 unfold splice
 rw[qch,qaZ (by rw[qal];omega),qaU]
theorem zpN{R:Rd}{f:Nat->PR Ex}(hf:∀i,i≤R.K.length->InR R.K.length (i+1) (f i))(hb:∀i,i≤R.K.length->InR R.K.length i (R.zcB f 3 i)){i:Nat}(h:i≤R.K.length):InR R.K.length (i+1) (R.node f i):=by
 unfold Rd.node
 refine(zea h).bind fun _ j h1 h2=>(zaQ _ h2).bind fun _ j h3 h4=>(zqL h4).bind fun _ j h5 h6=>(zaQ _ h6).bind fun _ j h7 h8=>(zeA _ _ h8).bind fun _ j h9 h10=>(zaQ _ h10).bind fun _ j h11 h12=>(zgj h12).bind fun _ j h13 h14=>(zfV hf _ _ _ h14).bind fun _ j h15 h16=>(zaQ _ h16).bind fun _ j h17 h18=>?_
 exact(hb _ h18).bind fun _ j h19 h20=>(zaQ _ h20).bind fun _ j h21 h22=>⟨by omega,h22⟩
theorem rgF(a b c d:Nat){g:Prop}{n:Nat}{env0 envF:Env}{H0 H1 H2 HC HD HF:Heap}{K:TK}{id':Nat}{l:List Oper}(t:List SV)
  (hp:zjd Tryz.prog n K a b c d g l.toArray (zbc l.toArray t env0) H0 H1 H2 HC HD HF 0 l t)(hK:g->K .normal envF HF)
  (hB:(mixB l.toArray [] && midF l.toArray a b && (Nat.blt b c && Nat.blt c d && Nat.blt d l.length))=true:=by decide +kernel)(hE:zbF (zbc l.toArray t env0)=some envF:=by exact rfl):
  TR Tryz.prog n (.region id' l.toArray true) env0 H0 K:=TR.regionF a b c d t hmix hB hp hE hK
abbrev zEx:List T:=[.v (.int .i64 0),.v (.int .i64 0),.v (.int .i64 0),.v (.int .i64 0),.v (str []),.v (.slice none 0 0)]
theorem zfr(A:Foot)(w:World):TRel A w (.ag zEx) (.agg #[.int .i64 0,.int .i64 0,.int .i64 0,.int .i64 0,str [],.slice none 0 0]):=by
 refine .ag zEx _ rfl (fun i y hy=>?_) (fun i c y hc hy=>?_)
 ·rcases i with _|_|_|_|_|_|i
  all_goals first|(simp at hy;subst hy;rfl)|(simp at hy)
 ·rcases i with _|_|_|_|_|_|i
  all_goals first|(simp at hc hy;subst hc hy;exact .v _)|(simp at hc)
theorem set5{a b c d e f:Blk}{X Y:List SV}(h:X=Y):List.set [a,b,c,d,e,f] 5 (.cells X)=[a,b,c,d,e,.cells Y]:=by subst h;rfl
abbrev nodB (s:Str)(a b d:T)(x y:SV):Blk:=.cells [.t (.v (str s)),.t a,.t b,.t d,.t (.v (.slice none 0 0)),.t (.v (.slice none 0 0)),x,y]
theorem zkG(s:Str)(a b d:T)(x y:SV)(r:Nat->Nat):(nodB s a b d x y).ren r=nodB s a b d (x.ren r) (y.ren r):=rfl
theorem zhc{s:Str}{a b d:T}{x y:SV}{k:Nat}(hx:x.under k=true)(hy:y.under k=true):(nodB s a b d x y).under k=true:=by
 show unders k _=true
 simp only[unders,SV.under,hx,hy,qba]
set_option maxHeartbeats 64000000 in
set_option maxRecDepth 20000 in
theorem zlI (l:List Tok) (n:Int) (es:List En) (i:Nat) (hk:TkOk l) (hes:EsOk es) (hi:i≤l.length):RdS l n es 42 [] i ((rdr l es).node (rdr l es).expr i) (.t (nodT (((rdr l es).node (rdr l es).expr i).vl noN))):=by
 have hl:=hk.len
 generalize hr:(rdr l es).node (rdr l es).expr i=r
 unfold Rd.node Rd.ins at hr
 refine Sound.err rfl (fun _=>rfl) ?_
 refine so Tryz.func42 ?_
 refine TR.dead ?_
 repeat' (first|refine zqn ?_|refine wk ?_|exact wkc|intro hc|refine wk2 ?_ ?_|fail)
 obtain⟨m1,m1i⟩:=idC l n es i hl hi
 cases qm1:(rdr l es).id i with
 | er ke c=>
   rw[qm1]at m1 m1i hr
   have hc0:=m1i.2
   replace m1:=m1.er
   try simp only[PR.vl]at m1
   simp only[PR.bind]at hr
   repeat' (first|refine zqn ?_|refine we m1 ?_ ?_|refine wk ?_|exact wkc|intro hc|refine wk2 ?_ ?_|fail)
   repeat' (first|refine zaV.panic ?_|refine wk ?_|fail)
   refine rdPX hr.symm hc0 ?_
   exact leB
 | ok s j1=>
 rw[qm1]at m1 m1i hr
 obtain⟨m1a,m1b⟩:=m1i
 replace m1:=m1.ok
 try simp only[PR.vl]at m1
 simp only[PR.bind]at hr
 repeat' (first|refine zqn ?_|refine we m1 ?_ ?_|refine wk ?_|exact wkc|intro hc|refine wk2 ?_ ?_|fail)
 obtain⟨m2,m2i⟩:=zbr l n es j1 [[40]] hl m1b (by decide)
 cases qm2:(rdr l es).must [[40]] j1 with
 | er ke c=>
   rw[qm2]at m2 m2i hr
   have hc0:=m2i.2
   replace m2:=m2.er
   try simp only[PR.vl]at m2
   simp only[PR.bind]at hr
   repeat' (first|refine zqn ?_|refine we m2 ?_ ?_|refine wk ?_|exact wkc|intro hc|refine wk2 ?_ ?_|fail)
   repeat' (first|refine zaV.panic ?_|refine wk ?_|fail)
   refine rdPX hr.symm hc0 ?_
   exact leB
 | ok u2 j2=>
 rw[qm2]at m2 m2i hr
 obtain⟨m2a,m2b⟩:=m2i
 replace m2:=m2.ok
 try simp only[PR.vl]at m2
 simp only[PR.bind]at hr
 repeat' (first|refine zqn ?_|refine we m2 ?_ ?_|refine wk ?_|exact wkc|intro hc|refine wk2 ?_ ?_|fail)
 have t1:=zaO l n es j2 [41] hl
 clear m1 m2
 cases h1:(rdr l es).isAt j2 [41] with
 | true=>
   have hlth1:=zam h1
   rw[zaf]at hlth1
   rw[h1]at t1
   rw[if_pos h1]at hr
   simp only[PR.bind]at hr
   obtain⟨a,ha⟩:∃a:List Decl,a=[]:=⟨_,rfl⟩
   obtain⟨jj,hjj⟩:∃jj,jj=j2:=⟨_,rfl⟩
   replace hr:(((rdr l es).must [[41],[114,101,116,117,114,110,115],[40]] jj).bind fun _ i=>((rdr l es).decls 64 false ((rdr l es).K.length+1) [] i).bind fun b i=>((rdr l es).must [[41]] i).bind fun _ i=>((rdr l es).locals i).bind fun d i=>((rdr l es).claims (rdr l es).expr (rdr l es).K.length [] [] i).bind fun ae i=>((rdr l es).must [[108,101,116]] i).bind fun _ i=>((rdr l es).zcB (rdr l es).expr 3 i).bind fun qa i=>((rdr l es).must [[116,101,108]] i).bind fun _ i=>(.ok ⟨s,a,b,d,qa.1,qa.2,ae.1,ae.2⟩ i:PR Nod))=r:=by rw[ha,hjj];exact hr
   repeat' (first|refine zqn ?_|refine wd t1 ?_|refine wk ?_|exact wkc|intro hc|refine wk2 ?_ ?_|fail)
   refine TO.zoU 2 1 (v':=.t (.sl 3 (a.map zag))) (by rw[ha];exact Le.nil 3) rfl rfl rfl ?_
   have hja:i≤jj:=by omega
   have hjb:jj≤l.length:=by omega
   subst hjj
   clear ha t1 h1 hlth1
   obtain⟨m4,m4i⟩:=zbr l n es jj [[41],[114,101,116,117,114,110,115],[40]] hl hjb (by decide)
   cases qm4:(rdr l es).must [[41],[114,101,116,117,114,110,115],[40]] jj with
   | er ke c=>
     rw[qm4]at m4 m4i hr
     have hc0:=m4i.2
     replace m4:=m4.er
     try simp only[PR.vl]at m4
     simp only[PR.bind]at hr
     repeat' (first|refine zqn ?_|refine we m4 ?_ ?_|refine wk ?_|exact wkc|intro hc|refine wk2 ?_ ?_|fail)
     repeat' (first|refine zaV.panic ?_|refine wk ?_|fail)
     refine rdPX hr.symm hc0 ?_
     exact leB
   | ok u4 j4=>
   rw[qm4]at m4 m4i hr
   obtain⟨m4a,m4b⟩:=m4i
   replace m4:=m4.ok
   try simp only[PR.vl]at m4
   simp only[PR.bind]at hr
   repeat' (first|refine zqn ?_|refine we m4 ?_ ?_|refine wk ?_|exact wkc|intro hc|refine wk2 ?_ ?_|fail)
   obtain⟨m5,m5i⟩:=zhC l n es j4 hk hes m4b 64 false (by decide)
   cases qm5:(rdr l es).decls 64 false ((rdr l es).K.length+1) [] j4 with
   | er ke c=>
     rw[qm5]at m5 m5i hr
     have hc0:=m5i.2
     replace m5:=m5.er
     try simp only[PR.vl]at m5
     simp only[PR.bind]at hr
     repeat' (first|refine zqn ?_|refine we m5 ?_ ?_|refine wk ?_|exact wkc|intro hc|refine wk2 ?_ ?_|fail)
     repeat' (first|refine zaV.panic ?_|refine wk ?_|fail)
     refine rdPX hr.symm hc0 ?_
     exact leB
   | ok b j5=>
   rw[qm5]at m5 m5i hr
   obtain⟨m5a,m5b⟩:=m5i
   replace m5:=m5.ok
   try simp only[PR.vl]at m5
   simp only[PR.bind]at hr
   repeat' (first|refine zqn ?_|refine we m5 ?_ ?_|refine wk ?_|exact wkc|intro hc|refine wk2 ?_ ?_|fail)
   obtain⟨m6,m6i⟩:=zbr l n es j5 [[41]] hl m5b (by decide)
   cases qm6:(rdr l es).must [[41]] j5 with
   | er ke c=>
     rw[qm6]at m6 m6i hr
     have hc0:=m6i.2
     replace m6:=m6.er
     try simp only[PR.vl]at m6
     simp only[PR.bind]at hr
     repeat' (first|refine zqn ?_|refine we m6 ?_ ?_|refine wk ?_|exact wkc|intro hc|refine wk2 ?_ ?_|fail)
     repeat' (first|refine zaV.panic ?_|refine wk ?_|fail)
     refine rdPX hr.symm hc0 ?_
     exact leB
   | ok u6 j6=>
   rw[qm6]at m6 m6i hr
   obtain⟨m6a,m6b⟩:=m6i
   replace m6:=m6.ok
   try simp only[PR.vl]at m6
   simp only[PR.bind]at hr
   repeat' (first|refine zqn ?_|refine we m6 ?_ ?_|refine wk ?_|exact wkc|intro hc|refine wk2 ?_ ?_|fail)
   obtain⟨m7,m7i⟩:=zjH l n es j6 hk hes m6b
   cases qm7:(rdr l es).locals j6 with
   | er ke c=>
     rw[qm7]at m7 m7i hr
     have hc0:=m7i.2
     replace m7:=m7.er
     try simp only[PR.vl]at m7
     simp only[PR.bind]at hr
     repeat' (first|refine zqn ?_|refine we m7 ?_ ?_|refine wk ?_|exact wkc|intro hc|refine wk2 ?_ ?_|fail)
     repeat' (first|refine zaV.panic ?_|refine wk ?_|fail)
     refine rdPX hr.symm hc0 ?_
     exact leB
   | ok dl j7=>
   rw[qm7]at m7 m7i hr
   obtain⟨m7a,m7b⟩:=m7i
   replace m7:=m7.ok
   try simp only[PR.vl]at m7
   simp only[PR.bind]at hr
   repeat' (first|refine zqn ?_|refine we m7 ?_ ?_|refine wk ?_|exact wkc|intro hc|refine wk2 ?_ ?_|fail)
   replace hr:(((rdr l es).claims (rdr l es).expr (rdr l es).K.length [] [] j7).bind fun ae i=>((rdr l es).must [[108,101,116]] i).bind fun _ i=>((rdr l es).zcB (rdr l es).expr 3 i).bind fun qa i=>((rdr l es).must [[116,101,108]] i).bind fun _ i=>(.ok ⟨s,a,b,dl,qa.1,qa.2,ae.1,ae.2⟩ i:PR Nod))=r:=hr
   clear m4 m5 m6 m7
   refine TR.zfH (ι:=Nat×Nat×List Ex×List Ex) (fun x=>i≤x.2.1/\x.2.1≤l.length/\l.length-x.2.1≤x.1/\x.2.2.1.length≤8/\x.2.2.2.length≤8/\(((rdr l es).claims (rdr l es).expr x.1 x.2.2.1 x.2.2.2 x.2.1).bind fun ae i=>((rdr l es).must [[108,101,116]] i).bind fun _ i=>((rdr l es).zcB (rdr l es).expr 3 i).bind fun qa i=>((rdr l es).must [[116,101,108]] i).bind fun _ i=>(.ok ⟨s,a,b,dl,qa.1,qa.2,ae.1,ae.2⟩ i:PR Nod))=r) (fun x=>l.length-x.2.1) (fun x=>[(0,.ref 0 0),(2,.ref 1 0),(3,.ref 2 0)]) (fun x=>[rdB l n es x.2.1,nodZ,nodB s (.sl 3 (a.map zag)) (.sl 3 (b.map zag)) (.sl 3 (dl.map zag)) (rowV 6 x.2.2.1.length 3) (rowV 6 x.2.2.2.length 4),rowB x.2.2.1.length ((exCs x.2.2.1).map .t),rowB x.2.2.2.length ((exCs x.2.2.2).map .t)]) ((rdr l es).K.length,j7,[],[])
    ⟨by show i≤j7;omega,m7b,by rw[zaf];show l.length-j7≤l.length;omega,by show 0≤8;omega,by show 0≤8;omega,hr⟩ ⟨rfl,rfl,rfl,trivial⟩ 2 rfl ?_
   clear hr
   rintro⟨m,j,xs,ys⟩ ⟨q1,q2,q3,q4,q5,hr⟩
   replace q1:i≤j:=q1
   replace q2:j≤l.length:=q2
   replace q3:l.length-j≤m:=q3
   replace q4:xs.length≤8:=q4
   replace q5:ys.length≤8:=q5
   replace hr:(((rdr l es).claims (rdr l es).expr m xs ys j).bind fun ae i=>((rdr l es).must [[108,101,116]] i).bind fun _ i=>((rdr l es).zcB (rdr l es).expr 3 i).bind fun qa i=>((rdr l es).must [[116,101,108]] i).bind fun _ i=>(.ok ⟨s,a,b,dl,qa.1,qa.2,ae.1,ae.2⟩ i:PR Nod))=r:=hr
   have hcx:((exCs xs).map SV.t).length=xs.length*6:=by rw[qad,zeC]
   have hcy:((exCs ys).map SV.t).length=ys.length*6:=by rw[qad,zeC]
   have t2:=zaO l n es j [97,115,115,117,109,101] hl
   have t3:=zaO l n es j [101,110,115,117,114,101] hl
   show TR _ _ _ [(0,.ref 0 0),(2,.ref 1 0),(3,.ref 2 0)] [rdB l n es j,nodZ,nodB s (.sl 3 (a.map zag)) (.sl 3 (b.map zag)) (.sl 3 (dl.map zag)) (rowV 6 xs.length 3) (rowV 6 ys.length 4),rowB xs.length ((exCs xs).map .t),rowB ys.length ((exCs ys).map .t)] _
   cases h2:(rdr l es).isAt j [97,115,115,117,109,101] with
   | true=>
     have hlth2:=zam h2
     rw[zaf]at hlth2
     rw[h2]at t2
     cases m with
     | zero=>exfalso;omega
     | succ m=>
     rw[Rd.claims,if_pos h2]at hr
     refine wk ?_
     repeat' (first|refine zqn ?_|refine wd t2 ?_|(apply TO.lenR zaa;(iterate 4 exact rfl))|refine wk ?_|exact wkc|intro hc|refine wk2 ?_ ?_|fail)
     obtain⟨m3,m3i⟩:=limC l n es j xs.length xs.length 8 hl q2 rfl
     cases qm3:limR xs.length 8 j with
     | er ke c=>
       rw[qm3]at m3 m3i hr
       have hc0:=m3i.2
       replace m3:=m3.er
       try simp only[PR.vl]at m3
       simp only[PR.bind]at hr
       repeat' (first|refine zqn ?_|refine we m3 ?_ ?_|refine wk ?_|exact wkc|intro hc|refine wk2 ?_ ?_|fail)
       repeat' (first|refine zaV.panic ?_|refine wk ?_|fail)
       refine rdPX hr.symm hc0 ?_
       exact leB
     | ok u3 j3=>
     rw[qm3]at m3 m3i hr
     obtain⟨m3a,m3b⟩:=m3i
     replace m3:=m3.ok
     try simp only[PR.vl]at m3
     simp only[PR.bind]at hr
     obtain⟨hlt4,rfl⟩:=zbh qm3
     repeat' (first|refine wkt ?_|refine zqn ?_|refine we m3 ?_ ?_|exact wkc|intro hc|refine wk2 ?_ ?_|fail)
     have hoff:(0+((xs.length:Nat):Int).toNat*6)+6≤((exCs xs).map SV.t++zEx.map SV.t).length:=by
      exact zwfk
     have hspl0:∀ec:List T,ec.length=6->splice ((exCs xs).map SV.t++zEx.map SV.t) (0+((xs.length:Nat):Int).toNat*6) (ec.map SV.t)=(exCs xs).map SV.t++ec.map SV.t:=fun ec he=>by
      exact zwbs
     obtain⟨m4,m4i⟩:=zeX l n es (j3+1) hk hes hlth2
     cases qm4:(rdr l es).expr (j3+1) with
     | er ke c=>
       rw[qm4]at m4 m4i hr
       have hc0:=m4i.2
       replace m4:=m4.er
       try simp only[PR.vl]at m4
       simp only[PR.bind]at hr
       have hspl:=hspl0 (exC noE) rfl
       refine rgF 4 7 9 11 (g:=False) (H1:=[rdB l n es (j3+1),nodZ,nodB s (.sl 3 (a.map zag)) (.sl 3 (b.map zag)) (.sl 3 (dl.map zag)) (rowV 6 xs.length 3) (rowV 6 ys.length 4),rowB xs.length ((exCs xs).map .t),rowB ys.length ((exCs ys).map .t)]) (H2:=[rdB l n es (j3+1),nodZ,nodB s (.sl 3 (a.map zag)) (.sl 3 (b.map zag)) (.sl 3 (dl.map zag)) (rowV 6 xs.length 3) (rowV 6 ys.length 4),.dead,rowB ys.length ((exCs ys).map .t),.cells ((exCs xs).map .t++zEx.map .t)]) (HC:=[rdB l n es (j3+1),nodZ,nodB s (.sl 3 (a.map zag)) (.sl 3 (b.map zag)) (.sl 3 (dl.map zag)) (rowV 6 xs.length 3) (rowV 6 ys.length 4),.dead,rowB ys.length ((exCs ys).map .t),.cells ((exCs xs).map .t++(exC noE).map .t)]) (HD:=[rdB l n es (j3+1),nodZ,nodB s (.sl 3 (a.map zag)) (.sl 3 (b.map zag)) (.sl 3 (dl.map zag)) (.ms 6 5 0 (xs.length+1)) (rowV 6 ys.length 4),.dead,rowB ys.length ((exCs ys).map .t),.cells ((exCs xs).map .t++zEx.map .t)]) (HF:=[rdB l n es (j3+1),nodZ,nodB s (.sl 3 (a.map zag)) (.sl 3 (b.map zag)) (.sl 3 (dl.map zag)) (.ms 6 5 0 (xs.length+1)) (rowV 6 ys.length 4),.dead,rowB ys.length ((exCs ys).map .t),.cells ((exCs xs).map .t++(exC noE).map .t)]) [.ref 2 6,.ref 2 6,rowV 6 xs.length 3,.ref 0 0,.t (.ag (exC noE)),.i xs.length,.t (.sl 6 [.ag zEx]),.ms 6 5 0 (xs.length+1),.ref 5 (0+((xs.length:Nat):Int).toNat*6),.t (.v undef),.ref 2 6,.t (.v undef)] ?_ (fun h=>h.elim)
       repeat' (first|exact trivial|exact⟨⟨rfl,rfl⟩,trivial⟩|refine qai (fun env=>?_) ?_|refine qai ?_ ?_|refine fun(env:Env)=>?_|refine zqn ?_|refine we m4 ?_ ?_|(apply TO.lenR zaa;(iterate 4 exact rfl))|(apply TO.zcm zaa;(iterate 5 exact rfl);exact zfr;(iterate 3 exact rfl))|(apply TO.zc7 zaa;(iterate 10 exact rfl);exact hcx;exact rfl;exact rfl;exact leB;exact rfl;(simp only[qac,qaf];omega);exact rfl)|refine zqi ?_|refine zqd ?_|refine wk ?_|exact wkc|intro hc|refine wk2 ?_ ?_|fail)
       repeat' (first|refine zaV.panic ?_|refine wk ?_|fail)
       refine rdPX hr.symm hc0 ?_
       exact leB
     | ok e k=>
     rw[qm4]at m4 m4i hr
     obtain⟨m4a,m4b⟩:=m4i
     replace m4:=m4.ok
     try simp only[PR.vl]at m4
     simp only[PR.bind]at hr
     rw[zao e]at m4
     have hspl:=hspl0 (exC e) rfl
     refine rgF 4 7 9 11 (g:=True) (H1:=[rdB l n es k,nodZ,nodB s (.sl 3 (a.map zag)) (.sl 3 (b.map zag)) (.sl 3 (dl.map zag)) (rowV 6 xs.length 3) (rowV 6 ys.length 4),rowB xs.length ((exCs xs).map .t),rowB ys.length ((exCs ys).map .t)]) (H2:=[rdB l n es k,nodZ,nodB s (.sl 3 (a.map zag)) (.sl 3 (b.map zag)) (.sl 3 (dl.map zag)) (rowV 6 xs.length 3) (rowV 6 ys.length 4),.dead,rowB ys.length ((exCs ys).map .t),.cells ((exCs xs).map .t++zEx.map .t)]) (HC:=[rdB l n es k,nodZ,nodB s (.sl 3 (a.map zag)) (.sl 3 (b.map zag)) (.sl 3 (dl.map zag)) (rowV 6 xs.length 3) (rowV 6 ys.length 4),.dead,rowB ys.length ((exCs ys).map .t),.cells ((exCs xs).map .t++(exC e).map .t)]) (HD:=[rdB l n es k,nodZ,nodB s (.sl 3 (a.map zag)) (.sl 3 (b.map zag)) (.sl 3 (dl.map zag)) (.ms 6 5 0 (xs.length+1)) (rowV 6 ys.length 4),.dead,rowB ys.length ((exCs ys).map .t),.cells ((exCs xs).map .t++zEx.map .t)]) (HF:=[rdB l n es k,nodZ,nodB s (.sl 3 (a.map zag)) (.sl 3 (b.map zag)) (.sl 3 (dl.map zag)) (.ms 6 5 0 (xs.length+1)) (rowV 6 ys.length 4),.dead,rowB ys.length ((exCs ys).map .t),.cells ((exCs xs).map .t++(exC e).map .t)]) [.ref 2 6,.ref 2 6,rowV 6 xs.length 3,.ref 0 0,.t (.ag (exC e)),.i xs.length,.t (.sl 6 [.ag zEx]),.ms 6 5 0 (xs.length+1),.ref 5 (0+((xs.length:Nat):Int).toNat*6),.t (.v undef),.ref 2 6,.t (.v undef)] ?_ (fun _=>?_)
     ·repeat' (first|exact trivial|exact⟨⟨rfl,rfl⟩,trivial⟩|refine qai (fun env=>?_) ?_|refine qai ?_ ?_|refine fun(env:Env)=>?_|refine zqn ?_|refine we m4 ?_ ?_|(apply TO.lenR zaa;(iterate 4 exact rfl))|(apply TO.zcm zaa;(iterate 5 exact rfl);exact zfr;(iterate 3 exact rfl))|(apply TO.zc7 zaa;(iterate 10 exact rfl);exact hcx;exact rfl;exact rfl;exact leB;exact rfl;(simp only[qac,qaf];omega);exact rfl)|refine zqi ?_|refine zqd ?_|refine wk ?_|exact wkc|intro hc|refine wk2 ?_ ?_|fail)
      done
     obtain⟨m13,m13i⟩:=zbr l n es k [[59]] hl m4b (by decide)
     cases qm13:(rdr l es).must [[59]] k with
     | er ke c=>
       rw[qm13]at m13 m13i hr
       have hc0:=m13i.2
       replace m13:=m13.er
       try simp only[PR.vl]at m13
       simp only[PR.bind]at hr
       repeat' (first|refine zqn ?_|refine we m13 ?_ ?_|refine wk ?_|exact wkc|intro hc|refine wk2 ?_ ?_|fail)
       repeat' (first|refine zaV.panic ?_|refine wk ?_|fail)
       refine rdPX hr.symm hc0 ?_
       exact leB
     | ok u13 j13=>
     rw[qm13]at m13 m13i hr
     obtain⟨m13a,m13b⟩:=m13i
     replace m13:=m13.ok
     try simp only[PR.vl]at m13
     simp only[PR.bind]at hr
     repeat' (first|refine zqn ?_|refine we m13 ?_ ?_|refine wk ?_|exact wkc|intro hc|refine wk2 ?_ ?_|fail)
     have hxl:(xs++[e]).length=xs.length+1:=by rw[qal];rfl
     refine zaV.next (m,j13,(xs++[e]),ys) [0,1,2,5,4] ⟨?_,m13b,?_,?_,?_,hr⟩ ?_ (Hands.ofF (by decide) ⟨rfl,rfl,?_,?_,?_,trivial⟩ ?_) (leB) ?_ rfl ⟨⟨_,rfl,Le.refl _⟩,⟨_,rfl,Le.refl _⟩,⟨_,rfl,Le.refl _⟩,trivial⟩
     ·show i≤j13;omega
     ·show l.length-j13≤m;omega
     ·show(xs++[e]).length≤8;omega
     ·show ys.length≤8;omega
     ·show l.length-j13<l.length-j3;omega
     ·exact zwq
     ·exact zwci
     ·exact zwfc
     ·exact zwi
     ·exact zwer
   | false=>
   rw[h2]at t2
   cases h3:(rdr l es).isAt j [101,110,115,117,114,101] with
   | true=>
     have hlth3:=zam h3
     rw[zaf]at hlth3
     rw[h3]at t3
     cases m with
     | zero=>exfalso;omega
     | succ m=>
     rw[Rd.claims,if_neg (by rw[h2];decide),if_pos h3]at hr
     refine wk ?_
     repeat' (first|refine zqn ?_|refine wd t2 ?_|refine wd t3 ?_|(apply TO.lenR zaa;(iterate 4 exact rfl))|refine wk ?_|exact wkc|intro hc|refine wk2 ?_ ?_|fail)
     obtain⟨m3,m3i⟩:=limC l n es j ys.length ys.length 8 hl q2 rfl
     cases qm3:limR ys.length 8 j with
     | er ke c=>
       rw[qm3]at m3 m3i hr
       have hc0:=m3i.2
       replace m3:=m3.er
       try simp only[PR.vl]at m3
       simp only[PR.bind]at hr
       repeat' (first|refine zqn ?_|refine we m3 ?_ ?_|refine wk ?_|exact wkc|intro hc|refine wk2 ?_ ?_|fail)
       repeat' (first|refine zaV.panic ?_|refine wk ?_|fail)
       refine rdPX hr.symm hc0 ?_
       exact leB
     | ok u3 j3=>
     rw[qm3]at m3 m3i hr
     obtain⟨m3a,m3b⟩:=m3i
     replace m3:=m3.ok
     try simp only[PR.vl]at m3
     simp only[PR.bind]at hr
     obtain⟨hlt4,rfl⟩:=zbh qm3
     repeat' (first|refine wkt ?_|refine zqn ?_|refine we m3 ?_ ?_|exact wkc|intro hc|refine wk2 ?_ ?_|fail)
     have hoff:(0+((ys.length:Nat):Int).toNat*6)+6≤((exCs ys).map SV.t++zEx.map SV.t).length:=by
      exact zwfl
     have hspl0:∀ec:List T,ec.length=6->splice ((exCs ys).map SV.t++zEx.map SV.t) (0+((ys.length:Nat):Int).toNat*6) (ec.map SV.t)=(exCs ys).map SV.t++ec.map SV.t:=fun ec he=>by
      exact zwbt
     obtain⟨m4,m4i⟩:=zeX l n es (j3+1) hk hes hlth3
     cases qm4:(rdr l es).expr (j3+1) with
     | er ke c=>
       rw[qm4]at m4 m4i hr
       have hc0:=m4i.2
       replace m4:=m4.er
       try simp only[PR.vl]at m4
       simp only[PR.bind]at hr
       have hspl:=hspl0 (exC noE) rfl
       refine rgF 4 7 9 11 (g:=False) (H1:=[rdB l n es (j3+1),nodZ,nodB s (.sl 3 (a.map zag)) (.sl 3 (b.map zag)) (.sl 3 (dl.map zag)) (rowV 6 xs.length 3) (rowV 6 ys.length 4),rowB xs.length ((exCs xs).map .t),rowB ys.length ((exCs ys).map .t)]) (H2:=[rdB l n es (j3+1),nodZ,nodB s (.sl 3 (a.map zag)) (.sl 3 (b.map zag)) (.sl 3 (dl.map zag)) (rowV 6 xs.length 3) (rowV 6 ys.length 4),rowB xs.length ((exCs xs).map .t),.dead,.cells ((exCs ys).map .t++zEx.map .t)]) (HC:=[rdB l n es (j3+1),nodZ,nodB s (.sl 3 (a.map zag)) (.sl 3 (b.map zag)) (.sl 3 (dl.map zag)) (rowV 6 xs.length 3) (rowV 6 ys.length 4),rowB xs.length ((exCs xs).map .t),.dead,.cells ((exCs ys).map .t++(exC noE).map .t)]) (HD:=[rdB l n es (j3+1),nodZ,nodB s (.sl 3 (a.map zag)) (.sl 3 (b.map zag)) (.sl 3 (dl.map zag)) (rowV 6 xs.length 3) (.ms 6 5 0 (ys.length+1)),rowB xs.length ((exCs xs).map .t),.dead,.cells ((exCs ys).map .t++zEx.map .t)]) (HF:=[rdB l n es (j3+1),nodZ,nodB s (.sl 3 (a.map zag)) (.sl 3 (b.map zag)) (.sl 3 (dl.map zag)) (rowV 6 xs.length 3) (.ms 6 5 0 (ys.length+1)),rowB xs.length ((exCs xs).map .t),.dead,.cells ((exCs ys).map .t++(exC noE).map .t)]) [.ref 2 7,.ref 2 7,rowV 6 ys.length 4,.ref 0 0,.t (.ag (exC noE)),.i ys.length,.t (.sl 6 [.ag zEx]),.ms 6 5 0 (ys.length+1),.ref 5 (0+((ys.length:Nat):Int).toNat*6),.t (.v undef),.ref 2 7,.t (.v undef)] ?_ (fun h=>h.elim)
       repeat' (first|exact trivial|exact⟨⟨rfl,rfl⟩,trivial⟩|refine qai (fun env=>?_) ?_|refine qai ?_ ?_|refine fun(env:Env)=>?_|refine zqn ?_|refine we m4 ?_ ?_|(apply TO.lenR zaa;(iterate 4 exact rfl))|(apply TO.zcm zaa;(iterate 5 exact rfl);exact zfr;(iterate 3 exact rfl))|(apply TO.zc7 zaa;(iterate 10 exact rfl);exact hcy;exact rfl;exact rfl;exact leB;exact rfl;(simp only[qac,qaf];omega);exact rfl)|refine zqi ?_|refine zqd ?_|refine wk ?_|exact wkc|intro hc|refine wk2 ?_ ?_|fail)
       repeat' (first|refine zaV.panic ?_|refine wk ?_|fail)
       refine rdPX hr.symm hc0 ?_
       exact leB
     | ok e k=>
     rw[qm4]at m4 m4i hr
     obtain⟨m4a,m4b⟩:=m4i
     replace m4:=m4.ok
     try simp only[PR.vl]at m4
     simp only[PR.bind]at hr
     rw[zao e]at m4
     have hspl:=hspl0 (exC e) rfl
     refine rgF 4 7 9 11 (g:=True) (H1:=[rdB l n es k,nodZ,nodB s (.sl 3 (a.map zag)) (.sl 3 (b.map zag)) (.sl 3 (dl.map zag)) (rowV 6 xs.length 3) (rowV 6 ys.length 4),rowB xs.length ((exCs xs).map .t),rowB ys.length ((exCs ys).map .t)]) (H2:=[rdB l n es k,nodZ,nodB s (.sl 3 (a.map zag)) (.sl 3 (b.map zag)) (.sl 3 (dl.map zag)) (rowV 6 xs.length 3) (rowV 6 ys.length 4),rowB xs.length ((exCs xs).map .t),.dead,.cells ((exCs ys).map .t++zEx.map .t)]) (HC:=[rdB l n es k,nodZ,nodB s (.sl 3 (a.map zag)) (.sl 3 (b.map zag)) (.sl 3 (dl.map zag)) (rowV 6 xs.length 3) (rowV 6 ys.length 4),rowB xs.length ((exCs xs).map .t),.dead,.cells ((exCs ys).map .t++(exC e).map .t)]) (HD:=[rdB l n es k,nodZ,nodB s (.sl 3 (a.map zag)) (.sl 3 (b.map zag)) (.sl 3 (dl.map zag)) (rowV 6 xs.length 3) (.ms 6 5 0 (ys.length+1)),rowB xs.length ((exCs xs).map .t),.dead,.cells ((exCs ys).map .t++zEx.map .t)]) (HF:=[rdB l n es k,nodZ,nodB s (.sl 3 (a.map zag)) (.sl 3 (b.map zag)) (.sl 3 (dl.map zag)) (rowV 6 xs.length 3) (.ms 6 5 0 (ys.length+1)),rowB xs.length ((exCs xs).map .t),.dead,.cells ((exCs ys).map .t++(exC e).map .t)]) [.ref 2 7,.ref 2 7,rowV 6 ys.length 4,.ref 0 0,.t (.ag (exC e)),.i ys.length,.t (.sl 6 [.ag zEx]),.ms 6 5 0 (ys.length+1),.ref 5 (0+((ys.length:Nat):Int).toNat*6),.t (.v undef),.ref 2 7,.t (.v undef)] ?_ (fun _=>?_)
     ·repeat' (first|exact trivial|exact⟨⟨rfl,rfl⟩,trivial⟩|refine qai (fun env=>?_) ?_|refine qai ?_ ?_|refine fun(env:Env)=>?_|refine zqn ?_|refine we m4 ?_ ?_|(apply TO.lenR zaa;(iterate 4 exact rfl))|(apply TO.zcm zaa;(iterate 5 exact rfl);exact zfr;(iterate 3 exact rfl))|(apply TO.zc7 zaa;(iterate 10 exact rfl);exact hcy;exact rfl;exact rfl;exact leB;exact rfl;(simp only[qac,qaf];omega);exact rfl)|refine zqi ?_|refine zqd ?_|refine wk ?_|exact wkc|intro hc|refine wk2 ?_ ?_|fail)
      done
     obtain⟨m13,m13i⟩:=zbr l n es k [[59]] hl m4b (by decide)
     cases qm13:(rdr l es).must [[59]] k with
     | er ke c=>
       rw[qm13]at m13 m13i hr
       have hc0:=m13i.2
       replace m13:=m13.er
       try simp only[PR.vl]at m13
       simp only[PR.bind]at hr
       repeat' (first|refine zqn ?_|refine we m13 ?_ ?_|refine wk ?_|exact wkc|intro hc|refine wk2 ?_ ?_|fail)
       repeat' (first|refine zaV.panic ?_|refine wk ?_|fail)
       refine rdPX hr.symm hc0 ?_
       exact leB
     | ok u13 j13=>
     rw[qm13]at m13 m13i hr
     obtain⟨m13a,m13b⟩:=m13i
     replace m13:=m13.ok
     try simp only[PR.vl]at m13
     simp only[PR.bind]at hr
     repeat' (first|refine zqn ?_|refine we m13 ?_ ?_|refine wk ?_|exact wkc|intro hc|refine wk2 ?_ ?_|fail)
     have hxl:(ys++[e]).length=ys.length+1:=by rw[qal];rfl
     refine zaV.next (m,j13,xs,(ys++[e])) [0,1,2,3,5] ⟨?_,m13b,?_,?_,?_,hr⟩ ?_ (Hands.ofF (by decide) ⟨rfl,rfl,?_,?_,?_,trivial⟩ ?_) (leB) ?_ rfl ⟨⟨_,rfl,Le.refl _⟩,⟨_,rfl,Le.refl _⟩,⟨_,rfl,Le.refl _⟩,trivial⟩
     ·show i≤j13;omega
     ·show l.length-j13≤m;omega
     ·show xs.length≤8;omega
     ·show(ys++[e]).length≤8;omega
     ·show l.length-j13<l.length-j3;omega
     ·exact zwr
     ·exact zwfb
     ·exact zwcj
     ·exact zwj
     ·exact zwer
   | false=>
   rw[h3]at t3
   rw[zfW h2 h3]at hr
   simp only[PR.bind]at hr
   refine wk ?_
   repeat' (first|refine zqn ?_|refine wd t2 ?_|refine wd t3 ?_|refine zaV.exit ?_|refine wk ?_|exact wkc|intro hc|refine wk2 ?_ ?_|fail)
   refine TO.zeZ 2 6 6 3 xs.length (ts:=exCs xs) (es:=xs.map exT) (by decide) rfl rfl rfl rfl (by rw[qad]) (fun e he=>by obtain⟨q,_,rfl⟩:=qa2.1 he;rw[zao];rfl) rfl rfl ?_
   refine TO.zeZ 2 7 6 4 ys.length (ts:=exCs ys) (es:=ys.map exT) (by decide) rfl rfl rfl rfl (by rw[qad]) (fun e he=>by obtain⟨q,_,rfl⟩:=qa2.1 he;rw[zao];rfl) rfl rfl ?_
   obtain⟨m8,m8i⟩:=zbr l n es j [[108,101,116]] hl q2 (by decide)
   cases qm8:(rdr l es).must [[108,101,116]] j with
   | er ke c=>
     rw[qm8]at m8 m8i hr
     have hc0:=m8i.2
     replace m8:=m8.er
     try simp only[PR.vl]at m8
     simp only[PR.bind]at hr
     repeat' (first|refine zqn ?_|refine we m8 ?_ ?_|refine wk ?_|exact wkc|intro hc|refine wk2 ?_ ?_|fail)
     repeat' (first|refine zaV.panic ?_|refine wk ?_|fail)
     refine rdPX hr.symm hc0 ?_
     exact leB
   | ok u8 j8=>
   rw[qm8]at m8 m8i hr
   obtain⟨m8a,m8b⟩:=m8i
   replace m8:=m8.ok
   try simp only[PR.vl]at m8
   simp only[PR.bind]at hr
   repeat' (first|refine zqn ?_|refine we m8 ?_ ?_|refine wk ?_|exact wkc|intro hc|refine wk2 ?_ ?_|fail)
   obtain⟨m9,m9i⟩:=zfz l n es hk hes 3 0 rfl j8 m8b
   cases qm9:(rdr l es).zcB (rdr l es).expr 3 j8 with
   | er ke c=>
     rw[qm9]at m9 m9i hr
     have hc0:=m9i.2
     replace m9:=m9.er
     try simp only[PR.vl]at m9
     simp only[PR.bind]at hr
     repeat' (first|refine zqn ?_|refine we m9 ?_ ?_|refine wk ?_|exact wkc|intro hc|refine wk2 ?_ ?_|fail)
     repeat' (first|refine zaV.panic ?_|refine wk ?_|fail)
     refine rdPX hr.symm hc0 ?_
     exact leB
   | ok qa j9=>
   rw[qm9]at m9 m9i hr
   obtain⟨m9a,m9b⟩:=m9i
   replace m9:=m9.ok
   try simp only[PR.vl]at m9
   simp only[PR.bind]at hr
   repeat' (first|refine zqn ?_|refine we m9 ?_ ?_|refine wk ?_|exact wkc|intro hc|refine wk2 ?_ ?_|fail)
   obtain⟨m10,m10i⟩:=zbr l n es j9 [[116,101,108]] hl m9b (by decide)
   cases qm10:(rdr l es).must [[116,101,108]] j9 with
   | er ke c=>
     rw[qm10]at m10 m10i hr
     have hc0:=m10i.2
     replace m10:=m10.er
     try simp only[PR.vl]at m10
     simp only[PR.bind]at hr
     repeat' (first|refine zqn ?_|refine we m10 ?_ ?_|refine wk ?_|exact wkc|intro hc|refine wk2 ?_ ?_|fail)
     repeat' (first|refine zaV.panic ?_|refine wk ?_|fail)
     refine rdPX hr.symm hc0 ?_
     exact leB
   | ok u10 j10=>
   rw[qm10]at m10 m10i hr
   obtain⟨m10a,m10b⟩:=m10i
   replace m10:=m10.ok
   try simp only[PR.vl]at m10
   simp only[PR.bind]at hr
   repeat' (first|refine zqn ?_|refine we m10 ?_ ?_|refine wk ?_|exact wkc|intro hc|refine wk2 ?_ ?_|fail)
   refine zdL.ret ?_
   apply rdV hr.symm
   ·exact rfl
   ·rw[<-hr,vlE]
    unfold nodT
    simp only
    exact zqa
   all_goals exact rfl
 | false=>
 rw[h1]at t1
 rw[if_neg (by rw[h1];decide)]at hr
 repeat' (first|refine zqn ?_|refine wd t1 ?_|refine wk ?_|exact wkc|intro hc|refine wk2 ?_ ?_|fail)
 obtain⟨m3,m3i⟩:=zhC l n es j2 hk hes m2b 64 false (by decide)
 cases qm3:(rdr l es).decls 64 false ((rdr l es).K.length+1) [] j2 with
 | er ke c=>
   rw[qm3]at m3 m3i hr
   have hc0:=m3i.2
   replace m3:=m3.er
   try simp only[PR.vl]at m3
   simp only[PR.bind]at hr
   repeat' (first|refine zqn ?_|refine we m3 ?_ ?_|refine wk ?_|exact wkc|intro hc|refine wk2 ?_ ?_|fail)
   repeat' (first|refine zaV.panic ?_|refine wk ?_|fail)
   refine rdPX hr.symm hc0 ?_
   exact leB
 | ok a jj=>
 rw[qm3]at m3 m3i hr
 obtain⟨m3a,m3b⟩:=m3i
 replace m3:=m3.ok
 try simp only[PR.vl]at m3
 simp only[PR.bind]at hr
 repeat' (first|refine zqn ?_|refine we m3 ?_ ?_|refine wk ?_|exact wkc|intro hc|refine wk2 ?_ ?_|fail)
 replace hr:(((rdr l es).must [[41],[114,101,116,117,114,110,115],[40]] jj).bind fun _ i=>((rdr l es).decls 64 false ((rdr l es).K.length+1) [] i).bind fun b i=>((rdr l es).must [[41]] i).bind fun _ i=>((rdr l es).locals i).bind fun d i=>((rdr l es).claims (rdr l es).expr (rdr l es).K.length [] [] i).bind fun ae i=>((rdr l es).must [[108,101,116]] i).bind fun _ i=>((rdr l es).zcB (rdr l es).expr 3 i).bind fun qa i=>((rdr l es).must [[116,101,108]] i).bind fun _ i=>(.ok ⟨s,a,b,d,qa.1,qa.2,ae.1,ae.2⟩ i:PR Nod))=r:=hr
 have hja:i≤jj:=by omega
 have hjb:jj≤l.length:=by omega
 clear m3
 obtain⟨m4,m4i⟩:=zbr l n es jj [[41],[114,101,116,117,114,110,115],[40]] hl hjb (by decide)
 cases qm4:(rdr l es).must [[41],[114,101,116,117,114,110,115],[40]] jj with
 | er ke c=>
   rw[qm4]at m4 m4i hr
   have hc0:=m4i.2
   replace m4:=m4.er
   try simp only[PR.vl]at m4
   simp only[PR.bind]at hr
   repeat' (first|refine zqn ?_|refine we m4 ?_ ?_|refine wk ?_|exact wkc|intro hc|refine wk2 ?_ ?_|fail)
   repeat' (first|refine zaV.panic ?_|refine wk ?_|fail)
   refine rdPX hr.symm hc0 ?_
   exact leB
 | ok u4 j4=>
 rw[qm4]at m4 m4i hr
 obtain⟨m4a,m4b⟩:=m4i
 replace m4:=m4.ok
 try simp only[PR.vl]at m4
 simp only[PR.bind]at hr
 repeat' (first|refine zqn ?_|refine we m4 ?_ ?_|refine wk ?_|exact wkc|intro hc|refine wk2 ?_ ?_|fail)
 obtain⟨m5,m5i⟩:=zhC l n es j4 hk hes m4b 64 false (by decide)
 cases qm5:(rdr l es).decls 64 false ((rdr l es).K.length+1) [] j4 with
 | er ke c=>
   rw[qm5]at m5 m5i hr
   have hc0:=m5i.2
   replace m5:=m5.er
   try simp only[PR.vl]at m5
   simp only[PR.bind]at hr
   repeat' (first|refine zqn ?_|refine we m5 ?_ ?_|refine wk ?_|exact wkc|intro hc|refine wk2 ?_ ?_|fail)
   repeat' (first|refine zaV.panic ?_|refine wk ?_|fail)
   refine rdPX hr.symm hc0 ?_
   exact leB
 | ok b j5=>
 rw[qm5]at m5 m5i hr
 obtain⟨m5a,m5b⟩:=m5i
 replace m5:=m5.ok
 try simp only[PR.vl]at m5
 simp only[PR.bind]at hr
 repeat' (first|refine zqn ?_|refine we m5 ?_ ?_|refine wk ?_|exact wkc|intro hc|refine wk2 ?_ ?_|fail)
 obtain⟨m6,m6i⟩:=zbr l n es j5 [[41]] hl m5b (by decide)
 cases qm6:(rdr l es).must [[41]] j5 with
 | er ke c=>
   rw[qm6]at m6 m6i hr
   have hc0:=m6i.2
   replace m6:=m6.er
   try simp only[PR.vl]at m6
   simp only[PR.bind]at hr
   repeat' (first|refine zqn ?_|refine we m6 ?_ ?_|refine wk ?_|exact wkc|intro hc|refine wk2 ?_ ?_|fail)
   repeat' (first|refine zaV.panic ?_|refine wk ?_|fail)
   refine rdPX hr.symm hc0 ?_
   exact leB
 | ok u6 j6=>
 rw[qm6]at m6 m6i hr
 obtain⟨m6a,m6b⟩:=m6i
 replace m6:=m6.ok
 try simp only[PR.vl]at m6
 simp only[PR.bind]at hr
 repeat' (first|refine zqn ?_|refine we m6 ?_ ?_|refine wk ?_|exact wkc|intro hc|refine wk2 ?_ ?_|fail)
 obtain⟨m7,m7i⟩:=zjH l n es j6 hk hes m6b
 cases qm7:(rdr l es).locals j6 with
 | er ke c=>
   rw[qm7]at m7 m7i hr
   have hc0:=m7i.2
   replace m7:=m7.er
   try simp only[PR.vl]at m7
   simp only[PR.bind]at hr
   repeat' (first|refine zqn ?_|refine we m7 ?_ ?_|refine wk ?_|exact wkc|intro hc|refine wk2 ?_ ?_|fail)
   repeat' (first|refine zaV.panic ?_|refine wk ?_|fail)
   refine rdPX hr.symm hc0 ?_
   exact leB
 | ok dl j7=>
 rw[qm7]at m7 m7i hr
 obtain⟨m7a,m7b⟩:=m7i
 replace m7:=m7.ok
 try simp only[PR.vl]at m7
 simp only[PR.bind]at hr
 repeat' (first|refine zqn ?_|refine we m7 ?_ ?_|refine wk ?_|exact wkc|intro hc|refine wk2 ?_ ?_|fail)
 replace hr:(((rdr l es).claims (rdr l es).expr (rdr l es).K.length [] [] j7).bind fun ae i=>((rdr l es).must [[108,101,116]] i).bind fun _ i=>((rdr l es).zcB (rdr l es).expr 3 i).bind fun qa i=>((rdr l es).must [[116,101,108]] i).bind fun _ i=>(.ok ⟨s,a,b,dl,qa.1,qa.2,ae.1,ae.2⟩ i:PR Nod))=r:=hr
 clear m4 m5 m6 m7
 refine TR.zfH (ι:=Nat×Nat×List Ex×List Ex) (fun x=>i≤x.2.1/\x.2.1≤l.length/\l.length-x.2.1≤x.1/\x.2.2.1.length≤8/\x.2.2.2.length≤8/\(((rdr l es).claims (rdr l es).expr x.1 x.2.2.1 x.2.2.2 x.2.1).bind fun ae i=>((rdr l es).must [[108,101,116]] i).bind fun _ i=>((rdr l es).zcB (rdr l es).expr 3 i).bind fun qa i=>((rdr l es).must [[116,101,108]] i).bind fun _ i=>(.ok ⟨s,a,b,dl,qa.1,qa.2,ae.1,ae.2⟩ i:PR Nod))=r) (fun x=>l.length-x.2.1) (fun x=>[(0,.ref 0 0),(2,.ref 1 0),(3,.ref 2 0)]) (fun x=>[rdB l n es x.2.1,nodZ,nodB s (.sl 3 (a.map zag)) (.sl 3 (b.map zag)) (.sl 3 (dl.map zag)) (rowV 6 x.2.2.1.length 3) (rowV 6 x.2.2.2.length 4),rowB x.2.2.1.length ((exCs x.2.2.1).map .t),rowB x.2.2.2.length ((exCs x.2.2.2).map .t)]) ((rdr l es).K.length,j7,[],[])
  ⟨by show i≤j7;omega,m7b,by rw[zaf];show l.length-j7≤l.length;omega,by show 0≤8;omega,by show 0≤8;omega,hr⟩ ⟨rfl,rfl,rfl,trivial⟩ 2 rfl ?_
 clear hr
 rintro⟨m,j,xs,ys⟩ ⟨q1,q2,q3,q4,q5,hr⟩
 replace q1:i≤j:=q1
 replace q2:j≤l.length:=q2
 replace q3:l.length-j≤m:=q3
 replace q4:xs.length≤8:=q4
 replace q5:ys.length≤8:=q5
 replace hr:(((rdr l es).claims (rdr l es).expr m xs ys j).bind fun ae i=>((rdr l es).must [[108,101,116]] i).bind fun _ i=>((rdr l es).zcB (rdr l es).expr 3 i).bind fun qa i=>((rdr l es).must [[116,101,108]] i).bind fun _ i=>(.ok ⟨s,a,b,dl,qa.1,qa.2,ae.1,ae.2⟩ i:PR Nod))=r:=hr
 have hcx:((exCs xs).map SV.t).length=xs.length*6:=by rw[qad,zeC]
 have hcy:((exCs ys).map SV.t).length=ys.length*6:=by rw[qad,zeC]
 have t2:=zaO l n es j [97,115,115,117,109,101] hl
 have t3:=zaO l n es j [101,110,115,117,114,101] hl
 show TR _ _ _ [(0,.ref 0 0),(2,.ref 1 0),(3,.ref 2 0)] [rdB l n es j,nodZ,nodB s (.sl 3 (a.map zag)) (.sl 3 (b.map zag)) (.sl 3 (dl.map zag)) (rowV 6 xs.length 3) (rowV 6 ys.length 4),rowB xs.length ((exCs xs).map .t),rowB ys.length ((exCs ys).map .t)] _
 cases h2:(rdr l es).isAt j [97,115,115,117,109,101] with
 | true=>
   have hlth2:=zam h2
   rw[zaf]at hlth2
   rw[h2]at t2
   cases m with
   | zero=>exfalso;omega
   | succ m=>
   rw[Rd.claims,if_pos h2]at hr
   refine wk ?_
   repeat' (first|refine zqn ?_|refine wd t2 ?_|(apply TO.lenR zaa;(iterate 4 exact rfl))|refine wk ?_|exact wkc|intro hc|refine wk2 ?_ ?_|fail)
   obtain⟨m3,m3i⟩:=limC l n es j xs.length xs.length 8 hl q2 rfl
   cases qm3:limR xs.length 8 j with
   | er ke c=>
     rw[qm3]at m3 m3i hr
     have hc0:=m3i.2
     replace m3:=m3.er
     try simp only[PR.vl]at m3
     simp only[PR.bind]at hr
     repeat' (first|refine zqn ?_|refine we m3 ?_ ?_|refine wk ?_|exact wkc|intro hc|refine wk2 ?_ ?_|fail)
     repeat' (first|refine zaV.panic ?_|refine wk ?_|fail)
     refine rdPX hr.symm hc0 ?_
     exact leB
   | ok u3 j3=>
   rw[qm3]at m3 m3i hr
   obtain⟨m3a,m3b⟩:=m3i
   replace m3:=m3.ok
   try simp only[PR.vl]at m3
   simp only[PR.bind]at hr
   obtain⟨hlt4,rfl⟩:=zbh qm3
   repeat' (first|refine wkt ?_|refine zqn ?_|refine we m3 ?_ ?_|exact wkc|intro hc|refine wk2 ?_ ?_|fail)
   have hoff:(0+((xs.length:Nat):Int).toNat*6)+6≤((exCs xs).map SV.t++zEx.map SV.t).length:=by
    exact zwfk
   have hspl0:∀ec:List T,ec.length=6->splice ((exCs xs).map SV.t++zEx.map SV.t) (0+((xs.length:Nat):Int).toNat*6) (ec.map SV.t)=(exCs xs).map SV.t++ec.map SV.t:=fun ec he=>by
    exact zwbs
   obtain⟨m4,m4i⟩:=zeX l n es (j3+1) hk hes hlth2
   cases qm4:(rdr l es).expr (j3+1) with
   | er ke c=>
     rw[qm4]at m4 m4i hr
     have hc0:=m4i.2
     replace m4:=m4.er
     try simp only[PR.vl]at m4
     simp only[PR.bind]at hr
     have hspl:=hspl0 (exC noE) rfl
     refine rgF 4 7 9 11 (g:=False) (H1:=[rdB l n es (j3+1),nodZ,nodB s (.sl 3 (a.map zag)) (.sl 3 (b.map zag)) (.sl 3 (dl.map zag)) (rowV 6 xs.length 3) (rowV 6 ys.length 4),rowB xs.length ((exCs xs).map .t),rowB ys.length ((exCs ys).map .t)]) (H2:=[rdB l n es (j3+1),nodZ,nodB s (.sl 3 (a.map zag)) (.sl 3 (b.map zag)) (.sl 3 (dl.map zag)) (rowV 6 xs.length 3) (rowV 6 ys.length 4),.dead,rowB ys.length ((exCs ys).map .t),.cells ((exCs xs).map .t++zEx.map .t)]) (HC:=[rdB l n es (j3+1),nodZ,nodB s (.sl 3 (a.map zag)) (.sl 3 (b.map zag)) (.sl 3 (dl.map zag)) (rowV 6 xs.length 3) (rowV 6 ys.length 4),.dead,rowB ys.length ((exCs ys).map .t),.cells ((exCs xs).map .t++(exC noE).map .t)]) (HD:=[rdB l n es (j3+1),nodZ,nodB s (.sl 3 (a.map zag)) (.sl 3 (b.map zag)) (.sl 3 (dl.map zag)) (.ms 6 5 0 (xs.length+1)) (rowV 6 ys.length 4),.dead,rowB ys.length ((exCs ys).map .t),.cells ((exCs xs).map .t++zEx.map .t)]) (HF:=[rdB l n es (j3+1),nodZ,nodB s (.sl 3 (a.map zag)) (.sl 3 (b.map zag)) (.sl 3 (dl.map zag)) (.ms 6 5 0 (xs.length+1)) (rowV 6 ys.length 4),.dead,rowB ys.length ((exCs ys).map .t),.cells ((exCs xs).map .t++(exC noE).map .t)]) [.ref 2 6,.ref 2 6,rowV 6 xs.length 3,.ref 0 0,.t (.ag (exC noE)),.i xs.length,.t (.sl 6 [.ag zEx]),.ms 6 5 0 (xs.length+1),.ref 5 (0+((xs.length:Nat):Int).toNat*6),.t (.v undef),.ref 2 6,.t (.v undef)] ?_ (fun h=>h.elim)
     repeat' (first|exact trivial|exact⟨⟨rfl,rfl⟩,trivial⟩|refine qai (fun env=>?_) ?_|refine qai ?_ ?_|refine fun(env:Env)=>?_|refine zqn ?_|refine we m4 ?_ ?_|(apply TO.lenR zaa;(iterate 4 exact rfl))|(apply TO.zcm zaa;(iterate 5 exact rfl);exact zfr;(iterate 3 exact rfl))|(apply TO.zc7 zaa;(iterate 10 exact rfl);exact hcx;exact rfl;exact rfl;exact leB;exact rfl;(simp only[qac,qaf];omega);exact rfl)|refine zqi ?_|refine zqd ?_|refine wk ?_|exact wkc|intro hc|refine wk2 ?_ ?_|fail)
     repeat' (first|refine zaV.panic ?_|refine wk ?_|fail)
     refine rdPX hr.symm hc0 ?_
     exact leB
   | ok e k=>
   rw[qm4]at m4 m4i hr
   obtain⟨m4a,m4b⟩:=m4i
   replace m4:=m4.ok
   try simp only[PR.vl]at m4
   simp only[PR.bind]at hr
   rw[zao e]at m4
   have hspl:=hspl0 (exC e) rfl
   refine rgF 4 7 9 11 (g:=True) (H1:=[rdB l n es k,nodZ,nodB s (.sl 3 (a.map zag)) (.sl 3 (b.map zag)) (.sl 3 (dl.map zag)) (rowV 6 xs.length 3) (rowV 6 ys.length 4),rowB xs.length ((exCs xs).map .t),rowB ys.length ((exCs ys).map .t)]) (H2:=[rdB l n es k,nodZ,nodB s (.sl 3 (a.map zag)) (.sl 3 (b.map zag)) (.sl 3 (dl.map zag)) (rowV 6 xs.length 3) (rowV 6 ys.length 4),.dead,rowB ys.length ((exCs ys).map .t),.cells ((exCs xs).map .t++zEx.map .t)]) (HC:=[rdB l n es k,nodZ,nodB s (.sl 3 (a.map zag)) (.sl 3 (b.map zag)) (.sl 3 (dl.map zag)) (rowV 6 xs.length 3) (rowV 6 ys.length 4),.dead,rowB ys.length ((exCs ys).map .t),.cells ((exCs xs).map .t++(exC e).map .t)]) (HD:=[rdB l n es k,nodZ,nodB s (.sl 3 (a.map zag)) (.sl 3 (b.map zag)) (.sl 3 (dl.map zag)) (.ms 6 5 0 (xs.length+1)) (rowV 6 ys.length 4),.dead,rowB ys.length ((exCs ys).map .t),.cells ((exCs xs).map .t++zEx.map .t)]) (HF:=[rdB l n es k,nodZ,nodB s (.sl 3 (a.map zag)) (.sl 3 (b.map zag)) (.sl 3 (dl.map zag)) (.ms 6 5 0 (xs.length+1)) (rowV 6 ys.length 4),.dead,rowB ys.length ((exCs ys).map .t),.cells ((exCs xs).map .t++(exC e).map .t)]) [.ref 2 6,.ref 2 6,rowV 6 xs.length 3,.ref 0 0,.t (.ag (exC e)),.i xs.length,.t (.sl 6 [.ag zEx]),.ms 6 5 0 (xs.length+1),.ref 5 (0+((xs.length:Nat):Int).toNat*6),.t (.v undef),.ref 2 6,.t (.v undef)] ?_ (fun _=>?_)
   ·repeat' (first|exact trivial|exact⟨⟨rfl,rfl⟩,trivial⟩|refine qai (fun env=>?_) ?_|refine qai ?_ ?_|refine fun(env:Env)=>?_|refine zqn ?_|refine we m4 ?_ ?_|(apply TO.lenR zaa;(iterate 4 exact rfl))|(apply TO.zcm zaa;(iterate 5 exact rfl);exact zfr;(iterate 3 exact rfl))|(apply TO.zc7 zaa;(iterate 10 exact rfl);exact hcx;exact rfl;exact rfl;exact leB;exact rfl;(simp only[qac,qaf];omega);exact rfl)|refine zqi ?_|refine zqd ?_|refine wk ?_|exact wkc|intro hc|refine wk2 ?_ ?_|fail)
    done
   obtain⟨m13,m13i⟩:=zbr l n es k [[59]] hl m4b (by decide)
   cases qm13:(rdr l es).must [[59]] k with
   | er ke c=>
     rw[qm13]at m13 m13i hr
     have hc0:=m13i.2
     replace m13:=m13.er
     try simp only[PR.vl]at m13
     simp only[PR.bind]at hr
     repeat' (first|refine zqn ?_|refine we m13 ?_ ?_|refine wk ?_|exact wkc|intro hc|refine wk2 ?_ ?_|fail)
     repeat' (first|refine zaV.panic ?_|refine wk ?_|fail)
     refine rdPX hr.symm hc0 ?_
     exact leB
   | ok u13 j13=>
   rw[qm13]at m13 m13i hr
   obtain⟨m13a,m13b⟩:=m13i
   replace m13:=m13.ok
   try simp only[PR.vl]at m13
   simp only[PR.bind]at hr
   repeat' (first|refine zqn ?_|refine we m13 ?_ ?_|refine wk ?_|exact wkc|intro hc|refine wk2 ?_ ?_|fail)
   have hxl:(xs++[e]).length=xs.length+1:=by rw[qal];rfl
   refine zaV.next (m,j13,(xs++[e]),ys) [0,1,2,5,4] ⟨?_,m13b,?_,?_,?_,hr⟩ ?_ (Hands.ofF (by decide) ⟨rfl,rfl,?_,?_,?_,trivial⟩ ?_) (leB) ?_ rfl ⟨⟨_,rfl,Le.refl _⟩,⟨_,rfl,Le.refl _⟩,⟨_,rfl,Le.refl _⟩,trivial⟩
   ·show i≤j13;omega
   ·show l.length-j13≤m;omega
   ·show(xs++[e]).length≤8;omega
   ·show ys.length≤8;omega
   ·show l.length-j13<l.length-j3;omega
   ·exact zwq
   ·exact zwci
   ·exact zwfc
   ·exact zwi
   ·exact zwer
 | false=>
 rw[h2]at t2
 cases h3:(rdr l es).isAt j [101,110,115,117,114,101] with
 | true=>
   have hlth3:=zam h3
   rw[zaf]at hlth3
   rw[h3]at t3
   cases m with
   | zero=>exfalso;omega
   | succ m=>
   rw[Rd.claims,if_neg (by rw[h2];decide),if_pos h3]at hr
   refine wk ?_
   repeat' (first|refine zqn ?_|refine wd t2 ?_|refine wd t3 ?_|(apply TO.lenR zaa;(iterate 4 exact rfl))|refine wk ?_|exact wkc|intro hc|refine wk2 ?_ ?_|fail)
   obtain⟨m3,m3i⟩:=limC l n es j ys.length ys.length 8 hl q2 rfl
   cases qm3:limR ys.length 8 j with
   | er ke c=>
     rw[qm3]at m3 m3i hr
     have hc0:=m3i.2
     replace m3:=m3.er
     try simp only[PR.vl]at m3
     simp only[PR.bind]at hr
     repeat' (first|refine zqn ?_|refine we m3 ?_ ?_|refine wk ?_|exact wkc|intro hc|refine wk2 ?_ ?_|fail)
     repeat' (first|refine zaV.panic ?_|refine wk ?_|fail)
     refine rdPX hr.symm hc0 ?_
     exact leB
   | ok u3 j3=>
   rw[qm3]at m3 m3i hr
   obtain⟨m3a,m3b⟩:=m3i
   replace m3:=m3.ok
   try simp only[PR.vl]at m3
   simp only[PR.bind]at hr
   obtain⟨hlt4,rfl⟩:=zbh qm3
   repeat' (first|refine wkt ?_|refine zqn ?_|refine we m3 ?_ ?_|exact wkc|intro hc|refine wk2 ?_ ?_|fail)
   have hoff:(0+((ys.length:Nat):Int).toNat*6)+6≤((exCs ys).map SV.t++zEx.map SV.t).length:=by
    exact zwfl
   have hspl0:∀ec:List T,ec.length=6->splice ((exCs ys).map SV.t++zEx.map SV.t) (0+((ys.length:Nat):Int).toNat*6) (ec.map SV.t)=(exCs ys).map SV.t++ec.map SV.t:=fun ec he=>by
    exact zwbt
   obtain⟨m4,m4i⟩:=zeX l n es (j3+1) hk hes hlth3
   cases qm4:(rdr l es).expr (j3+1) with
   | er ke c=>
     rw[qm4]at m4 m4i hr
     have hc0:=m4i.2
     replace m4:=m4.er
     try simp only[PR.vl]at m4
     simp only[PR.bind]at hr
     have hspl:=hspl0 (exC noE) rfl
     refine rgF 4 7 9 11 (g:=False) (H1:=[rdB l n es (j3+1),nodZ,nodB s (.sl 3 (a.map zag)) (.sl 3 (b.map zag)) (.sl 3 (dl.map zag)) (rowV 6 xs.length 3) (rowV 6 ys.length 4),rowB xs.length ((exCs xs).map .t),rowB ys.length ((exCs ys).map .t)]) (H2:=[rdB l n es (j3+1),nodZ,nodB s (.sl 3 (a.map zag)) (.sl 3 (b.map zag)) (.sl 3 (dl.map zag)) (rowV 6 xs.length 3) (rowV 6 ys.length 4),rowB xs.length ((exCs xs).map .t),.dead,.cells ((exCs ys).map .t++zEx.map .t)]) (HC:=[rdB l n es (j3+1),nodZ,nodB s (.sl 3 (a.map zag)) (.sl 3 (b.map zag)) (.sl 3 (dl.map zag)) (rowV 6 xs.length 3) (rowV 6 ys.length 4),rowB xs.length ((exCs xs).map .t),.dead,.cells ((exCs ys).map .t++(exC noE).map .t)]) (HD:=[rdB l n es (j3+1),nodZ,nodB s (.sl 3 (a.map zag)) (.sl 3 (b.map zag)) (.sl 3 (dl.map zag)) (rowV 6 xs.length 3) (.ms 6 5 0 (ys.length+1)),rowB xs.length ((exCs xs).map .t),.dead,.cells ((exCs ys).map .t++zEx.map .t)]) (HF:=[rdB l n es (j3+1),nodZ,nodB s (.sl 3 (a.map zag)) (.sl 3 (b.map zag)) (.sl 3 (dl.map zag)) (rowV 6 xs.length 3) (.ms 6 5 0 (ys.length+1)),rowB xs.length ((exCs xs).map .t),.dead,.cells ((exCs ys).map .t++(exC noE).map .t)]) [.ref 2 7,.ref 2 7,rowV 6 ys.length 4,.ref 0 0,.t (.ag (exC noE)),.i ys.length,.t (.sl 6 [.ag zEx]),.ms 6 5 0 (ys.length+1),.ref 5 (0+((ys.length:Nat):Int).toNat*6),.t (.v undef),.ref 2 7,.t (.v undef)] ?_ (fun h=>h.elim)
     repeat' (first|exact trivial|exact⟨⟨rfl,rfl⟩,trivial⟩|refine qai (fun env=>?_) ?_|refine qai ?_ ?_|refine fun(env:Env)=>?_|refine zqn ?_|refine we m4 ?_ ?_|(apply TO.lenR zaa;(iterate 4 exact rfl))|(apply TO.zcm zaa;(iterate 5 exact rfl);exact zfr;(iterate 3 exact rfl))|(apply TO.zc7 zaa;(iterate 10 exact rfl);exact hcy;exact rfl;exact rfl;exact leB;exact rfl;(simp only[qac,qaf];omega);exact rfl)|refine zqi ?_|refine zqd ?_|refine wk ?_|exact wkc|intro hc|refine wk2 ?_ ?_|fail)
     repeat' (first|refine zaV.panic ?_|refine wk ?_|fail)
     refine rdPX hr.symm hc0 ?_
     exact leB
   | ok e k=>
   rw[qm4]at m4 m4i hr
   obtain⟨m4a,m4b⟩:=m4i
   replace m4:=m4.ok
   try simp only[PR.vl]at m4
   simp only[PR.bind]at hr
   rw[zao e]at m4
   have hspl:=hspl0 (exC e) rfl
   refine rgF 4 7 9 11 (g:=True) (H1:=[rdB l n es k,nodZ,nodB s (.sl 3 (a.map zag)) (.sl 3 (b.map zag)) (.sl 3 (dl.map zag)) (rowV 6 xs.length 3) (rowV 6 ys.length 4),rowB xs.length ((exCs xs).map .t),rowB ys.length ((exCs ys).map .t)]) (H2:=[rdB l n es k,nodZ,nodB s (.sl 3 (a.map zag)) (.sl 3 (b.map zag)) (.sl 3 (dl.map zag)) (rowV 6 xs.length 3) (rowV 6 ys.length 4),rowB xs.length ((exCs xs).map .t),.dead,.cells ((exCs ys).map .t++zEx.map .t)]) (HC:=[rdB l n es k,nodZ,nodB s (.sl 3 (a.map zag)) (.sl 3 (b.map zag)) (.sl 3 (dl.map zag)) (rowV 6 xs.length 3) (rowV 6 ys.length 4),rowB xs.length ((exCs xs).map .t),.dead,.cells ((exCs ys).map .t++(exC e).map .t)]) (HD:=[rdB l n es k,nodZ,nodB s (.sl 3 (a.map zag)) (.sl 3 (b.map zag)) (.sl 3 (dl.map zag)) (rowV 6 xs.length 3) (.ms 6 5 0 (ys.length+1)),rowB xs.length ((exCs xs).map .t),.dead,.cells ((exCs ys).map .t++zEx.map .t)]) (HF:=[rdB l n es k,nodZ,nodB s (.sl 3 (a.map zag)) (.sl 3 (b.map zag)) (.sl 3 (dl.map zag)) (rowV 6 xs.length 3) (.ms 6 5 0 (ys.length+1)),rowB xs.length ((exCs xs).map .t),.dead,.cells ((exCs ys).map .t++(exC e).map .t)]) [.ref 2 7,.ref 2 7,rowV 6 ys.length 4,.ref 0 0,.t (.ag (exC e)),.i ys.length,.t (.sl 6 [.ag zEx]),.ms 6 5 0 (ys.length+1),.ref 5 (0+((ys.length:Nat):Int).toNat*6),.t (.v undef),.ref 2 7,.t (.v undef)] ?_ (fun _=>?_)
   ·repeat' (first|exact trivial|exact⟨⟨rfl,rfl⟩,trivial⟩|refine qai (fun env=>?_) ?_|refine qai ?_ ?_|refine fun(env:Env)=>?_|refine zqn ?_|refine we m4 ?_ ?_|(apply TO.lenR zaa;(iterate 4 exact rfl))|(apply TO.zcm zaa;(iterate 5 exact rfl);exact zfr;(iterate 3 exact rfl))|(apply TO.zc7 zaa;(iterate 10 exact rfl);exact hcy;exact rfl;exact rfl;exact leB;exact rfl;(simp only[qac,qaf];omega);exact rfl)|refine zqi ?_|refine zqd ?_|refine wk ?_|exact wkc|intro hc|refine wk2 ?_ ?_|fail)
    done
   obtain⟨m13,m13i⟩:=zbr l n es k [[59]] hl m4b (by decide)
   cases qm13:(rdr l es).must [[59]] k with
   | er ke c=>
     rw[qm13]at m13 m13i hr
     have hc0:=m13i.2
     replace m13:=m13.er
     try simp only[PR.vl]at m13
     simp only[PR.bind]at hr
     repeat' (first|refine zqn ?_|refine we m13 ?_ ?_|refine wk ?_|exact wkc|intro hc|refine wk2 ?_ ?_|fail)
     repeat' (first|refine zaV.panic ?_|refine wk ?_|fail)
     refine rdPX hr.symm hc0 ?_
     exact leB
   | ok u13 j13=>
   rw[qm13]at m13 m13i hr
   obtain⟨m13a,m13b⟩:=m13i
   replace m13:=m13.ok
   try simp only[PR.vl]at m13
   simp only[PR.bind]at hr
   repeat' (first|refine zqn ?_|refine we m13 ?_ ?_|refine wk ?_|exact wkc|intro hc|refine wk2 ?_ ?_|fail)
   have hxl:(ys++[e]).length=ys.length+1:=by rw[qal];rfl
   refine zaV.next (m,j13,xs,(ys++[e])) [0,1,2,3,5] ⟨?_,m13b,?_,?_,?_,hr⟩ ?_ (Hands.ofF (by decide) ⟨rfl,rfl,?_,?_,?_,trivial⟩ ?_) (leB) ?_ rfl ⟨⟨_,rfl,Le.refl _⟩,⟨_,rfl,Le.refl _⟩,⟨_,rfl,Le.refl _⟩,trivial⟩
   ·show i≤j13;omega
   ·show l.length-j13≤m;omega
   ·show xs.length≤8;omega
   ·show(ys++[e]).length≤8;omega
   ·show l.length-j13<l.length-j3;omega
   ·exact zwr
   ·exact zwfb
   ·exact zwcj
   ·exact zwj
   ·exact zwer
 | false=>
 rw[h3]at t3
 rw[zfW h2 h3]at hr
 simp only[PR.bind]at hr
 refine wk ?_
 repeat' (first|refine zqn ?_|refine wd t2 ?_|refine wd t3 ?_|refine zaV.exit ?_|refine wk ?_|exact wkc|intro hc|refine wk2 ?_ ?_|fail)
 refine TO.zeZ 2 6 6 3 xs.length (ts:=exCs xs) (es:=xs.map exT) (by decide) rfl rfl rfl rfl (by rw[qad]) (fun e he=>by obtain⟨q,_,rfl⟩:=qa2.1 he;rw[zao];rfl) rfl rfl ?_
 refine TO.zeZ 2 7 6 4 ys.length (ts:=exCs ys) (es:=ys.map exT) (by decide) rfl rfl rfl rfl (by rw[qad]) (fun e he=>by obtain⟨q,_,rfl⟩:=qa2.1 he;rw[zao];rfl) rfl rfl ?_
 obtain⟨m8,m8i⟩:=zbr l n es j [[108,101,116]] hl q2 (by decide)
 cases qm8:(rdr l es).must [[108,101,116]] j with
 | er ke c=>
   rw[qm8]at m8 m8i hr
   have hc0:=m8i.2
   replace m8:=m8.er
   try simp only[PR.vl]at m8
   simp only[PR.bind]at hr
   repeat' (first|refine zqn ?_|refine we m8 ?_ ?_|refine wk ?_|exact wkc|intro hc|refine wk2 ?_ ?_|fail)
   repeat' (first|refine zaV.panic ?_|refine wk ?_|fail)
   refine rdPX hr.symm hc0 ?_
   exact leB
 | ok u8 j8=>
 rw[qm8]at m8 m8i hr
 obtain⟨m8a,m8b⟩:=m8i
 replace m8:=m8.ok
 try simp only[PR.vl]at m8
 simp only[PR.bind]at hr
 repeat' (first|refine zqn ?_|refine we m8 ?_ ?_|refine wk ?_|exact wkc|intro hc|refine wk2 ?_ ?_|fail)
 obtain⟨m9,m9i⟩:=zfz l n es hk hes 3 0 rfl j8 m8b
 cases qm9:(rdr l es).zcB (rdr l es).expr 3 j8 with
 | er ke c=>
   rw[qm9]at m9 m9i hr
   have hc0:=m9i.2
   replace m9:=m9.er
   try simp only[PR.vl]at m9
   simp only[PR.bind]at hr
   repeat' (first|refine zqn ?_|refine we m9 ?_ ?_|refine wk ?_|exact wkc|intro hc|refine wk2 ?_ ?_|fail)
   repeat' (first|refine zaV.panic ?_|refine wk ?_|fail)
   refine rdPX hr.symm hc0 ?_
   exact leB
 | ok qa j9=>
 rw[qm9]at m9 m9i hr
 obtain⟨m9a,m9b⟩:=m9i
 replace m9:=m9.ok
 try simp only[PR.vl]at m9
 simp only[PR.bind]at hr
 repeat' (first|refine zqn ?_|refine we m9 ?_ ?_|refine wk ?_|exact wkc|intro hc|refine wk2 ?_ ?_|fail)
 obtain⟨m10,m10i⟩:=zbr l n es j9 [[116,101,108]] hl m9b (by decide)
 cases qm10:(rdr l es).must [[116,101,108]] j9 with
 | er ke c=>
   rw[qm10]at m10 m10i hr
   have hc0:=m10i.2
   replace m10:=m10.er
   try simp only[PR.vl]at m10
   simp only[PR.bind]at hr
   repeat' (first|refine zqn ?_|refine we m10 ?_ ?_|refine wk ?_|exact wkc|intro hc|refine wk2 ?_ ?_|fail)
   repeat' (first|refine zaV.panic ?_|refine wk ?_|fail)
   refine rdPX hr.symm hc0 ?_
   exact leB
 | ok u10 j10=>
 rw[qm10]at m10 m10i hr
 obtain⟨m10a,m10b⟩:=m10i
 replace m10:=m10.ok
 try simp only[PR.vl]at m10
 simp only[PR.bind]at hr
 repeat' (first|refine zqn ?_|refine we m10 ?_ ?_|refine wk ?_|exact wkc|intro hc|refine wk2 ?_ ?_|fail)
 refine zdL.ret ?_
 apply rdV hr.symm
 ·exact rfl
 ·rw[<-hr,vlE]
  unfold nodT
  simp only
  exact zqa
 all_goals exact rfl
end Go.Proofs.YtpfnfpaahefdaaaGreat
