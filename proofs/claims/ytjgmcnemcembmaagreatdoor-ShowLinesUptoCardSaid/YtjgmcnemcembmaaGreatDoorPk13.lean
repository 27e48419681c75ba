import Derived.Lib.MinMax
import Derived.Lib.Bytealg
import Derived.Test.YtjgmcnemcembmaaGreatDoorProg
import Derived.Test.YtjgmcnemcembmaaGreatDoorPk7
import Derived.Test.YtjgmcnemcembmaaGreatDoorPk12
set_option linter.unusedSimpArgs false
set_option linter.unusedVariables false
namespace Go.TL
open Go
def afterOf(ops:Array Oper)(i:Nat):List Nat:=((ops[i]?).map fun o=>(o.after.toList.filter (Region.binds .any)).map (·.on)).getD []
def stepCov(ops:Array Oper)(l:List Nat):List Nat:=(List.range ops.size).filter fun i=>l.contains i || l.any fun j=>(afterOf ops j).contains i
def cov(ops:Array Oper):Nat->List Nat->List Nat
 | 0,l=>l
 | f+1,l=>cov ops f (stepCov ops l)
def downB(ops:Array Oper):Bool:=(List.range ops.size).all fun i=>(afterOf ops i).all fun j=>Nat.blt j i
def forcedB(ops:Array Oper)(k:Nat):Bool:=(List.range ops.size).all fun j=>Nat.blt j k || (List.range j).all fun i=>(cov ops 8 (afterOf ops j)).contains i
def DC(ops:Array Oper)(L:Array Bool):Prop:=∀i,L[i]?=some true->∀j∈afterOf ops i,L[j]?=some true
theorem gT{L:Array Bool}{i:Nat}:L.getD i false=true ↔ L[i]?=some true:=by
 rw[Array.getD_eq_getD_getElem?];cases L[i]? <;> simp
theorem gF{L:Array Bool}{i:Nat}:L.getD i true=false ↔ L[i]?=some false:=by
 rw[Array.getD_eq_getD_getElem?];cases L[i]? <;> simp
theorem cov_listed{ops:Array Oper}{L:Array Bool}(h:DC ops L):∀(f:Nat) (l:List Nat),(∀i∈l,L[i]?=some true)->∀i∈cov ops f l,L[i]?=some true
 | 0,l,hl=>hl
 | f+1,l,hl=>cov_listed h f _ fun i hi=>by
   simp only[stepCov,List.mem_filter,Bool.or_eq_true,List.any_eq_true,List.contains_iff_mem]at hi
   rcases hi.2 with h1|⟨j,h1,h2⟩
   ·exact hl i h1
   ·exact h j (hl j h1) i h2
theorem ready_iff{ops:Array Oper}{L:Array Bool}{i:Nat}(hs:L.size=ops.size):i∈Region.ready .any ops L ↔ L[i]?=some false/\∀j∈afterOf ops i,L[j]?=some true:=by
 rw[mem_ready,gF]
 constructor
 ·rintro⟨h1,o,ho,h2⟩
  refine⟨h1,fun j hj=>?_⟩
  simp only[afterOf,ho,Option.map_some,Option.getD_some,List.mem_map,List.mem_filter]at hj
  obtain⟨e,⟨he,hb⟩,rfl⟩:=hj
  exact gT.1 (h2 e (by simpa using he) hb)
 ·rintro⟨h1,h2⟩
  have hi:=(Array.getElem?_eq_some_iff.1 h1).1
  have ho:ops[i]?=some (ops[i]'(by omega)):=Array.getElem?_eq_getElem (by omega)
  refine⟨h1,_,ho,fun e he hb=>gT.2 (h2 _ ?_)⟩
  simp only[afterOf,ho,Option.map_some,Option.getD_some,List.mem_map,List.mem_filter]
  exact⟨e,⟨by simpa using he,hb⟩,rfl⟩
theorem least{p:Nat->Prop}[DecidablePred p]:∀n,¬p n->∃m,m≤n/\¬p m/\∀j,j<m->p j:=by
 intro n
 induction n using Nat.strongRecOn with
 | ind n ih=>
   intro h
   by_cases hx:∃j,j<n/\¬p j
   ·obtain⟨j,hj,hp⟩:=hx
    obtain⟨m,h1,h2,h3⟩:=ih j hj hp
    exact⟨m,by omega,h2,h3⟩
   ·exact⟨n,Nat.le_refl _,h,fun j hj=>Classical.byContradiction fun hp=>hx ⟨j,hj,hp⟩⟩
theorem first_ready{ops:Array Oper}{L:Array Bool}(hs:L.size=ops.size)(hd:downB ops=true){n:Nat}(hn:L[n]?=some false):∃m,m≤n/\m∈Region.ready .any ops L/\∀j,j<m->L[j]?=some true:=by
 obtain⟨m,h1,h2,h3⟩:=least (p:=fun j=>L[j]?=some true) n (by rw[hn];simp)
 have hnl:=(Array.getElem?_eq_some_iff.1 hn).1
 have hm:L[m]?=some false:=by
  have:L[m]?=some (L[m]'(by omega)):=Array.getElem?_eq_getElem (by omega)
  rw[this]at h2⊢
  cases h:L[m]'(by omega)
  ·rfl
  ·rw[h]at h2;exact absurd rfl h2
 refine⟨m,h1,(ready_iff hs).2 ⟨hm,fun j hj=>h3 j ?_⟩,h3⟩
 have:=List.all_eq_true.1 hd m (by simp;omega)
 have:=List.all_eq_true.1 this j hj
 simpa using this
theorem forced{ops:Array Oper}{L:Array Bool}{k j:Nat}(hs:L.size=ops.size)(hf:forcedB ops k=true)(hdc:DC ops L)(hj:j∈Region.ready .any ops L)(hk:k≤j):∀i,i<j->L[i]?=some true:=by
 intro i hi
 obtain⟨h1,h2⟩:=(ready_iff hs).1 hj
 have hlt:=(Array.getElem?_eq_some_iff.1 h1).1
 have:=List.all_eq_true.1 hf j (by simp;omega)
 simp only[Bool.or_eq_true]at this
 rcases this with h|h
 ·simp at h;omega
 ·have:=List.all_eq_true.1 h i (by simpa using hi)
  exact cov_listed hdc 8 _ h2 i (by simpa using this)
theorem dc_set{ops:Array Oper}{L:Array Bool}{i:Nat}(hs:L.size=ops.size)(hdc:DC ops L)(hi:i∈Region.ready .any ops L):DC ops (L.setIfInBounds i true):=by
 have key:∀(j:Nat),L[j]?=some true->(L.setIfInBounds i true)[j]?=some true:=by
  intro j hj
  rw[Array.getElem?_setIfInBounds]
  have:=(Array.getElem?_eq_some_iff.1 hj).1
  split
  ·rw[if_pos (by omega)]
  ·exact hj
 intro x hx j hj
 rw[Array.getElem?_setIfInBounds]at hx
 split at hx
 ·rename_i e
  subst e
  exact key j (((ready_iff hs).1 hi).2 j hj)
 ·exact key j (hdc x hx j hj)
section rules
variable {P:Program}{all:Array Oper}
theorem any_mono{F:Fence}{N:Nat}{md:Region.Mode}{Q:Exit->Act->World->Prop}:∀(f:Nat) (L:Array Bool) (a:Act) (w:World),wpAnyIn F N P md all Q f L a w->wpAnyIn F N P md all Q (f+1) L a w
 | 0,L,a,w,h=>⟨fun _=>h.2,fun i hi=>by rw[h.1]at hi;cases hi⟩
 | f+1,L,a,w,h=>⟨h.1,fun i hi=>wpOpIn_mono (fun a w h2=>any_mono f _ a w h2) (h.2 i hi)⟩
theorem any_monoN{F:Fence}{N:Nat}{md:Region.Mode}{Q:Exit->Act->World->Prop}(f:Nat)(L:Array Bool)(a:Act)(w:World)(h:wpAnyIn F N P md all Q f L a w):∀k,wpAnyIn F N P md all Q (k+f) L a w
 | 0=>by rw[Nat.zero_add];exact h
 | k+1=>by rw[show k+1+f=(k+f)+1 from by omega];exact any_mono _ _ _ _ (any_monoN f L a w h k)
theorem any_pre{r:Option Nat}{C:World->Prop}{Q:Act->Prop}{Q':Exit->Act->World->Prop}{k n2:Nat}(hd:downB all=true)(hf:forcedB all k=true)(hp:∀(i:Nat) o,i<k->all[i]?=some o->Op.plain o.op=true)
  (hQ:∀(L:Array Bool) a w,L.size=all.size->(∀(i:Nat),i<k->i<all.size->L[i]?=some true)->(∀(i:Nat),k≤i->i<all.size->L[i]?=some false)->C w->Q a->wpAnyIn (Fr r) 0 P .any all Q' n2 L a w):
  ∀(u:Nat) (L M:Array Bool) (a:Act) (w:World),L.size=all.size->M.size=all.size->(∀(i:Nat),i<k->M[i]?=L[i]?)->(∀(i:Nat),k≤i->i<all.size->M[i]?=some true)->(∀(i:Nat),k≤i->i<all.size->L[i]?=some false)->
   DC all L->C w->wpAnyQIn (Fr r) 0 P .any all C Q u M a->wpAnyIn (Fr r) 0 P .any all Q' (u+n2) L a w:=by
 intro u
 have full:∀(L M:Array Bool),L.size=all.size->M.size=all.size->(∀(i:Nat),i<k->M[i]?=L[i]?)->(∀(i:Nat),k≤i->i<all.size->M[i]?=some true)->DC all L->Region.ready .any all M=[]->∀(i:Nat),i<k->i<all.size->L[i]?=some true:=by
  intro L M hL hM h1 h2 hdc hr i hi hia
  refine Classical.byContradiction fun hne=>?_
  have hMi:M[i]?=some false:=by
   rw[h1 i hi]
   have:L[i]?=some (L[i]'(by omega)):=Array.getElem?_eq_getElem (by omega)
   rw[this]at hne⊢
   cases h:L[i]'(by omega)
   ·rfl
   ·rw[h]at hne;exact absurd rfl hne
  obtain⟨m,_,hm,_⟩:=first_ready hM hd hMi
  rw[hr]at hm;cases hm
 induction u with
 | zero=>
   intro L M a w hL hM h1 h2 h3 hdc hC h
   rw[Nat.zero_add]
   exact hQ L a w hL (full L M hL hM h1 h2 hdc h.1) h3 hC h.2
 | succ u ih=>
   intro L M a w hL hM h1 h2 h3 hdc hC h
   by_cases hr:Region.ready .any all M=[]
   ·exact any_monoN _ _ _ _ (hQ L a w hL (full L M hL hM h1 h2 hdc hr) h3 hC (h.1 hr)) (u+1)
   ·
    obtain⟨x,hx⟩:=List.exists_mem_of_ne_nil _ hr
    have hx1:=((ready_iff hM).1 hx).1
    have hxl:=(Array.getElem?_eq_some_iff.1 hx1).1
    have hxk:x<k:=Nat.lt_of_not_le fun hle=>by rw[h2 x hle (by omega)]at hx1;cases hx1
    have hLx:L[x]?=some false:=by rw[<-h1 x hxk];exact hx1
    rw[show u+1+n2=(u+n2)+1 from by omega]
    refine⟨fun h0=>?_,fun i hi=>?_⟩
    ·obtain⟨m,_,hm,_⟩:=first_ready hL hd hLx
     rw[h0]at hm;cases hm
    ·have hik:i<k:=Nat.lt_of_not_le fun hle=>by
      have:=forced hL hf hdc hi hle x (by omega)
      rw[this]at hLx;cases hLx
     obtain⟨g1,g2⟩:=(ready_iff hL).1 hi
     have hiM:i∈Region.ready .any all M:=by
      refine(ready_iff hM).2 ⟨by rw[h1 i hik];exact g1,fun j hj=>?_⟩
      have hjl:=(Array.getElem?_eq_some_iff.1 (g2 j hj)).1
      by_cases hjk:j<k
      ·rw[h1 j hjk];exact g2 j hj
      ·exact h2 j (by omega) (by omega)
     have hnext:∀a' w',C w'->wpAnyQIn (Fr r) 0 P .any all C Q u (M.setIfInBounds i true) a'->wpAnyIn (Fr r) 0 P .any all Q' (u+n2) (L.setIfInBounds i true) a' w':=by
      intro a' w' hC' hk'
      refine ih (L.setIfInBounds i true) (M.setIfInBounds i true) a' w' (by simpa using hL) (by simpa using hM) ?_ ?_ ?_ (dc_set hL hdc hi) hC' hk'
      ·intro j hj
       rw[Array.getElem?_setIfInBounds,Array.getElem?_setIfInBounds,h1 j hj,hL,hM]
      ·intro j hj hja
       rw[Array.getElem?_setIfInBounds,if_neg (by omega)]
       exact h2 j hj hja
      ·intro j hj hja
       rw[Array.getElem?_setIfInBounds,if_neg (by omega)]
       exact h3 j hj hja
     have h4:=h.2 i hiM
     unfold qOpIn at h4
     unfold wpOpIn
     cases ho:all[i]? with
     | none=>simp only[ho]at h4⊢;exact hnext _ _ hC h4
     | some o=>
       simp only[ho]at h4⊢
       obtain⟨_,h4⟩:=h4
       split
       ·rename_i hwt
        rw[if_pos hwt]at h4
        exact op_of_quiet (hp i o hik ho) hC (fun a' w' hw' hk=>hnext a' w' hw' hk) h4
       ·rename_i hwt
        rw[if_neg hwt]at h4
        exact⟨fun _ _=>trivial,hnext _ _ hC h4⟩
theorem any_suf{r:Option Nat}{Q':Exit->Act->World->Prop}{k:Nat}(hd:downB all=true)(hf:forcedB all k=true):∀(l:List Oper) (p:Nat) (L:Array Bool) (a:Act) (w:World),k≤p->(∀j,l[j]?=all[p+j]?)->L.size=all.size->
   (∀(i:Nat),i<p->i<all.size->L[i]?=some true)->(∀(i:Nat),p≤i->i<all.size->L[i]?=some false)->wpListIn (Fr r) 0 P all Q' l a w->wpAnyIn (Fr r) 0 P .any all Q' l.length L a w
 | [],p,L,a,w,hk,hl,hL,h1,h2,h=>by
   have hsz:all.size≤p:=Nat.le_of_not_lt fun hlt=>by
    have:=hl 0
    rw[Nat.add_zero,Array.getElem?_eq_getElem hlt]at this
    cases this
   refine⟨?_,h⟩
   refine List.eq_nil_iff_forall_not_mem.2 fun i hi=>?_
   have:=((ready_iff hL).1 hi).1
   have hlt:=(Array.getElem?_eq_some_iff.1 this).1
   rw[h1 i (by omega) (by omega)]at this
   cases this
 | o::l,p,L,a,w,hk,hl,hL,h1,h2,h=>by
   have hpo:all[p]?=some o:=by simpa using (hl 0).symm
   have hpl:=(Array.getElem?_eq_some_iff.1 hpo).1
   have hLp:=h2 p (Nat.le_refl _) hpl
   have hdc:DC all L:=by
    intro i hi j hj
    have hil:=(Array.getElem?_eq_some_iff.1 hi).1
    have hip:i<p:=Nat.lt_of_not_le fun hle=>by rw[h2 i hle (by omega)]at hi;cases hi
    have:=List.all_eq_true.1 hd i (by simp;omega)
    have:=List.all_eq_true.1 this j hj
    have hji:j<i:=by simpa using this
    exact h1 j (by omega) (by omega)
   refine⟨fun h0=>?_,fun i hi=>?_⟩
   ·obtain⟨m,_,hm,_⟩:=first_ready hL hd hLp
    rw[h0]at hm;cases hm
   ·have hi1:=((ready_iff hL).1 hi).1
    have hil:=(Array.getElem?_eq_some_iff.1 hi1).1
    have hip:p≤i:=Nat.le_of_not_lt fun hlt=>by rw[h1 i hlt (by omega)]at hi1;cases hi1
    have hipe:i=p:=by
     refine Classical.byContradiction fun hne=>?_
     have:=forced hL hf hdc hi (by omega) p (by omega)
     rw[this]at hLp;cases hLp
    subst hipe
    have hnext:∀a' w',wpListIn (Fr r) 0 P all Q' l a' w'->wpAnyIn (Fr r) 0 P .any all Q' l.length (L.setIfInBounds i true) a' w':=by
     intro a' w' h'
     refine any_suf hd hf l (i+1) (L.setIfInBounds i true) a' w' (by omega) (fun j=>?_) (by simpa using hL) (fun j hj hja=>?_) (fun j hj hja=>?_) h'
     ·have:=hl (j+1)
      simp only[List.getElem?_cons_succ]at this
      rw[this];congr 1;omega
     ·rw[Array.getElem?_setIfInBounds]
      split
      ·first|rfl|rw[if_pos (by omega)]
      ·exact h1 j (by omega) hja
     ·rw[Array.getElem?_setIfInBounds,if_neg (by omega)]
      exact h2 j (by omega) hja
    unfold wpListIn at h
    unfold wpOpIn
    simp only[hpo]
    split
    ·rename_i hw
     rw[if_pos hw]at h
     exact Oper.wpIn_mono (fun a w h=>hnext a w h) h
    ·rename_i hw
     rw[if_neg hw]at h
     exact⟨h.1,hnext _ _ h.2⟩
theorem anyQ_lex{F:Fence}{N:Nat}{C:World->Prop}{md:Region.Mode}{Q:Act->Prop}(hs:Region.noSelect all=true):∀(l:List Oper) (k:Nat) (listed:Array Bool) (a:Act),(∀j,j<l.length->l[j]?=all[k+j]?)->
  Region.lexFrom md all l.length k listed=true->wpQuietIn F N P all C Q l a->wpAnyQIn F N P md all C Q l.length listed a
 | [],_,_,_,_,hB,h=>⟨by simpa [Region.lexFrom]using hB,h⟩
 | o::l,k,listed,a,hl,hB,h=>by
   have h0:all[k]?=some o:=by simpa using (hl 0 (by simp)).symm
   simp only[List.length_cons,Region.lexFrom,Bool.and_eq_true]at hB
   obtain⟨⟨hr,hf⟩,hB'⟩:=hB
   have hst:qOpIn F N P all C k (wpQuietIn F N P all C Q l) a:=by unfold qOpIn;simp only[h0];exact h
   obtain⟨v,hy,hK⟩:=yieldsQuiet_of_qOpIn h0 hst
   exact wpAnyQIn_first h0 (Region.noSelect_spec hs) l.length listed a (Region.free_spec h0 hf) (by simpa using hr) hy
    (anyQ_lex hs l (k+1) _ _ (fun j hj=>by have:=hl (j+1) (by simpa using hj);simpa [Nat.add_assoc,Nat.add_comm 1 j]using this) hB' hK)
def lastB(ops:Array Oper)(k:Nat):Bool:=
 Region.noSelect ops && (Nat.ble k ops.size && (downB ops && (forcedB ops k && Region.lexFrom .any ops k 0 (Array.replicate k false++Array.replicate (ops.size-k) true))))
def ThenL(P:Program)(n:Nat)(all:Array Oper)(l2:List Oper)(H:Heap)(K:TK):TK
 | .normal,env,_=>TO false P n all l2 env H K
 | _,_,_=>False
theorem TR.regionL{n:Nat}{env:Env}{H:Heap}{K:TK}(k:Nat){id:Nat}{l:List Oper}(hm:P.follows .mixedOrders=true)(hB:lastB l.toArray k=true)(hp:(l.take k).all (fun o=>Op.plain o.op)=true)
  (h:TO true P n l.toArray (l.take k) env H (ThenL P n l.toArray (l.drop k) H K)):TR P n (.region id l.toArray true) env H K:=by
 simp only[lastB,Bool.and_eq_true]at hB
 obtain⟨hB1,hB2,hB3,hB4,hB5⟩:=hB
 have hk:k≤l.length:=by simpa using Nat.le_of_ble_eq_true hB2
 intro φ m a h1 h2 h3 h4
 have hq:=h φ m a h1 h2 h3 h4
 simp only at hq
 refine wpr_of_in (wpIn_region_any hm ?_)
 have hlt:(l.take k).length=k:=by simp;omega
 have:=any_pre (P:=P) (all:=l.toArray) (r:=φ.r) (C:=Keeps m.w) (Q:=fun a'=>∀w',Keeps m.w w'->wpListIn (Fr φ.r) 0 P l.toArray (Post φ m n K) (l.drop k) a' w')
  (Q':=Post φ m n K) (k:=k) (n2:=(l.drop k).length) hB3 hB4 (fun i o hi ho=>List.all_eq_true.1 hp o (List.mem_of_getElem? (i:=i) (by rw[List.getElem?_take,if_pos hi];simpa using ho)))
  (fun L a' w' hL g1 g2 hC hQ=>any_suf hB3 hB4 (l.drop k) k L a' w' (Nat.le_refl _) (fun j=>by simp) hL g1 g2 (hQ w' hC))
  k (Array.replicate l.toArray.size false) (Array.replicate k false++Array.replicate (l.toArray.size-k) true) a { m.w with drawn:=m.w.drawn+1 } (by simp) (by simp;omega)
  (fun i hi=>by
    rw[Array.getElem?_append_left (by simpa using hi),Array.getElem?_replicate,Array.getElem?_replicate,if_pos hi,if_pos (by simp;omega)])
  (fun i hi hia=>by
    rw[Array.getElem?_append_right (by simpa using hi),Array.getElem?_replicate,if_pos (by simp at hia⊢;omega)])
  (fun i hi hia=>by rw[Array.getElem?_replicate,if_pos hia])
  (fun i hi=>by rw[Array.getElem?_replicate]at hi;split at hi <;> cases hi)
  ⟨rfl,rfl,rfl,Nat.le_refl _,fun _ _=>rfl⟩ ?_
 ·have e:k+(l.drop k).length=l.toArray.size:=by simp;omega
  rw[e]at this
  exact this
 ·have hx:=anyQ_lex (F:=Fr φ.r) (N:=0) (P:=P) (C:=Keeps m.w) (md:=.any) (Q:=fun a'=>∀w',Keeps m.w w'->wpListIn (Fr φ.r) 0 P l.toArray (Post φ m n K) (l.drop k) a' w') hB1 (l.take k) 0
   (Array.replicate k false++Array.replicate (l.toArray.size-k) true) a (fun j hj=>by rw[List.getElem?_take,if_pos (by omega)];simp) (by rw[hlt];exact hB5) (quiet_in _ a (wpQuiet_mono ?_ _ a hq))
  ·rw[hlt]at hx;exact hx
  ·rintro a' ⟨env',g1,g2,g3⟩ w' hw'
   obtain⟨s,hm'⟩:=keep_ok h2 hw'
   have:=g3 φ ⟨m.A,m.β,m.H,w'⟩ a' h1 hm' (g1.step h2 s) (g2.step h2 s)
   exact TO.step' s this
theorem ThenL.go{n:Nat}{l2:List Oper}{env:Env}{H:Heap}{K:TK}(h:TO false P n all l2 env H K):ThenL P n all l2 H K .normal env H:=h
theorem TR.regionL1{n:Nat}{env:Env}{H:Heap}{K:TK}{id:Nat}{l:List Oper}(hm:P.follows .mixedOrders=true)(hB:lastB l.toArray (l.length-1)=true)(hp:(l.take (l.length-1)).all (fun o=>Op.plain o.op)=true)
  (h:TO true P n l.toArray (l.take (l.length-1)) env H (ThenL P n l.toArray (l.drop (l.length-1)) H K)):TR P n (.region id l.toArray true) env H K:=TR.regionL _ hm hB hp h
theorem TR.regionL2{n:Nat}{env:Env}{H:Heap}{K:TK}{id:Nat}{l:List Oper}(hm:P.follows .mixedOrders=true)(hB:lastB l.toArray (l.length-2)=true)(hp:(l.take (l.length-2)).all (fun o=>Op.plain o.op)=true)
  (h:TO true P n l.toArray (l.take (l.length-2)) env H (ThenL P n l.toArray (l.drop (l.length-2)) H K)):TR P n (.region id l.toArray true) env H K:=TR.regionL _ hm hB hp h
end rules
def isCall(o:Oper):Bool:=match o.op with
 | .call c=>(match c.callee with| .value _=>true|_=>false)
 | _=>false
section rules
variable {P:Program}{n:Nat}{K:TK}
theorem TR.regionLf{n:Nat}{env:Env}{H:Heap}{K:TK}{id:Nat}{l:List Oper}(hm:P.follows .mixedOrders=true)(hB:(Nat.blt (l.findIdx isCall) l.length && lastB l.toArray (l.findIdx isCall))=true)(hp:(l.take (l.findIdx isCall)).all (fun o=>Op.plain o.op)=true)
  (h:TO true P n l.toArray (l.take (l.findIdx isCall)) env H (ThenL P n l.toArray (l.drop (l.findIdx isCall)) H K)):TR P n (.region id l.toArray true) env H K:=by
 simp only[Bool.and_eq_true]at hB
 exact TR.regionL _ hm hB.2 hp h
end rules
section rules
variable {P:Program}{n:Nat}{env:Env}{H:Heap}{K:TK}{all:Array Oper}{rest:List Oper}{q:Bool}
variable {d:Nat}{ty:TypeId}{pos:String}{aft:Array Edge}
theorem TO.maxi{x y:Operand}{a b:Int}{ts:Array TypeId}(hd:Nat.ble (d+1) n=true)(hx:env.val x=some (.t (.v (.int .i64 a))))(hy:env.val y=some (.t (.v (.int .i64 b))))
  (k:TO q P n all rest ((d,.t (.v (.int .i64 (max a b))))::env) H K):TO q P n all (⟨some d,.call { callee:=.builtin .max,args:=#[x,y],argTypes:=ts },ty,pos,aft,none⟩::rest) env H K:=
 TO.op hd (fun m ac h1 h2 h3=>⟨.int .i64 (max a b),fun w' hw'=>by
  simp[execOp,resolve,invoke,builtin,(h3.val hx).v_eq,(h3.val hy).v_eq,Go.Lib.run_max_ints],.t _ _ (.v _)⟩) k
theorem TO.mini{x y:Operand}{a b:Int}{ts:Array TypeId}(hd:Nat.ble (d+1) n=true)(hx:env.val x=some (.t (.v (.int .i64 a))))(hy:env.val y=some (.t (.v (.int .i64 b))))
  (k:TO q P n all rest ((d,.t (.v (.int .i64 (min a b))))::env) H K):TO q P n all (⟨some d,.call { callee:=.builtin .min,args:=#[x,y],argTypes:=ts },ty,pos,aft,none⟩::rest) env H K:=
 TO.op hd (fun m ac h1 h2 h3=>⟨.int .i64 (min a b),fun w' hw'=>by
  simp[execOp,resolve,invoke,builtin,(h3.val hx).v_eq,(h3.val hy).v_eq,Go.Lib.run_min_ints],.t _ _ (.v _)⟩) k
theorem TO.extern_indexByte{f:FuncId}{fn:Func}{x y:Operand}{ts:Array TypeId}{l:Str}{c:Int}(hd:Nat.ble (d+1) n=true)(hf:P.funcs[f]?=some fn)(hname:(fn.name == "runtime.NumGoroutine")=false)(hb:fn.body.isNone=true)(hn:Extern.findNext fn=none)
  (he:Extern.find fn=some Extern.BytealgIndexByte.indexByte)(hx:env.val x=some (.t (.v (str l))))(hy:env.val y=some (.t (.v (.int .u8 c))))(k:TO q P n all rest ((d,.t (.v (.int .i64 (Lib.indexByte l c.toNat.toUInt8))))::env) H K):
  TO q P n all (⟨some d,.call { callee:=.value (.func f),args:=#[x,y],argTypes:=ts },ty,pos,aft,none⟩::rest) env H K:=
 TO.op hd (fun m ac h1 h2 h3=>⟨.int .i64 (Lib.indexByte l c.toNat.toUInt8),fun w' hw'=>by
  have:=run_callFunc_extern hf hname hb hn he #[ac.eval x,ac.eval y] w'
  rw[(h3.val hx).v_eq,(h3.val hy).v_eq,Lib.run_indexByteString]at this
  simp only[Result.andThen]at this
  simp[execOp,resolve,eval_func,Deferred.ofValue,invoke,(h3.val hx).v_eq,(h3.val hy).v_eq,this],.t _ _ (.v _)⟩) k
end rules
theorem Sound.fresh{P:Program}{f:FuncId}{pre post:List SV}{sz:Nat}{R:Res->Heap->Prop}(h:Sound P f (pre++ .sl sz [] 0::post) [.tail 0] R):Sound P f (pre++ .t (.v (.slice none 0 0))::post) [] R:=by
 refine⟨h.1,fun m vs h1 h2 h3=>?_⟩
 obtain⟨s,hm1⟩:=grow_tail h2
 have hl:m.H.length=0:=by rw[h1];rfl
 refine Calls.mono (h.2 ⟨m.A,m.β++[⟨0,0,0⟩],m.H++[.tail 0],m.w⟩ vs (by simp[h1]) hm1 ⟨by simpa using h3.1,fun i c x hc hx=>?_⟩) ?_
 ·by_cases hi:i=pre.length
  ·subst hi
   simp at hc
   subst hc
   have hx':=h3.2 pre.length (.t (.v (.slice none 0 0))) x (by simp) hx
   have:=hx'.v_eq
   subst this
   have:=nil_tail h2 sz
   rw[hl]at this
   exact this
  ·refine s.srel h2 (h3.2 i c x ?_ hx)
   rcases Nat.lt_or_gt_of_ne hi with h'|h'
   ·rw[List.getElem?_append_left h']at hc⊢;exact hc
   ·rw[List.getElem?_append_right (by omega)]at hc⊢
    rw[List.getElem?_cons,if_neg (by omega)]at hc⊢
    exact hc
 ·rintro e w' ⟨m',r,g1,g2,g3,g4,g5⟩
  exact⟨m',r,g1,s.trans g2,g3,g4,g5⟩
theorem Sound.own{P:Program}{f:FuncId}{args:List SV}{sz n:Nat}{es:List T}(h:Sound P f args [] (fun r H'=>r= .ret (.sl sz es 0)/\H'=[.tail n])):Pure P f args (.t (.sl sz es)):=by
 refine⟨h.1,fun m vs h1 h2 h3=>Calls.mono (h.2 m vs h1 h2 h3) ?_⟩
 rintro e w' ⟨m',r,g1,g2,g3,g4,rfl,g5⟩
 have hb:m.β.length=0:=by rw[h2.len,h1];rfl
 obtain⟨s,hm,hs⟩:=cut_ok (k:=0) g3 g2 (Nat.zero_le _) (by omega) rfl
 refine⟨m'.cut 0,.ret (.t (.sl sz es)),by rw[<-g1];rfl,s,hm,?_,rfl,by simp[M.cut]⟩
 cases e with
 | returned x=>exact hs _ _ rfl (Le.own _ _ _ _ _ g4)
 | _=>simp[ResRel]at g4
section rules
variable {P:Program}{n:Nat}{env:Env}{H:Heap}{K:TK}{all:Array Oper}{rest:List Oper}
variable {d:Nat}{ty:TypeId}{pos:String}{aft:Array Edge}
theorem TO.callD(N:Nat){Hc Hc1 H':Heap}{cargs:List SV}{v:SV}{f:Operand}{fid:FuncId}{caps:List SV}{args:Array Operand}{ts:Array TypeId}{vs:List SV}
  (hs:Sound P fid cargs Hc fun r H'=>r= .ret v/\H'=Hc1)(hd:Nat.ble (d+1) n=true)(hf:env.val f=some (.fn fid caps))(ha:env.vals args.toList=some vs)(hl:Les (vs++caps) cargs)
  (hN:Nat.ble N H.length=true)(hc:H.take N=Hc)(hu:unders N cargs=true)(hb:blksUnder N Hc=true)(hv:v.under N=true)(h1:Hc1.length=N)(h2:blksUnder N Hc1=true)
  (hH:forceL (Hc1++H.drop N)=some H')(k:TO false P n all rest ((d,v)::env) H' K):
  TO false P n all (⟨some d,.call { callee:=.value f,args:=args,argTypes:=ts },ty,pos,aft,none⟩::rest) env H K:=by
 refine TO.callT N hs ⟨fun u G hr=>?_,fun u G hr=>?_⟩ hd hf ha hl hu (Nat.le_of_ble_eq_true hN) hc hb (fun u G hr=>?_) (fun u G hr=>?_)
 ·obtain⟨h,rfl⟩:=hr;cases h;exact⟨hv,h1,h2⟩
 ·cases hr.1
 ·obtain⟨h,rfl⟩:=hr;cases h;rw[<-forceL_eq hH];exact k
 ·cases hr.1
end rules
end Go.TL
namespace Go.Proofs.YtjgmcnemcembmaaGreatDoor
open Go Go.TL
def tab:Tab:=(.node (.node (.node (.node (.node (.node (.node (.node .leaf 1 ⟨.scalar,1,8,[.v .nilFunc]⟩
 .leaf) 2 ⟨.int .i64,1,8,[.v (.int .i64 0)]⟩
 (.node .leaf 3 ⟨.int .i64,1,8,[.v (.int .i64 0)]⟩
 .leaf)) 4 ⟨.bool,1,1,[.v (.bool false)]⟩
 (.node (.node .leaf 5 ⟨.int .u8,1,1,[.v (.int .u8 0)]⟩
 .leaf) 6 ⟨.int .u8,1,1,[.v (.int .u8 0)]⟩
 .leaf)) 7 ⟨.struct [(0,2),(1,3),(2,4),(3,6)],4,24,[.v (.int .i64 0),.v (.int .i64 0),.v (.bool false),.v (.int .u8 0)]⟩
 (.node (.node (.node .leaf 8 ⟨.struct [(0,2),(1,3),(2,4),(3,6)],4,24,[.v (.int .i64 0),.v (.int .i64 0),.v (.bool false),.v (.int .u8 0)]⟩
 .leaf) 9 ⟨.str,1,16,[.v (str [])]⟩
 (.node .leaf 10 ⟨.str,1,16,[.v (str [])]⟩
 .leaf)) 11 ⟨.str,1,16,[.v (str [])]⟩
 (.node (.node .leaf 12 ⟨.int .u64,1,8,[.v (.int .u64 0)]⟩
 .leaf) 13 ⟨.struct [(0,9),(1,12)],2,24,[.v (str []),.v (.int .u64 0)]⟩
 .leaf))) 14 ⟨.struct [(0,9),(1,12)],2,24,[.v (str []),.v (.int .u64 0)]⟩
 (.node (.node (.node (.node .leaf 15 ⟨.ptr 213,1,8,[.v (.pointer none)]⟩
 .leaf) 16 ⟨.ptr 216,1,8,[.v (.pointer none)]⟩
 (.node .leaf 17 ⟨.ptr 223,1,8,[.v (.pointer none)]⟩
 .leaf)) 18 ⟨.struct [(0,17)],1,8,[.v (.pointer none)]⟩
 (.node (.node .leaf 19 ⟨.struct [(0,17)],1,8,[.v (.pointer none)]⟩
 .leaf) 20 ⟨.iface,1,16,[.v .nilIface]⟩
 .leaf)) 21 ⟨.int .i32,1,4,[.v (.int .i32 0)]⟩
 (.node (.node (.node .leaf 22 ⟨.slice 74,1,24,[.v (.slice none 0 0)]⟩
 .leaf) 23 ⟨.slice 45,1,24,[.v (.slice none 0 0)]⟩
 .leaf) 24 ⟨.struct [(0,22),(1,23)],2,48,[.v (.slice none 0 0),.v (.slice none 0 0)]⟩
 (.node (.node .leaf 25 ⟨.struct [(0,22),(1,23)],2,48,[.v (.slice none 0 0),.v (.slice none 0 0)]⟩
 .leaf) 26 ⟨.scalar,1,8,[.v .nilFunc]⟩
 .leaf)))) 27 ⟨.scalar,1,8,[.v .nilFunc]⟩
 (.node (.node (.node (.node (.node .leaf 28 ⟨.int .i64,1,8,[.v (.int .i64 0)]⟩
 .leaf) 30 ⟨.scalar,1,8,[.v .nilFunc]⟩
 (.node .leaf 31 ⟨.slice 33,1,24,[.v (.slice none 0 0)]⟩
 .leaf)) 32 ⟨.struct [(0,3),(1,3),(2,3),(3,3),(4,9),(5,31)],6,72,[.v (.int .i64 0),.v (.int .i64 0),.v (.int .i64 0),.v (.int .i64 0),.v (str []),.v (.slice none 0 0)]⟩
 (.node (.node .leaf 33 ⟨.struct [(0,3),(1,3),(2,3),(3,3),(4,9),(5,31)],6,72,[.v (.int .i64 0),.v (.int .i64 0),.v (.int .i64 0),.v (.int .i64 0),.v (str []),.v (.slice none 0 0)]⟩
 .leaf) 34 ⟨.scalar,1,8,[.v .nilFunc]⟩
 .leaf)) 35 ⟨.scalar,1,8,[.v .nilFunc]⟩
 (.node (.node (.node .leaf 36 ⟨.scalar,1,8,[.v .nilFunc]⟩
 .leaf) 37 ⟨.scalar,1,8,[.v .nilFunc]⟩
 .leaf) 38 ⟨.slice 57,1,24,[.v (.slice none 0 0)]⟩
 (.node (.node .leaf 39 ⟨.scalar,1,8,[.v .nilFunc]⟩
 .leaf) 40 ⟨.scalar,1,8,[.v .nilFunc]⟩
 .leaf))) 41 ⟨.slice 50,1,24,[.v (.slice none 0 0)]⟩
 (.node (.node (.node (.node .leaf 42 ⟨.slice 54,1,24,[.v (.slice none 0 0)]⟩
 .leaf) 43 ⟨.slice 93,1,24,[.v (.slice none 0 0)]⟩
 (.node .leaf 44 ⟨.struct [(0,9),(1,41),(2,41),(3,41),(4,42),(5,43),(6,31),(7,31)],8,184,[.v (str []),.v (.slice none 0 0),.v (.slice none 0 0),.v (.slice none 0 0),.v (.slice none 0 0),.v (.slice none 0 0),.v (.slice none 0 0),.v (.slice none 0 0)]⟩
 .leaf)) 45 ⟨.struct [(0,9),(1,41),(2,41),(3,41),(4,42),(5,43),(6,31),(7,31)],8,184,[.v (str []),.v (.slice none 0 0),.v (.slice none 0 0),.v (.slice none 0 0),.v (.slice none 0 0),.v (.slice none 0 0),.v (.slice none 0 0),.v (.slice none 0 0)]⟩
 (.node (.node .leaf 46 ⟨.scalar,1,8,[.v .nilFunc]⟩
 .leaf) 47 ⟨.scalar,1,8,[.v .nilFunc]⟩
 .leaf)) 48 ⟨.scalar,1,8,[.v .nilFunc]⟩
 (.node (.node (.node .leaf 49 ⟨.struct [(0,9),(1,3),(2,38)],3,48,[.v (str []),.v (.int .i64 0),.v (.slice none 0 0)]⟩
 .leaf) 50 ⟨.struct [(0,9),(1,3),(2,38)],3,48,[.v (str []),.v (.int .i64 0),.v (.slice none 0 0)]⟩
 .leaf) 51 ⟨.slice 9,1,24,[.v (.slice none 0 0)]⟩
 (.node (.node .leaf 52 ⟨.scalar,1,8,[.v .nilFunc]⟩
 .leaf) 53 ⟨.struct [(0,51),(1,33)],7,96,[.v (.slice none 0 0),.v (.int .i64 0),.v (.int .i64 0),.v (.int .i64 0),.v (.int .i64 0),.v (str []),.v (.slice none 0 0)]⟩
 .leaf))))) 54 ⟨.struct [(0,51),(1,33)],7,96,[.v (.slice none 0 0),.v (.int .i64 0),.v (.int .i64 0),.v (.int .i64 0),.v (.int .i64 0),.v (str []),.v (.slice none 0 0)]⟩
 (.node (.node (.node (.node (.node (.node .leaf 55 ⟨.scalar,1,8,[.v .nilFunc]⟩
 .leaf) 56 ⟨.struct [(0,9),(1,3),(2,3)],3,32,[.v (str []),.v (.int .i64 0),.v (.int .i64 0)]⟩
 (.node .leaf 57 ⟨.struct [(0,9),(1,3),(2,3)],3,32,[.v (str []),.v (.int .i64 0),.v (.int .i64 0)]⟩
 .leaf)) 58 ⟨.struct [(0,3),(1,3)],2,16,[.v (.int .i64 0),.v (.int .i64 0)]⟩
 (.node (.node .leaf 59 ⟨.struct [(0,3),(1,3)],2,16,[.v (.int .i64 0),.v (.int .i64 0)]⟩
 .leaf) 61 ⟨.scalar,1,8,[.v .nilFunc]⟩
 .leaf)) 62 ⟨.ptr 72,1,8,[.v (.pointer none)]⟩
 (.node (.node (.node .leaf 63 ⟨.map 3 9,1,8,[.v (.map none)]⟩
 .leaf) 64 ⟨.struct [(0,22),(1,63)],2,32,[.v (.slice none 0 0),.v (.map none)]⟩
 .leaf) 65 ⟨.struct [(0,22),(1,63)],2,32,[.v (.slice none 0 0),.v (.map none)]⟩
 (.node (.node .leaf 66 ⟨.scalar,1,8,[.v .nilFunc]⟩
 .leaf) 67 ⟨.ptr 70,1,8,[.v (.pointer none)]⟩
 .leaf))) 68 ⟨.slice 5,1,24,[.v (.slice none 0 0)]⟩
 (.node (.node (.node (.node .leaf 69 ⟨.struct [(0,67),(1,68)],2,32,[.v (.pointer none),.v (.slice none 0 0)]⟩
 .leaf) 70 ⟨.struct [(0,67),(1,68)],2,32,[.v (.pointer none),.v (.slice none 0 0)]⟩
 (.node .leaf 71 ⟨.struct [(0,65),(2,70)],4,64,[.v (.slice none 0 0),.v (.map none),.v (.pointer none),.v (.slice none 0 0)]⟩
 .leaf)) 72 ⟨.struct [(0,65),(2,70)],4,64,[.v (.slice none 0 0),.v (.map none),.v (.pointer none),.v (.slice none 0 0)]⟩
 (.node (.node .leaf 73 ⟨.struct [(0,9),(1,51)],2,40,[.v (str []),.v (.slice none 0 0)]⟩
 .leaf) 74 ⟨.struct [(0,9),(1,51)],2,40,[.v (str []),.v (.slice none 0 0)]⟩
 .leaf)) 75 ⟨.scalar,1,8,[.v .nilFunc]⟩
 (.node (.node (.node .leaf 76 ⟨.scalar,1,8,[.v .nilFunc]⟩
 .leaf) 77 ⟨.scalar,1,8,[.v .nilFunc]⟩
 .leaf) 78 ⟨.scalar,1,8,[.v .nilFunc]⟩
 (.node (.node .leaf 79 ⟨.scalar,1,8,[.v .nilFunc]⟩
 .leaf) 80 ⟨.scalar,1,8,[.v .nilFunc]⟩
 .leaf)))) 81 ⟨.scalar,1,8,[.v .nilFunc]⟩
 (.node (.node (.node (.node (.node .leaf 82 ⟨.scalar,1,8,[.v .nilFunc]⟩
 .leaf) 83 ⟨.scalar,1,8,[.v .nilFunc]⟩
 (.node .leaf 84 ⟨.scalar,1,8,[.v .nilFunc]⟩
 .leaf)) 85 ⟨.scalar,1,8,[.v .nilFunc]⟩
 (.node (.node .leaf 86 ⟨.scalar,1,8,[.v .nilFunc]⟩
 .leaf) 87 ⟨.scalar,1,8,[.v .nilFunc]⟩
 .leaf)) 88 ⟨.scalar,1,8,[.v .nilFunc]⟩
 (.node (.node (.node .leaf 89 ⟨.scalar,1,8,[.v .nilFunc]⟩
 .leaf) 90 ⟨.scalar,1,8,[.v .nilFunc]⟩
 .leaf) 91 ⟨.slice 96,1,24,[.v (.slice none 0 0)]⟩
 (.node (.node .leaf 92 ⟨.struct [(0,91)],1,24,[.v (.slice none 0 0)]⟩
 .leaf) 93 ⟨.struct [(0,91)],1,24,[.v (.slice none 0 0)]⟩
 .leaf))) 94 ⟨.slice 161,1,24,[.v (.slice none 0 0)]⟩
 (.node (.node (.node (.node .leaf 95 ⟨.struct [(0,9),(1,41),(2,42),(3,43),(4,94),(5,94)],6,136,[.v (str []),.v (.slice none 0 0),.v (.slice none 0 0),.v (.slice none 0 0),.v (.slice none 0 0),.v (.slice none 0 0)]⟩
 .leaf) 96 ⟨.struct [(0,9),(1,41),(2,42),(3,43),(4,94),(5,94)],6,136,[.v (str []),.v (.slice none 0 0),.v (.slice none 0 0),.v (.slice none 0 0),.v (.slice none 0 0),.v (.slice none 0 0)]⟩
 (.node .leaf 97 ⟨.scalar,1,8,[.v .nilFunc]⟩
 .leaf)) 98 ⟨.scalar,1,8,[.v .nilFunc]⟩
 (.node (.node .leaf 99 ⟨.scalar,1,8,[.v .nilFunc]⟩
 .leaf) 100 ⟨.scalar,1,8,[.v .nilFunc]⟩
 .leaf)) 101 ⟨.struct [(0,59),(2,28)],3,24,[.v (.int .i64 0),.v (.int .i64 0),.v (.int .i64 0)]⟩
 (.node (.node (.node .leaf 102 ⟨.struct [(0,59),(2,28)],3,24,[.v (.int .i64 0),.v (.int .i64 0),.v (.int .i64 0)]⟩
 .leaf) 104 ⟨.ptr 106,1,8,[.v (.pointer none)]⟩
 .leaf) 105 ⟨.struct [(0,22),(1,59)],3,40,[.v (.slice none 0 0),.v (.int .i64 0),.v (.int .i64 0)]⟩
 (.node (.node .leaf 106 ⟨.struct [(0,22),(1,59)],3,40,[.v (.slice none 0 0),.v (.int .i64 0),.v (.int .i64 0)]⟩
 .leaf) 107 ⟨.scalar,1,8,[.v .nilFunc]⟩
 .leaf)))))) 108 ⟨.scalar,1,8,[.v .nilFunc]⟩
 (.node (.node (.node (.node (.node (.node (.node .leaf 109 ⟨.scalar,1,8,[.v .nilFunc]⟩
 .leaf) 110 ⟨.iface,1,16,[.v .nilIface]⟩
 (.node .leaf 111 ⟨.iface,1,16,[.v .nilIface]⟩
 .leaf)) 113 ⟨.scalar,1,8,[.v .nilFunc]⟩
 (.node (.node .leaf 114 ⟨.scalar,1,8,[.v .nilFunc]⟩
 .leaf) 115 ⟨.scalar,1,8,[.v .nilFunc]⟩
 .leaf)) 116 ⟨.scalar,1,8,[.v .nilFunc]⟩
 (.node (.node (.node .leaf 117 ⟨.scalar,1,8,[.v .nilFunc]⟩
 .leaf) 118 ⟨.scalar,1,8,[.v .nilFunc]⟩
 (.node .leaf 119 ⟨.ptr 5,1,8,[.v (.pointer none)]⟩
 .leaf)) 120 ⟨.scalar,1,8,[.v .nilFunc]⟩
 (.node (.node .leaf 121 ⟨.scalar,1,8,[.v .nilFunc]⟩
 .leaf) 122 ⟨.scalar,1,8,[.v .nilFunc]⟩
 .leaf))) 124 ⟨.scalar,1,8,[.v .nilFunc]⟩
 (.node (.node (.node (.node .leaf 125 ⟨.scalar,1,8,[.v .nilFunc]⟩
 .leaf) 126 ⟨.scalar,1,8,[.v .nilFunc]⟩
 (.node .leaf 127 ⟨.scalar,1,8,[.v .nilFunc]⟩
 .leaf)) 128 ⟨.scalar,1,8,[.v .nilFunc]⟩
 (.node (.node .leaf 129 ⟨.scalar,1,8,[.v .nilFunc]⟩
 .leaf) 130 ⟨.scalar,1,8,[.v .nilFunc]⟩
 .leaf)) 131 ⟨.scalar,1,8,[.v .nilFunc]⟩
 (.node (.node (.node .leaf 132 ⟨.scalar,1,8,[.v .nilFunc]⟩
 .leaf) 133 ⟨.scalar,1,8,[.v .nilFunc]⟩
 .leaf) 134 ⟨.scalar,1,8,[.v .nilFunc]⟩
 (.node (.node .leaf 135 ⟨.scalar,1,8,[.v .nilFunc]⟩
 .leaf) 136 ⟨.scalar,1,8,[.v .nilFunc]⟩
 .leaf)))) 137 ⟨.scalar,1,8,[.v .nilFunc]⟩
 (.node (.node (.node (.node (.node .leaf 138 ⟨.scalar,1,8,[.v .nilFunc]⟩
 .leaf) 139 ⟨.scalar,1,8,[.v .nilFunc]⟩
 (.node .leaf 140 ⟨.scalar,1,8,[.v .nilFunc]⟩
 .leaf)) 141 ⟨.int .u64,1,8,[.v (.int .u64 0)]⟩
 (.node (.node .leaf 143 ⟨.scalar,1,8,[.v .nilFunc]⟩
 .leaf) 144 ⟨.scalar,1,8,[.v .nilFunc]⟩
 .leaf)) 145 ⟨.scalar,1,8,[.v .nilFunc]⟩
 (.node (.node (.node .leaf 146 ⟨.scalar,1,8,[.v .nilFunc]⟩
 .leaf) 147 ⟨.scalar,1,8,[.v .nilFunc]⟩
 .leaf) 148 ⟨.scalar,1,8,[.v .nilFunc]⟩
 (.node (.node .leaf 149 ⟨.scalar,1,8,[.v .nilFunc]⟩
 .leaf) 150 ⟨.scalar,1,8,[.v .nilFunc]⟩
 .leaf))) 151 ⟨.scalar,1,8,[.v .nilFunc]⟩
 (.node (.node (.node (.node .leaf 152 ⟨.scalar,1,8,[.v .nilFunc]⟩
 .leaf) 153 ⟨.scalar,1,8,[.v .nilFunc]⟩
 (.node .leaf 154 ⟨.scalar,1,8,[.v .nilFunc]⟩
 .leaf)) 155 ⟨.scalar,1,8,[.v .nilFunc]⟩
 (.node (.node .leaf 156 ⟨.scalar,1,8,[.v .nilFunc]⟩
 .leaf) 157 ⟨.scalar,1,8,[.v .nilFunc]⟩
 .leaf)) 159 ⟨.scalar,1,8,[.v .nilFunc]⟩
 (.node (.node (.node .leaf 160 ⟨.struct [(0,33),(6,3),(7,4)],8,88,[.v (.int .i64 0),.v (.int .i64 0),.v (.int .i64 0),.v (.int .i64 0),.v (str []),.v (.slice none 0 0),.v (.int .i64 0),.v (.bool false)]⟩
 .leaf) 161 ⟨.struct [(0,33),(6,3),(7,4)],8,88,[.v (.int .i64 0),.v (.int .i64 0),.v (.int .i64 0),.v (.int .i64 0),.v (str []),.v (.slice none 0 0),.v (.int .i64 0),.v (.bool false)]⟩
 .leaf) 162 ⟨.scalar,1,8,[.v .nilFunc]⟩
 (.node (.node .leaf 164 ⟨.scalar,1,8,[.v .nilFunc]⟩
 .leaf) 165 ⟨.int .u32,1,4,[.v (.int .u32 0)]⟩
 .leaf))))) 167 ⟨.scalar,1,8,[.v .nilFunc]⟩
 (.node (.node (.node (.node (.node (.node .leaf 168 ⟨.int .u64,1,8,[.v (.int .u64 0)]⟩
 .leaf) 170 ⟨.scalar,1,8,[.v .nilFunc]⟩
 (.node .leaf 171 ⟨.scalar,1,8,[.v .nilFunc]⟩
 .leaf)) 172 ⟨.scalar,1,8,[.v .nilFunc]⟩
 (.node (.node .leaf 173 ⟨.scalar,1,8,[.v .nilFunc]⟩
 .leaf) 174 ⟨.scalar,1,8,[.v .nilFunc]⟩
 .leaf)) 175 ⟨.scalar,1,8,[.v .nilFunc]⟩
 (.node (.node (.node .leaf 176 ⟨.struct [(0,4),(1,4),(2,4),(3,4),(4,4)],5,5,[.v (.bool false),.v (.bool false),.v (.bool false),.v (.bool false),.v (.bool false)]⟩
 .leaf) 177 ⟨.struct [(0,4),(1,4),(2,4),(3,4),(4,4)],5,5,[.v (.bool false),.v (.bool false),.v (.bool false),.v (.bool false),.v (.bool false)]⟩
 .leaf) 178 ⟨.scalar,1,8,[.v .nilFunc]⟩
 (.node (.node .leaf 179 ⟨.slice 4,1,24,[.v (.slice none 0 0)]⟩
 .leaf) 180 ⟨.struct [(0,179),(1,179)],2,48,[.v (.slice none 0 0),.v (.slice none 0 0)]⟩
 .leaf))) 181 ⟨.struct [(0,179),(1,179)],2,48,[.v (.slice none 0 0),.v (.slice none 0 0)]⟩
 (.node (.node (.node (.node .leaf 183 ⟨.scalar,1,8,[.v .nilFunc]⟩
 .leaf) 184 ⟨.scalar,1,8,[.v .nilFunc]⟩
 (.node .leaf 185 ⟨.scalar,1,8,[.v .nilFunc]⟩
 .leaf)) 186 ⟨.scalar,1,8,[.v .nilFunc]⟩
 (.node (.node .leaf 187 ⟨.scalar,1,8,[.v .nilFunc]⟩
 .leaf) 188 ⟨.scalar,1,8,[.v .nilFunc]⟩
 .leaf)) 190 ⟨.scalar,1,8,[.v .nilFunc]⟩
 (.node (.node (.node .leaf 191 ⟨.scalar,1,8,[.v .nilFunc]⟩
 .leaf) 193 ⟨.scalar,1,8,[.v .nilFunc]⟩
 .leaf) 194 ⟨.scalar,1,8,[.v .nilFunc]⟩
 (.node (.node .leaf 195 ⟨.scalar,1,8,[.v .nilFunc]⟩
 .leaf) 196 ⟨.scalar,1,8,[.v .nilFunc]⟩
 .leaf)))) 197 ⟨.scalar,1,8,[.v .nilFunc]⟩
 (.node (.node (.node (.node (.node .leaf 198 ⟨.array 24 5,24,24,[.v (.int .u8 0),.v (.int .u8 0),.v (.int .u8 0),.v (.int .u8 0),.v (.int .u8 0),.v (.int .u8 0),.v (.int .u8 0),.v (.int .u8 0),.v (.int .u8 0),.v (.int .u8 0),.v (.int .u8 0),.v (.int .u8 0),.v (.int .u8 0),.v (.int .u8 0),.v (.int .u8 0),.v (.int .u8 0),.v (.int .u8 0),.v (.int .u8 0),.v (.int .u8 0),.v (.int .u8 0),.v (.int .u8 0),.v (.int .u8 0),.v (.int .u8 0),.v (.int .u8 0)]⟩
 .leaf) 199 ⟨.scalar,1,8,[.v .nilFunc]⟩
 (.node .leaf 200 ⟨.scalar,1,8,[.v .nilFunc]⟩
 .leaf)) 202 ⟨.scalar,1,8,[.v .nilFunc]⟩
 (.node (.node .leaf 203 ⟨.scalar,1,8,[.v .nilFunc]⟩
 .leaf) 204 ⟨.scalar,1,8,[.v .nilFunc]⟩
 .leaf)) 205 ⟨.array 20 168,20,160,[.v (.int .u64 0),.v (.int .u64 0),.v (.int .u64 0),.v (.int .u64 0),.v (.int .u64 0),.v (.int .u64 0),.v (.int .u64 0),.v (.int .u64 0),.v (.int .u64 0),.v (.int .u64 0),.v (.int .u64 0),.v (.int .u64 0),.v (.int .u64 0),.v (.int .u64 0),.v (.int .u64 0),.v (.int .u64 0),.v (.int .u64 0),.v (.int .u64 0),.v (.int .u64 0),.v (.int .u64 0)]⟩
 (.node (.node (.node .leaf 206 ⟨.array 65 5,65,65,[.v (.int .u8 0),.v (.int .u8 0),.v (.int .u8 0),.v (.int .u8 0),.v (.int .u8 0),.v (.int .u8 0),.v (.int .u8 0),.v (.int .u8 0),.v (.int .u8 0),.v (.int .u8 0),.v (.int .u8 0),.v (.int .u8 0),.v (.int .u8 0),.v (.int .u8 0),.v (.int .u8 0),.v (.int .u8 0),.v (.int .u8 0),.v (.int .u8 0),.v (.int .u8 0),.v (.int .u8 0),.v (.int .u8 0),.v (.int .u8 0),.v (.int .u8 0),.v (.int .u8 0),.v (.int .u8 0),.v (.int .u8 0),.v (.int .u8 0),.v (.int .u8 0),.v (.int .u8 0),.v (.int .u8 0),.v (.int .u8 0),.v (.int .u8 0),.v (.int .u8 0),.v (.int .u8 0),.v (.int .u8 0),.v (.int .u8 0),.v (.int .u8 0),.v (.int .u8 0),.v (.int .u8 0),.v (.int .u8 0),.v (.int .u8 0),.v (.int .u8 0),.v (.int .u8 0),.v (.int .u8 0),.v (.int .u8 0),.v (.int .u8 0),.v (.int .u8 0),.v (.int .u8 0),.v (.int .u8 0),.v (.int .u8 0),.v (.int .u8 0),.v (.int .u8 0),.v (.int .u8 0),.v (.int .u8 0),.v (.int .u8 0),.v (.int .u8 0),.v (.int .u8 0),.v (.int .u8 0),.v (.int .u8 0),.v (.int .u8 0),.v (.int .u8 0),.v (.int .u8 0),.v (.int .u8 0),.v (.int .u8 0),.v (.int .u8 0)]⟩
 .leaf) 207 ⟨.scalar,1,8,[.v .nilFunc]⟩
 .leaf) 208 ⟨.scalar,1,8,[.v .nilFunc]⟩
 (.node (.node .leaf 209 ⟨.scalar,1,8,[.v .nilFunc]⟩
 .leaf) 210 ⟨.array 32 5,32,32,[.v (.int .u8 0),.v (.int .u8 0),.v (.int .u8 0),.v (.int .u8 0),.v (.int .u8 0),.v (.int .u8 0),.v (.int .u8 0),.v (.int .u8 0),.v (.int .u8 0),.v (.int .u8 0),.v (.int .u8 0),.v (.int .u8 0),.v (.int .u8 0),.v (.int .u8 0),.v (.int .u8 0),.v (.int .u8 0),.v (.int .u8 0),.v (.int .u8 0),.v (.int .u8 0),.v (.int .u8 0),.v (.int .u8 0),.v (.int .u8 0),.v (.int .u8 0),.v (.int .u8 0),.v (.int .u8 0),.v (.int .u8 0),.v (.int .u8 0),.v (.int .u8 0),.v (.int .u8 0),.v (.int .u8 0),.v (.int .u8 0),.v (.int .u8 0)]⟩
 .leaf))) 211 ⟨.array 64 5,64,64,[.v (.int .u8 0),.v (.int .u8 0),.v (.int .u8 0),.v (.int .u8 0),.v (.int .u8 0),.v (.int .u8 0),.v (.int .u8 0),.v (.int .u8 0),.v (.int .u8 0),.v (.int .u8 0),.v (.int .u8 0),.v (.int .u8 0),.v (.int .u8 0),.v (.int .u8 0),.v (.int .u8 0),.v (.int .u8 0),.v (.int .u8 0),.v (.int .u8 0),.v (.int .u8 0),.v (.int .u8 0),.v (.int .u8 0),.v (.int .u8 0),.v (.int .u8 0),.v (.int .u8 0),.v (.int .u8 0),.v (.int .u8 0),.v (.int .u8 0),.v (.int .u8 0),.v (.int .u8 0),.v (.int .u8 0),.v (.int .u8 0),.v (.int .u8 0),.v (.int .u8 0),.v (.int .u8 0),.v (.int .u8 0),.v (.int .u8 0),.v (.int .u8 0),.v (.int .u8 0),.v (.int .u8 0),.v (.int .u8 0),.v (.int .u8 0),.v (.int .u8 0),.v (.int .u8 0),.v (.int .u8 0),.v (.int .u8 0),.v (.int .u8 0),.v (.int .u8 0),.v (.int .u8 0),.v (.int .u8 0),.v (.int .u8 0),.v (.int .u8 0),.v (.int .u8 0),.v (.int .u8 0),.v (.int .u8 0),.v (.int .u8 0),.v (.int .u8 0),.v (.int .u8 0),.v (.int .u8 0),.v (.int .u8 0),.v (.int .u8 0),.v (.int .u8 0),.v (.int .u8 0),.v (.int .u8 0),.v (.int .u8 0)]⟩
 (.node (.node (.node (.node .leaf 212 ⟨.struct [(0,17),(1,17),(2,17),(3,9)],4,40,[.v (.pointer none),.v (.pointer none),.v (.pointer none),.v (str [])]⟩
 .leaf) 213 ⟨.struct [(0,17),(1,17),(2,17),(3,9)],4,40,[.v (.pointer none),.v (.pointer none),.v (.pointer none),.v (str [])]⟩
 (.node .leaf 214 ⟨.array 0 16,0,0,[]⟩
 .leaf)) 215 ⟨.struct [(0,214)],0,0,[]⟩
 (.node (.node .leaf 216 ⟨.struct [(0,214)],0,0,[]⟩
 .leaf) 217 ⟨.int .u8,1,1,[.v (.int .u8 0)]⟩
 .leaf)) 218 ⟨.int .u8,1,1,[.v (.int .u8 0)]⟩
 (.node (.node (.node .leaf 219 ⟨.scalar,1,8,[.v .nilFunc]⟩
 .leaf) 220 ⟨.int .i32,1,4,[.v (.int .i32 0)]⟩
 .leaf) 221 ⟨.int .i32,1,4,[.v (.int .i32 0)]⟩
 (.node (.node .leaf 222 ⟨.struct [(0,12),(1,12),(2,165),(3,217),(4,5),(5,5),(6,218),(7,219),(8,119),(9,220),(10,221)],11,48,[.v (.int .u64 0),.v (.int .u64 0),.v (.int .u32 0),.v (.int .u8 0),.v (.int .u8 0),.v (.int .u8 0),.v (.int .u8 0),.v .nilFunc,.v (.pointer none),.v (.int .i32 0),.v (.int .i32 0)]⟩
 .leaf) 223 ⟨.struct [(0,12),(1,12),(2,165),(3,217),(4,5),(5,5),(6,218),(7,219),(8,119),(9,220),(10,221)],11,48,[.v (.int .u64 0),.v (.int .u64 0),.v (.int .u32 0),.v (.int .u8 0),.v (.int .u8 0),.v (.int .u8 0),.v (.int .u8 0),.v .nilFunc,.v (.pointer none),.v (.int .i32 0),.v (.int .i32 0)]⟩
 .leaf)))))))
theorem tabOk:TabOk Tryz.prog tab:=tabOk_of_check (by kernel_rfl)
theorem so{f:FuncId}{fn:Func}{c:Code}{args:List SV}{H:Heap}{R:Res->Heap->Prop}(hf:Tryz.prog.funcs[f]?=some fn)(h:TR Tryz.prog fn.ntmps c (argEnv 0 args) H (RetK tab fn.results.toList H.length R))
  (hn:(fn.name == "runtime.NumGoroutine")=false:=by kernel_rfl)(hb:fn.body=some c:=by exact rfl)(ha:Nat.ble args.length fn.ntmps=true:=by exact rfl):Sound Tryz.prog f args H R:=Sound.of tabOk hf hn hb ha h
end Go.Proofs.YtjgmcnemcembmaaGreatDoor
