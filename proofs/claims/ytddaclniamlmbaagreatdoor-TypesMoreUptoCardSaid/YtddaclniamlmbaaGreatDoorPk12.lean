import Derived.Lib.MinMax
import Derived.Lib.Bytealg
import Derived.Test.YtddaclniamlmbaaGreatDoorProg
import Derived.Test.YtddaclniamlmbaaGreatDoorPk7
import Derived.Test.YtddaclniamlmbaaGreatDoorPk11
set_option linter.unusedSimpArgs false
set_option linter.unusedVariables false
namespace Go.TL
open Go
def afterOf(ops:Array Oper)(i:Nat):List Nat:=((ops[i]?).map fun o=>(o.after.toList.filter (Region.binds .any)).map (·.on)).getD []
def stepCov(ops:Array Oper)(l:List Nat):List Nat:=(List.range ops.size).filter fun i=>l.contains i || l.any fun j=>(afterOf ops j).contains i
def cov(ops:Array Oper):Nat->List Nat->List Nat
 | 0,l=>l
 | f+1,l=>cov ops f (stepCov ops l)
def downB(ops:Array Oper):Bool:=(List.range ops.size).all fun i=>(afterOf ops i).all fun j=>Nat.blt j i
def forcedB(ops:Array Oper)(k:Nat):Bool:=(List.range ops.size).all fun j=>Nat.blt j k || (List.range j).all fun i=>(cov ops 8 (afterOf ops j)).contains i
def DC(ops:Array Oper)(L:Array Bool):Prop:=∀i,L[i]?=some true->∀j∈afterOf ops i,L[j]?=some true
theorem gT{L:Array Bool}{i:Nat}:L.getD i false=true ↔ L[i]?=some true:=by
 rw[Array.getD_eq_getD_getElem?];cases L[i]? <;> simp
theorem gF{L:Array Bool}{i:Nat}:L.getD i true=false ↔ L[i]?=some false:=by
 rw[Array.getD_eq_getD_getElem?];cases L[i]? <;> simp
theorem cov_listed{ops:Array Oper}{L:Array Bool}(h:DC ops L):∀(f:Nat) (l:List Nat),(∀i∈l,L[i]?=some true)->∀i∈cov ops f l,L[i]?=some true
 | 0,l,hl=>hl
 | f+1,l,hl=>cov_listed h f _ fun i hi=>by
   simp only[stepCov,List.mem_filter,Bool.or_eq_true,List.any_eq_true,List.contains_iff_mem]at hi
   rcases hi.2 with h1|⟨j,h1,h2⟩
   ·exact hl i h1
   ·exact h j (hl j h1) i h2
theorem ready_iff{ops:Array Oper}{L:Array Bool}{i:Nat}(hs:L.size=ops.size):i∈Region.ready .any ops L ↔ L[i]?=some false/\∀j∈afterOf ops i,L[j]?=some true:=by
 rw[mem_ready,gF]
 constructor
 ·rintro⟨h1,o,ho,h2⟩
  refine⟨h1,fun j hj=>?_⟩
  simp only[afterOf,ho,Option.map_some,Option.getD_some,List.mem_map,List.mem_filter]at hj
  obtain⟨e,⟨he,hb⟩,rfl⟩:=hj
  exact gT.1 (h2 e (by simpa using he) hb)
 ·rintro⟨h1,h2⟩
  have hi:=(Array.getElem?_eq_some_iff.1 h1).1
  have ho:ops[i]?=some (ops[i]'(by omega)):=Array.getElem?_eq_getElem (by omega)
  refine⟨h1,_,ho,fun e he hb=>gT.2 (h2 _ ?_)⟩
  simp only[afterOf,ho,Option.map_some,Option.getD_some,List.mem_map,List.mem_filter]
  exact⟨e,⟨by simpa using he,hb⟩,rfl⟩
theorem least{p:Nat->Prop}[DecidablePred p]:∀n,¬p n->∃m,m≤n/\¬p m/\∀j,j<m->p j:=by
 intro n
 induction n using Nat.strongRecOn with
 | ind n ih=>
   intro h
   by_cases hx:∃j,j<n/\¬p j
   ·obtain⟨j,hj,hp⟩:=hx
    obtain⟨m,h1,h2,h3⟩:=ih j hj hp
    exact⟨m,by omega,h2,h3⟩
   ·exact⟨n,Nat.le_refl _,h,fun j hj=>Classical.byContradiction fun hp=>hx ⟨j,hj,hp⟩⟩
theorem first_ready{ops:Array Oper}{L:Array Bool}(hs:L.size=ops.size)(hd:downB ops=true){n:Nat}(hn:L[n]?=some false):∃m,m≤n/\m∈Region.ready .any ops L/\∀j,j<m->L[j]?=some true:=by
 obtain⟨m,h1,h2,h3⟩:=least (p:=fun j=>L[j]?=some true) n (by rw[hn];simp)
 have hnl:=(Array.getElem?_eq_some_iff.1 hn).1
 have hm:L[m]?=some false:=by
  have:L[m]?=some (L[m]'(by omega)):=Array.getElem?_eq_getElem (by omega)
  rw[this]at h2⊢
  cases h:L[m]'(by omega)
  ·rfl
  ·rw[h]at h2;exact absurd rfl h2
 refine⟨m,h1,(ready_iff hs).2 ⟨hm,fun j hj=>h3 j ?_⟩,h3⟩
 have:=List.all_eq_true.1 hd m (by simp;omega)
 have:=List.all_eq_true.1 this j hj
 simpa using this
theorem forced{ops:Array Oper}{L:Array Bool}{k j:Nat}(hs:L.size=ops.size)(hf:forcedB ops k=true)(hdc:DC ops L)(hj:j∈Region.ready .any ops L)(hk:k≤j):∀i,i<j->L[i]?=some true:=by
 intro i hi
 obtain⟨h1,h2⟩:=(ready_iff hs).1 hj
 have hlt:=(Array.getElem?_eq_some_iff.1 h1).1
 have:=List.all_eq_true.1 hf j (by simp;omega)
 simp only[Bool.or_eq_true]at this
 rcases this with h|h
 ·simp at h;omega
 ·have:=List.all_eq_true.1 h i (by simpa using hi)
  exact cov_listed hdc 8 _ h2 i (by simpa using this)
theorem dc_set{ops:Array Oper}{L:Array Bool}{i:Nat}(hs:L.size=ops.size)(hdc:DC ops L)(hi:i∈Region.ready .any ops L):DC ops (L.setIfInBounds i true):=by
 have key:∀(j:Nat),L[j]?=some true->(L.setIfInBounds i true)[j]?=some true:=by
  intro j hj
  rw[Array.getElem?_setIfInBounds]
  have:=(Array.getElem?_eq_some_iff.1 hj).1
  split
  ·rw[if_pos (by omega)]
  ·exact hj
 intro x hx j hj
 rw[Array.getElem?_setIfInBounds]at hx
 split at hx
 ·rename_i e
  subst e
  exact key j (((ready_iff hs).1 hi).2 j hj)
 ·exact key j (hdc x hx j hj)
section rules
variable {P:Program}{all:Array Oper}
theorem any_mono{F:Fence}{N:Nat}{md:Region.Mode}{Q:Exit->Act->World->Prop}:∀(f:Nat) (L:Array Bool) (a:Act) (w:World),wpAnyIn F N P md all Q f L a w->wpAnyIn F N P md all Q (f+1) L a w
 | 0,L,a,w,h=>⟨fun _=>h.2,fun i hi=>by rw[h.1]at hi;cases hi⟩
 | f+1,L,a,w,h=>⟨h.1,fun i hi=>wpOpIn_mono (fun a w h2=>any_mono f _ a w h2) (h.2 i hi)⟩
theorem any_monoN{F:Fence}{N:Nat}{md:Region.Mode}{Q:Exit->Act->World->Prop}(f:Nat)(L:Array Bool)(a:Act)(w:World)(h:wpAnyIn F N P md all Q f L a w):∀k,wpAnyIn F N P md all Q (k+f) L a w
 | 0=>by rw[Nat.zero_add];exact h
 | k+1=>by rw[show k+1+f=(k+f)+1 from by omega];exact any_mono _ _ _ _ (any_monoN f L a w h k)
theorem any_pre{r:Option Nat}{C:World->Prop}{Q:Act->Prop}{Q':Exit->Act->World->Prop}{k n2:Nat}(hd:downB all=true)(hf:forcedB all k=true)(hp:∀(i:Nat) o,i<k->all[i]?=some o->Op.plain o.op=true)
  (hQ:∀(L:Array Bool) a w,L.size=all.size->(∀(i:Nat),i<k->i<all.size->L[i]?=some true)->(∀(i:Nat),k≤i->i<all.size->L[i]?=some false)->C w->Q a->wpAnyIn (Fr r) 0 P .any all Q' n2 L a w):
  ∀(u:Nat) (L M:Array Bool) (a:Act) (w:World),L.size=all.size->M.size=all.size->(∀(i:Nat),i<k->M[i]?=L[i]?)->(∀(i:Nat),k≤i->i<all.size->M[i]?=some true)->(∀(i:Nat),k≤i->i<all.size->L[i]?=some false)->
   DC all L->C w->wpAnyQIn (Fr r) 0 P .any all C Q u M a->wpAnyIn (Fr r) 0 P .any all Q' (u+n2) L a w:=by
 intro u
 have full:∀(L M:Array Bool),L.size=all.size->M.size=all.size->(∀(i:Nat),i<k->M[i]?=L[i]?)->(∀(i:Nat),k≤i->i<all.size->M[i]?=some true)->DC all L->Region.ready .any all M=[]->∀(i:Nat),i<k->i<all.size->L[i]?=some true:=by
  intro L M hL hM h1 h2 hdc hr i hi hia
  refine Classical.byContradiction fun hne=>?_
  have hMi:M[i]?=some false:=by
   rw[h1 i hi]
   have:L[i]?=some (L[i]'(by omega)):=Array.getElem?_eq_getElem (by omega)
   rw[this]at hne⊢
   cases h:L[i]'(by omega)
   ·rfl
   ·rw[h]at hne;exact absurd rfl hne
  obtain⟨m,_,hm,_⟩:=first_ready hM hd hMi
  rw[hr]at hm;cases hm
 induction u with
 | zero=>
   intro L M a w hL hM h1 h2 h3 hdc hC h
   rw[Nat.zero_add]
   exact hQ L a w hL (full L M hL hM h1 h2 hdc h.1) h3 hC h.2
 | succ u ih=>
   intro L M a w hL hM h1 h2 h3 hdc hC h
   by_cases hr:Region.ready .any all M=[]
   ·exact any_monoN _ _ _ _ (hQ L a w hL (full L M hL hM h1 h2 hdc hr) h3 hC (h.1 hr)) (u+1)
   ·
    obtain⟨x,hx⟩:=List.exists_mem_of_ne_nil _ hr
    have hx1:=((ready_iff hM).1 hx).1
    have hxl:=(Array.getElem?_eq_some_iff.1 hx1).1
    have hxk:x<k:=Nat.lt_of_not_le fun hle=>by rw[h2 x hle (by omega)]at hx1;cases hx1
    have hLx:L[x]?=some false:=by rw[<-h1 x hxk];exact hx1
    rw[show u+1+n2=(u+n2)+1 from by omega]
    refine⟨fun h0=>?_,fun i hi=>?_⟩
    ·obtain⟨m,_,hm,_⟩:=first_ready hL hd hLx
     rw[h0]at hm;cases hm
    ·have hik:i<k:=Nat.lt_of_not_le fun hle=>by
      have:=forced hL hf hdc hi hle x (by omega)
      rw[this]at hLx;cases hLx
     obtain⟨g1,g2⟩:=(ready_iff hL).1 hi
     have hiM:i∈Region.ready .any all M:=by
      refine(ready_iff hM).2 ⟨by rw[h1 i hik];exact g1,fun j hj=>?_⟩
      have hjl:=(Array.getElem?_eq_some_iff.1 (g2 j hj)).1
      by_cases hjk:j<k
      ·rw[h1 j hjk];exact g2 j hj
      ·exact h2 j (by omega) (by omega)
     have hnext:∀a' w',C w'->wpAnyQIn (Fr r) 0 P .any all C Q u (M.setIfInBounds i true) a'->wpAnyIn (Fr r) 0 P .any all Q' (u+n2) (L.setIfInBounds i true) a' w':=by
      intro a' w' hC' hk'
      refine ih (L.setIfInBounds i true) (M.setIfInBounds i true) a' w' (by simpa using hL) (by simpa using hM) ?_ ?_ ?_ (dc_set hL hdc hi) hC' hk'
      ·intro j hj
       rw[Array.getElem?_setIfInBounds,Array.getElem?_setIfInBounds,h1 j hj,hL,hM]
      ·intro j hj hja
       rw[Array.getElem?_setIfInBounds,if_neg (by omega)]
       exact h2 j hj hja
      ·intro j hj hja
       rw[Array.getElem?_setIfInBounds,if_neg (by omega)]
       exact h3 j hj hja
     have h4:=h.2 i hiM
     unfold qOpIn at h4
     unfold wpOpIn
     cases ho:all[i]? with
     | none=>simp only[ho]at h4⊢;exact hnext _ _ hC h4
     | some o=>
       simp only[ho]at h4⊢
       obtain⟨_,h4⟩:=h4
       split
       ·rename_i hwt
        rw[if_pos hwt]at h4
        exact op_of_quiet (hp i o hik ho) hC (fun a' w' hw' hk=>hnext a' w' hw' hk) h4
       ·rename_i hwt
        rw[if_neg hwt]at h4
        exact⟨fun _ _=>trivial,hnext _ _ hC h4⟩
theorem any_suf{r:Option Nat}{Q':Exit->Act->World->Prop}{k:Nat}(hd:downB all=true)(hf:forcedB all k=true):∀(l:List Oper) (p:Nat) (L:Array Bool) (a:Act) (w:World),k≤p->(∀j,l[j]?=all[p+j]?)->L.size=all.size->
   (∀(i:Nat),i<p->i<all.size->L[i]?=some true)->(∀(i:Nat),p≤i->i<all.size->L[i]?=some false)->wpListIn (Fr r) 0 P all Q' l a w->wpAnyIn (Fr r) 0 P .any all Q' l.length L a w
 | [],p,L,a,w,hk,hl,hL,h1,h2,h=>by
   have hsz:all.size≤p:=Nat.le_of_not_lt fun hlt=>by
    have:=hl 0
    rw[Nat.add_zero,Array.getElem?_eq_getElem hlt]at this
    cases this
   refine⟨?_,h⟩
   refine List.eq_nil_iff_forall_not_mem.2 fun i hi=>?_
   have:=((ready_iff hL).1 hi).1
   have hlt:=(Array.getElem?_eq_some_iff.1 this).1
   rw[h1 i (by omega) (by omega)]at this
   cases this
 | o::l,p,L,a,w,hk,hl,hL,h1,h2,h=>by
   have hpo:all[p]?=some o:=by simpa using (hl 0).symm
   have hpl:=(Array.getElem?_eq_some_iff.1 hpo).1
   have hLp:=h2 p (Nat.le_refl _) hpl
   have hdc:DC all L:=by
    intro i hi j hj
    have hil:=(Array.getElem?_eq_some_iff.1 hi).1
    have hip:i<p:=Nat.lt_of_not_le fun hle=>by rw[h2 i hle (by omega)]at hi;cases hi
    have:=List.all_eq_true.1 hd i (by simp;omega)
    have:=List.all_eq_true.1 this j hj
    have hji:j<i:=by simpa using this
    exact h1 j (by omega) (by omega)
   refine⟨fun h0=>?_,fun i hi=>?_⟩
   ·obtain⟨m,_,hm,_⟩:=first_ready hL hd hLp
    rw[h0]at hm;cases hm
   ·have hi1:=((ready_iff hL).1 hi).1
    have hil:=(Array.getElem?_eq_some_iff.1 hi1).1
    have hip:p≤i:=Nat.le_of_not_lt fun hlt=>by rw[h1 i hlt (by omega)]at hi1;cases hi1
    have hipe:i=p:=by
     refine Classical.byContradiction fun hne=>?_
     have:=forced hL hf hdc hi (by omega) p (by omega)
     rw[this]at hLp;cases hLp
    subst hipe
    have hnext:∀a' w',wpListIn (Fr r) 0 P all Q' l a' w'->wpAnyIn (Fr r) 0 P .any all Q' l.length (L.setIfInBounds i true) a' w':=by
     intro a' w' h'
     refine any_suf hd hf l (i+1) (L.setIfInBounds i true) a' w' (by omega) (fun j=>?_) (by simpa using hL) (fun j hj hja=>?_) (fun j hj hja=>?_) h'
     ·have:=hl (j+1)
      simp only[List.getElem?_cons_succ]at this
      rw[this];congr 1;omega
     ·rw[Array.getElem?_setIfInBounds]
      split
      ·first|rfl|rw[if_pos (by omega)]
      ·exact h1 j (by omega) hja
     ·rw[Array.getElem?_setIfInBounds,if_neg (by omega)]
      exact h2 j (by omega) hja
    unfold wpListIn at h
    unfold wpOpIn
    simp only[hpo]
    split
    ·rename_i hw
     rw[if_pos hw]at h
     exact Oper.wpIn_mono (fun a w h=>hnext a w h) h
    ·rename_i hw
     rw[if_neg hw]at h
     exact⟨h.1,hnext _ _ h.2⟩
theorem anyQ_lex{F:Fence}{N:Nat}{C:World->Prop}{md:Region.Mode}{Q:Act->Prop}(hs:Region.noSelect all=true):∀(l:List Oper) (k:Nat) (listed:Array Bool) (a:Act),(∀j,j<l.length->l[j]?=all[k+j]?)->
  Region.lexFrom md all l.length k listed=true->wpQuietIn F N P all C Q l a->wpAnyQIn F N P md all C Q l.length listed a
 | [],_,_,_,_,hB,h=>⟨by simpa [Region.lexFrom]using hB,h⟩
 | o::l,k,listed,a,hl,hB,h=>by
   have h0:all[k]?=some o:=by simpa using (hl 0 (by simp)).symm
   simp only[List.length_cons,Region.lexFrom,Bool.and_eq_true]at hB
   obtain⟨⟨hr,hf⟩,hB'⟩:=hB
   have hst:qOpIn F N P all C k (wpQuietIn F N P all C Q l) a:=by unfold qOpIn;simp only[h0];exact h
   obtain⟨v,hy,hK⟩:=yieldsQuiet_of_qOpIn h0 hst
   exact wpAnyQIn_first h0 (Region.noSelect_spec hs) l.length listed a (Region.free_spec h0 hf) (by simpa using hr) hy
    (anyQ_lex hs l (k+1) _ _ (fun j hj=>by have:=hl (j+1) (by simpa using hj);simpa [Nat.add_assoc,Nat.add_comm 1 j]using this) hB' hK)
def lastB(ops:Array Oper)(k:Nat):Bool:=
 Region.noSelect ops && (Nat.ble k ops.size && (downB ops && (forcedB ops k && Region.lexFrom .any ops k 0 (Array.replicate k false++Array.replicate (ops.size-k) true))))
def ThenL(P:Program)(n:Nat)(all:Array Oper)(l2:List Oper)(H:Heap)(K:TK):TK
 | .normal,env,_=>TO false P n all l2 env H K
 | _,_,_=>False
theorem TR.regionL{n:Nat}{env:Env}{H:Heap}{K:TK}(k:Nat){id:Nat}{l:List Oper}(hm:P.follows .mixedOrders=true)(hB:lastB l.toArray k=true)(hp:(l.take k).all (fun o=>Op.plain o.op)=true)
  (h:TO true P n l.toArray (l.take k) env H (ThenL P n l.toArray (l.drop k) H K)):TR P n (.region id l.toArray true) env H K:=by
 simp only[lastB,Bool.and_eq_true]at hB
 obtain⟨hB1,hB2,hB3,hB4,hB5⟩:=hB
 have hk:k≤l.length:=by simpa using Nat.le_of_ble_eq_true hB2
 intro φ m a h1 h2 h3 h4
 have hq:=h φ m a h1 h2 h3 h4
 simp only at hq
 refine wpr_of_in (wpIn_region_any hm ?_)
 have hlt:(l.take k).length=k:=by simp;omega
 have:=any_pre (P:=P) (all:=l.toArray) (r:=φ.r) (C:=Keeps m.w) (Q:=fun a'=>∀w',Keeps m.w w'->wpListIn (Fr φ.r) 0 P l.toArray (Post φ m n K) (l.drop k) a' w')
  (Q':=Post φ m n K) (k:=k) (n2:=(l.drop k).length) hB3 hB4 (fun i o hi ho=>List.all_eq_true.1 hp o (List.mem_of_getElem? (i:=i) (by rw[List.getElem?_take,if_pos hi];simpa using ho)))
  (fun L a' w' hL g1 g2 hC hQ=>any_suf hB3 hB4 (l.drop k) k L a' w' (Nat.le_refl _) (fun j=>by simp) hL g1 g2 (hQ w' hC))
  k (Array.replicate l.toArray.size false) (Array.replicate k false++Array.replicate (l.toArray.size-k) true) a { m.w with drawn:=m.w.drawn+1 } (by simp) (by simp;omega)
  (fun i hi=>by
    rw[Array.getElem?_append_left (by simpa using hi),Array.getElem?_replicate,Array.getElem?_replicate,if_pos hi,if_pos (by simp;omega)])
  (fun i hi hia=>by
    rw[Array.getElem?_append_right (by simpa using hi),Array.getElem?_replicate,if_pos (by simp at hia⊢;omega)])
  (fun i hi hia=>by rw[Array.getElem?_replicate,if_pos hia])
  (fun i hi=>by rw[Array.getElem?_replicate]at hi;split at hi <;> cases hi)
  ⟨rfl,rfl,rfl,Nat.le_refl _,fun _ _=>rfl⟩ ?_
 ·have e:k+(l.drop k).length=l.toArray.size:=by simp;omega
  rw[e]at this
  exact this
 ·have hx:=anyQ_lex (F:=Fr φ.r) (N:=0) (P:=P) (C:=Keeps m.w) (md:=.any) (Q:=fun a'=>∀w',Keeps m.w w'->wpListIn (Fr φ.r) 0 P l.toArray (Post φ m n K) (l.drop k) a' w') hB1 (l.take k) 0
   (Array.replicate k false++Array.replicate (l.toArray.size-k) true) a (fun j hj=>by rw[List.getElem?_take,if_pos (by omega)];simp) (by rw[hlt];exact hB5) (quiet_in _ a (wpQuiet_mono ?_ _ a hq))
  ·rw[hlt]at hx;exact hx
  ·rintro a' ⟨env',g1,g2,g3⟩ w' hw'
   obtain⟨s,hm'⟩:=keep_ok h2 hw'
   have:=g3 φ ⟨m.A,m.β,m.H,w'⟩ a' h1 hm' (g1.step h2 s) (g2.step h2 s)
   exact TO.step' s this
theorem ThenL.go{n:Nat}{l2:List Oper}{env:Env}{H:Heap}{K:TK}(h:TO false P n all l2 env H K):ThenL P n all l2 H K .normal env H:=h
theorem TR.regionL1{n:Nat}{env:Env}{H:Heap}{K:TK}{id:Nat}{l:List Oper}(hm:P.follows .mixedOrders=true)(hB:lastB l.toArray (l.length-1)=true)(hp:(l.take (l.length-1)).all (fun o=>Op.plain o.op)=true)
  (h:TO true P n l.toArray (l.take (l.length-1)) env H (ThenL P n l.toArray (l.drop (l.length-1)) H K)):TR P n (.region id l.toArray true) env H K:=TR.regionL _ hm hB hp h
theorem TR.regionL2{n:Nat}{env:Env}{H:Heap}{K:TK}{id:Nat}{l:List Oper}(hm:P.follows .mixedOrders=true)(hB:lastB l.toArray (l.length-2)=true)(hp:(l.take (l.length-2)).all (fun o=>Op.plain o.op)=true)
  (h:TO true P n l.toArray (l.take (l.length-2)) env H (ThenL P n l.toArray (l.drop (l.length-2)) H K)):TR P n (.region id l.toArray true) env H K:=TR.regionL _ hm hB hp h
end rules
def isCall(o:Oper):Bool:=match o.op with
 | .call c=>(match c.callee with| .value _=>true|_=>false)
 | _=>false
section rules
variable {P:Program}{n:Nat}{K:TK}
theorem LoopK.nextC{env:Env}{H:Heap}{len k:Nat}{I:Nat->Prop}{E:Nat->Env}{G:Nat->Heap}(j:Nat)(hk:k<len)(hI:I (k+1))(h1:Nat.ble (G k).length j=true)(h2:Nat.ble j H.length=true)
  (hH:H.take j=G (k+1))(h3:blksUnder j (G (k+1))=true)(h4:(E (k+1)).under j=true)
  (h0:env.sub (E (k+1)):=by repeat' (first|exact trivial|refine And.intro rfl ?_|fail)):
  LoopK (fun k=>k≤len/\I k) (fun k=>len-k) E G k K .normal env H:=
 LoopK.cut j (k+1) ⟨hk,hI⟩ (by omega) h0 h1 h2 hH h3 h4
theorem TR.regionLf{n:Nat}{env:Env}{H:Heap}{K:TK}{id:Nat}{l:List Oper}(hm:P.follows .mixedOrders=true)(hB:(Nat.blt (l.findIdx isCall) l.length && lastB l.toArray (l.findIdx isCall))=true)(hp:(l.take (l.findIdx isCall)).all (fun o=>Op.plain o.op)=true)
  (h:TO true P n l.toArray (l.take (l.findIdx isCall)) env H (ThenL P n l.toArray (l.drop (l.findIdx isCall)) H K)):TR P n (.region id l.toArray true) env H K:=by
 simp only[Bool.and_eq_true]at hB
 exact TR.regionL _ hm hB.2 hp h
end rules
section rules
variable {P:Program}{n:Nat}{env:Env}{H:Heap}{K:TK}{all:Array Oper}{rest:List Oper}{q:Bool}
variable {d:Nat}{ty:TypeId}{pos:String}{aft:Array Edge}
theorem TO.maxi{x y:Operand}{a b:Int}{ts:Array TypeId}(hd:Nat.ble (d+1) n=true)(hx:env.val x=some (.t (.v (.int .i64 a))))(hy:env.val y=some (.t (.v (.int .i64 b))))
  (k:TO q P n all rest ((d,.t (.v (.int .i64 (max a b))))::env) H K):TO q P n all (⟨some d,.call { callee:=.builtin .max,args:=#[x,y],argTypes:=ts },ty,pos,aft,none⟩::rest) env H K:=
 TO.op hd (fun m ac h1 h2 h3=>⟨.int .i64 (max a b),fun w' hw'=>by
  simp[execOp,resolve,invoke,builtin,(h3.val hx).v_eq,(h3.val hy).v_eq,Go.Lib.run_max_ints],.t _ _ (.v _)⟩) k
theorem TO.mini{x y:Operand}{a b:Int}{ts:Array TypeId}(hd:Nat.ble (d+1) n=true)(hx:env.val x=some (.t (.v (.int .i64 a))))(hy:env.val y=some (.t (.v (.int .i64 b))))
  (k:TO q P n all rest ((d,.t (.v (.int .i64 (min a b))))::env) H K):TO q P n all (⟨some d,.call { callee:=.builtin .min,args:=#[x,y],argTypes:=ts },ty,pos,aft,none⟩::rest) env H K:=
 TO.op hd (fun m ac h1 h2 h3=>⟨.int .i64 (min a b),fun w' hw'=>by
  simp[execOp,resolve,invoke,builtin,(h3.val hx).v_eq,(h3.val hy).v_eq,Go.Lib.run_min_ints],.t _ _ (.v _)⟩) k
theorem TO.extern_indexByte{f:FuncId}{fn:Func}{x y:Operand}{ts:Array TypeId}{l:Str}{c:Int}(hd:Nat.ble (d+1) n=true)(hf:P.funcs[f]?=some fn)(hname:(fn.name == "runtime.NumGoroutine")=false)(hb:fn.body.isNone=true)(hn:Extern.findNext fn=none)
  (he:Extern.find fn=some Extern.BytealgIndexByte.indexByte)(hx:env.val x=some (.t (.v (str l))))(hy:env.val y=some (.t (.v (.int .u8 c))))(k:TO q P n all rest ((d,.t (.v (.int .i64 (Lib.indexByte l c.toNat.toUInt8))))::env) H K):
  TO q P n all (⟨some d,.call { callee:=.value (.func f),args:=#[x,y],argTypes:=ts },ty,pos,aft,none⟩::rest) env H K:=
 TO.op hd (fun m ac h1 h2 h3=>⟨.int .i64 (Lib.indexByte l c.toNat.toUInt8),fun w' hw'=>by
  have:=run_callFunc_extern hf hname hb hn he #[ac.eval x,ac.eval y] w'
  rw[(h3.val hx).v_eq,(h3.val hy).v_eq,Lib.run_indexByteString]at this
  simp only[Result.andThen]at this
  simp[execOp,resolve,eval_func,Deferred.ofValue,invoke,(h3.val hx).v_eq,(h3.val hy).v_eq,this],.t _ _ (.v _)⟩) k
end rules
theorem Sound.fresh{P:Program}{f:FuncId}{pre post:List SV}{sz:Nat}{R:Res->Heap->Prop}(h:Sound P f (pre++ .sl sz [] 0::post) [.tail 0] R):Sound P f (pre++ .t (.v (.slice none 0 0))::post) [] R:=by
 refine⟨h.1,fun m vs h1 h2 h3=>?_⟩
 obtain⟨s,hm1⟩:=grow_tail h2
 have hl:m.H.length=0:=by rw[h1];rfl
 refine Calls.mono (h.2 ⟨m.A,m.β++[⟨0,0,0⟩],m.H++[.tail 0],m.w⟩ vs (by simp[h1]) hm1 ⟨by simpa using h3.1,fun i c x hc hx=>?_⟩) ?_
 ·by_cases hi:i=pre.length
  ·subst hi
   simp at hc
   subst hc
   have hx':=h3.2 pre.length (.t (.v (.slice none 0 0))) x (by simp) hx
   have:=hx'.v_eq
   subst this
   have:=nil_tail h2 sz
   rw[hl]at this
   exact this
  ·refine s.srel h2 (h3.2 i c x ?_ hx)
   rcases Nat.lt_or_gt_of_ne hi with h'|h'
   ·rw[List.getElem?_append_left h']at hc⊢;exact hc
   ·rw[List.getElem?_append_right (by omega)]at hc⊢
    rw[List.getElem?_cons,if_neg (by omega)]at hc⊢
    exact hc
 ·rintro e w' ⟨m',r,g1,g2,g3,g4,g5⟩
  exact⟨m',r,g1,s.trans g2,g3,g4,g5⟩
theorem Sound.own{P:Program}{f:FuncId}{args:List SV}{sz n:Nat}{es:List T}(h:Sound P f args [] (fun r H'=>r= .ret (.sl sz es 0)/\H'=[.tail n])):Pure P f args (.t (.sl sz es)):=by
 refine⟨h.1,fun m vs h1 h2 h3=>Calls.mono (h.2 m vs h1 h2 h3) ?_⟩
 rintro e w' ⟨m',r,g1,g2,g3,g4,rfl,g5⟩
 have hb:m.β.length=0:=by rw[h2.len,h1];rfl
 obtain⟨s,hm,hs⟩:=cut_ok (k:=0) g3 g2 (Nat.zero_le _) (by omega) rfl
 refine⟨m'.cut 0,.ret (.t (.sl sz es)),by rw[<-g1];rfl,s,hm,?_,rfl,by simp[M.cut]⟩
 cases e with
 | returned x=>exact hs _ _ rfl (Le.own _ _ _ _ _ g4)
 | _=>simp[ResRel]at g4
section rules
variable {P:Program}{n:Nat}{env:Env}{H:Heap}{K:TK}{all:Array Oper}{rest:List Oper}
variable {d:Nat}{ty:TypeId}{pos:String}{aft:Array Edge}
theorem TO.callD(N:Nat){Hc Hc1 H':Heap}{cargs:List SV}{v:SV}{f:Operand}{fid:FuncId}{caps:List SV}{args:Array Operand}{ts:Array TypeId}{vs:List SV}
  (hs:Sound P fid cargs Hc fun r H'=>r= .ret v/\H'=Hc1)(hd:Nat.ble (d+1) n=true)(hf:env.val f=some (.fn fid caps))(ha:env.vals args.toList=some vs)(hl:Les (vs++caps) cargs)
  (hN:Nat.ble N H.length=true)(hc:H.take N=Hc)(hu:unders N cargs=true)(hb:blksUnder N Hc=true)(hv:v.under N=true)(h1:Hc1.length=N)(h2:blksUnder N Hc1=true)
  (hH:forceL (Hc1++H.drop N)=some H')(k:TO false P n all rest ((d,v)::env) H' K):
  TO false P n all (⟨some d,.call { callee:=.value f,args:=args,argTypes:=ts },ty,pos,aft,none⟩::rest) env H K:=by
 refine TO.callT N hs ⟨fun u G hr=>?_,fun u G hr=>?_⟩ hd hf ha hl hu (Nat.le_of_ble_eq_true hN) hc hb (fun u G hr=>?_) (fun u G hr=>?_)
 ·obtain⟨h,rfl⟩:=hr;cases h;exact⟨hv,h1,h2⟩
 ·cases hr.1
 ·obtain⟨h,rfl⟩:=hr;cases h;rw[<-forceL_eq hH];exact k
 ·cases hr.1
end rules
end Go.TL
namespace Go.Proofs.YtddaclniamlmbaaGreatDoor
open Go Go.TL
def tab:Tab:=(.node (.node (.node (.node (.node (.node (.node (.node (.node .leaf 1 ⟨.scalar,1,8,[.v .nilFunc]⟩
 .leaf) 2 ⟨.int .i64,1,8,[.v (.int .i64 0)]⟩
 .leaf) 3 ⟨.int .i64,1,8,[.v (.int .i64 0)]⟩
 (.node (.node .leaf 4 ⟨.bool,1,1,[.v (.bool false)]⟩
 .leaf) 5 ⟨.int .u8,1,1,[.v (.int .u8 0)]⟩
 .leaf)) 6 ⟨.int .u8,1,1,[.v (.int .u8 0)]⟩
 (.node (.node (.node .leaf 7 ⟨.struct [(0,2),(1,3),(2,4),(3,6)],4,24,[.v (.int .i64 0),.v (.int .i64 0),.v (.bool false),.v (.int .u8 0)]⟩
 .leaf) 8 ⟨.struct [(0,2),(1,3),(2,4),(3,6)],4,24,[.v (.int .i64 0),.v (.int .i64 0),.v (.bool false),.v (.int .u8 0)]⟩
 .leaf) 9 ⟨.str,1,16,[.v (str [])]⟩
 (.node (.node .leaf 10 ⟨.str,1,16,[.v (str [])]⟩
 .leaf) 11 ⟨.str,1,16,[.v (str [])]⟩
 .leaf))) 12 ⟨.int .u64,1,8,[.v (.int .u64 0)]⟩
 (.node (.node (.node (.node .leaf 13 ⟨.struct [(0,9),(1,12)],2,24,[.v (str []),.v (.int .u64 0)]⟩
 .leaf) 14 ⟨.struct [(0,9),(1,12)],2,24,[.v (str []),.v (.int .u64 0)]⟩
 .leaf) 15 ⟨.ptr 382,1,8,[.v (.pointer none)]⟩
 (.node (.node .leaf 16 ⟨.ptr 385,1,8,[.v (.pointer none)]⟩
 .leaf) 17 ⟨.ptr 394,1,8,[.v (.pointer none)]⟩
 .leaf)) 18 ⟨.struct [(0,17)],1,8,[.v (.pointer none)]⟩
 (.node (.node (.node .leaf 19 ⟨.struct [(0,17)],1,8,[.v (.pointer none)]⟩
 .leaf) 20 ⟨.iface,1,16,[.v .nilIface]⟩
 .leaf) 21 ⟨.int .i32,1,4,[.v (.int .i32 0)]⟩
 (.node (.node .leaf 22 ⟨.slice 61,1,24,[.v (.slice none 0 0)]⟩
 .leaf) 23 ⟨.slice 35,1,24,[.v (.slice none 0 0)]⟩
 .leaf)))) 24 ⟨.struct [(0,22),(1,23)],2,48,[.v (.slice none 0 0),.v (.slice none 0 0)]⟩
 (.node (.node (.node (.node (.node .leaf 25 ⟨.struct [(0,22),(1,23)],2,48,[.v (.slice none 0 0),.v (.slice none 0 0)]⟩
 .leaf) 26 ⟨.slice 28,1,24,[.v (.slice none 0 0)]⟩
 .leaf) 27 ⟨.struct [(0,3),(1,3),(2,3),(3,3),(4,9),(5,26)],6,72,[.v (.int .i64 0),.v (.int .i64 0),.v (.int .i64 0),.v (.int .i64 0),.v (str []),.v (.slice none 0 0)]⟩
 (.node (.node .leaf 28 ⟨.struct [(0,3),(1,3),(2,3),(3,3),(4,9),(5,26)],6,72,[.v (.int .i64 0),.v (.int .i64 0),.v (.int .i64 0),.v (.int .i64 0),.v (str []),.v (.slice none 0 0)]⟩
 .leaf) 29 ⟨.scalar,1,8,[.v .nilFunc]⟩
 .leaf)) 30 ⟨.scalar,1,8,[.v .nilFunc]⟩
 (.node (.node (.node .leaf 31 ⟨.slice 39,1,24,[.v (.slice none 0 0)]⟩
 .leaf) 32 ⟨.slice 74,1,24,[.v (.slice none 0 0)]⟩
 .leaf) 33 ⟨.slice 94,1,24,[.v (.slice none 0 0)]⟩
 (.node (.node .leaf 34 ⟨.struct [(0,9),(1,31),(2,31),(3,31),(4,32),(5,33),(6,26),(7,26)],8,184,[.v (str []),.v (.slice none 0 0),.v (.slice none 0 0),.v (.slice none 0 0),.v (.slice none 0 0),.v (.slice none 0 0),.v (.slice none 0 0),.v (.slice none 0 0)]⟩
 .leaf) 35 ⟨.struct [(0,9),(1,31),(2,31),(3,31),(4,32),(5,33),(6,26),(7,26)],8,184,[.v (str []),.v (.slice none 0 0),.v (.slice none 0 0),.v (.slice none 0 0),.v (.slice none 0 0),.v (.slice none 0 0),.v (.slice none 0 0),.v (.slice none 0 0)]⟩
 .leaf))) 36 ⟨.scalar,1,8,[.v .nilFunc]⟩
 (.node (.node (.node (.node .leaf 37 ⟨.slice 139,1,24,[.v (.slice none 0 0)]⟩
 .leaf) 38 ⟨.struct [(0,9),(1,3),(2,37)],3,48,[.v (str []),.v (.int .i64 0),.v (.slice none 0 0)]⟩
 .leaf) 39 ⟨.struct [(0,9),(1,3),(2,37)],3,48,[.v (str []),.v (.int .i64 0),.v (.slice none 0 0)]⟩
 (.node (.node .leaf 40 ⟨.slice 3,1,24,[.v (.slice none 0 0)]⟩
 .leaf) 41 ⟨.int .i64,1,8,[.v (.int .i64 0)]⟩
 .leaf)) 43 ⟨.scalar,1,8,[.v .nilFunc]⟩
 (.node (.node (.node .leaf 44 ⟨.scalar,1,8,[.v .nilFunc]⟩
 .leaf) 45 ⟨.scalar,1,8,[.v .nilFunc]⟩
 .leaf) 46 ⟨.scalar,1,8,[.v .nilFunc]⟩
 (.node (.node .leaf 48 ⟨.scalar,1,8,[.v .nilFunc]⟩
 .leaf) 49 ⟨.scalar,1,8,[.v .nilFunc]⟩
 .leaf))))) 50 ⟨.scalar,1,8,[.v .nilFunc]⟩
 (.node (.node (.node (.node (.node (.node .leaf 51 ⟨.scalar,1,8,[.v .nilFunc]⟩
 .leaf) 53 ⟨.scalar,1,8,[.v .nilFunc]⟩
 .leaf) 54 ⟨.scalar,1,8,[.v .nilFunc]⟩
 (.node (.node .leaf 55 ⟨.struct [(0,3),(1,3)],2,16,[.v (.int .i64 0),.v (.int .i64 0)]⟩
 .leaf) 56 ⟨.struct [(0,3),(1,3)],2,16,[.v (.int .i64 0),.v (.int .i64 0)]⟩
 .leaf)) 58 ⟨.scalar,1,8,[.v .nilFunc]⟩
 (.node (.node (.node .leaf 59 ⟨.slice 9,1,24,[.v (.slice none 0 0)]⟩
 .leaf) 60 ⟨.struct [(0,9),(1,59)],2,40,[.v (str []),.v (.slice none 0 0)]⟩
 .leaf) 61 ⟨.struct [(0,9),(1,59)],2,40,[.v (str []),.v (.slice none 0 0)]⟩
 (.node (.node .leaf 62 ⟨.scalar,1,8,[.v .nilFunc]⟩
 .leaf) 63 ⟨.scalar,1,8,[.v .nilFunc]⟩
 .leaf))) 64 ⟨.map 9 4,1,8,[.v (.map none)]⟩
 (.node (.node (.node (.node .leaf 65 ⟨.scalar,1,8,[.v .nilFunc]⟩
 .leaf) 66 ⟨.scalar,1,8,[.v .nilFunc]⟩
 .leaf) 67 ⟨.scalar,1,8,[.v .nilFunc]⟩
 (.node (.node .leaf 68 ⟨.scalar,1,8,[.v .nilFunc]⟩
 .leaf) 69 ⟨.struct [(0,25),(2,3),(3,31)],4,80,[.v (.slice none 0 0),.v (.slice none 0 0),.v (.int .i64 0),.v (.slice none 0 0)]⟩
 .leaf)) 70 ⟨.struct [(0,25),(2,3),(3,31)],4,80,[.v (.slice none 0 0),.v (.slice none 0 0),.v (.int .i64 0),.v (.slice none 0 0)]⟩
 (.node (.node (.node .leaf 71 ⟨.scalar,1,8,[.v .nilFunc]⟩
 .leaf) 72 ⟨.scalar,1,8,[.v .nilFunc]⟩
 .leaf) 73 ⟨.struct [(0,59),(1,28)],7,96,[.v (.slice none 0 0),.v (.int .i64 0),.v (.int .i64 0),.v (.int .i64 0),.v (.int .i64 0),.v (str []),.v (.slice none 0 0)]⟩
 (.node (.node .leaf 74 ⟨.struct [(0,59),(1,28)],7,96,[.v (.slice none 0 0),.v (.int .i64 0),.v (.int .i64 0),.v (.int .i64 0),.v (.int .i64 0),.v (str []),.v (.slice none 0 0)]⟩
 .leaf) 75 ⟨.ptr 80,1,8,[.v (.pointer none)]⟩
 .leaf)))) 76 ⟨.ptr 157,1,8,[.v (.pointer none)]⟩
 (.node (.node (.node (.node (.node .leaf 77 ⟨.scalar,1,8,[.v .nilFunc]⟩
 .leaf) 78 ⟨.scalar,1,8,[.v .nilFunc]⟩
 .leaf) 79 ⟨.struct [(0,76),(1,22)],2,32,[.v (.pointer none),.v (.slice none 0 0)]⟩
 (.node (.node .leaf 80 ⟨.struct [(0,76),(1,22)],2,32,[.v (.pointer none),.v (.slice none 0 0)]⟩
 .leaf) 81 ⟨.scalar,1,8,[.v .nilFunc]⟩
 .leaf)) 82 ⟨.scalar,1,8,[.v .nilFunc]⟩
 (.node (.node (.node .leaf 83 ⟨.ptr 86,1,8,[.v (.pointer none)]⟩
 .leaf) 84 ⟨.scalar,1,8,[.v .nilFunc]⟩
 .leaf) 85 ⟨.struct [(0,25),(2,3),(3,22)],4,80,[.v (.slice none 0 0),.v (.slice none 0 0),.v (.int .i64 0),.v (.slice none 0 0)]⟩
 (.node (.node .leaf 86 ⟨.struct [(0,25),(2,3),(3,22)],4,80,[.v (.slice none 0 0),.v (.slice none 0 0),.v (.int .i64 0),.v (.slice none 0 0)]⟩
 .leaf) 87 ⟨.scalar,1,8,[.v .nilFunc]⟩
 .leaf))) 88 ⟨.scalar,1,8,[.v .nilFunc]⟩
 (.node (.node (.node (.node .leaf 89 ⟨.scalar,1,8,[.v .nilFunc]⟩
 .leaf) 90 ⟨.scalar,1,8,[.v .nilFunc]⟩
 .leaf) 91 ⟨.scalar,1,8,[.v .nilFunc]⟩
 (.node (.node .leaf 92 ⟨.slice 97,1,24,[.v (.slice none 0 0)]⟩
 .leaf) 93 ⟨.struct [(0,92)],1,24,[.v (.slice none 0 0)]⟩
 .leaf)) 94 ⟨.struct [(0,92)],1,24,[.v (.slice none 0 0)]⟩
 (.node (.node (.node .leaf 95 ⟨.slice 154,1,24,[.v (.slice none 0 0)]⟩
 .leaf) 96 ⟨.struct [(0,9),(1,31),(2,32),(3,33),(4,95),(5,95)],6,136,[.v (str []),.v (.slice none 0 0),.v (.slice none 0 0),.v (.slice none 0 0),.v (.slice none 0 0),.v (.slice none 0 0)]⟩
 .leaf) 97 ⟨.struct [(0,9),(1,31),(2,32),(3,33),(4,95),(5,95)],6,136,[.v (str []),.v (.slice none 0 0),.v (.slice none 0 0),.v (.slice none 0 0),.v (.slice none 0 0),.v (.slice none 0 0)]⟩
 (.node .leaf 98 ⟨.scalar,1,8,[.v .nilFunc]⟩
 .leaf)))))) 99 ⟨.scalar,1,8,[.v .nilFunc]⟩
 (.node (.node (.node (.node (.node (.node (.node .leaf 100 ⟨.scalar,1,8,[.v .nilFunc]⟩
 .leaf) 101 ⟨.scalar,1,8,[.v .nilFunc]⟩
 .leaf) 102 ⟨.scalar,1,8,[.v .nilFunc]⟩
 (.node (.node .leaf 103 ⟨.struct [(0,56),(2,41)],3,24,[.v (.int .i64 0),.v (.int .i64 0),.v (.int .i64 0)]⟩
 .leaf) 104 ⟨.struct [(0,56),(2,41)],3,24,[.v (.int .i64 0),.v (.int .i64 0),.v (.int .i64 0)]⟩
 .leaf)) 106 ⟨.ptr 108,1,8,[.v (.pointer none)]⟩
 (.node (.node (.node .leaf 107 ⟨.struct [(0,22),(1,56)],3,40,[.v (.slice none 0 0),.v (.int .i64 0),.v (.int .i64 0)]⟩
 .leaf) 108 ⟨.struct [(0,22),(1,56)],3,40,[.v (.slice none 0 0),.v (.int .i64 0),.v (.int .i64 0)]⟩
 .leaf) 109 ⟨.scalar,1,8,[.v .nilFunc]⟩
 (.node (.node .leaf 110 ⟨.scalar,1,8,[.v .nilFunc]⟩
 .leaf) 111 ⟨.scalar,1,8,[.v .nilFunc]⟩
 .leaf))) 112 ⟨.struct [(0,56),(2,41)],3,24,[.v (.int .i64 0),.v (.int .i64 0),.v (.int .i64 0)]⟩
 (.node (.node (.node (.node .leaf 113 ⟨.struct [(0,56),(2,41)],3,24,[.v (.int .i64 0),.v (.int .i64 0),.v (.int .i64 0)]⟩
 .leaf) 115 ⟨.ptr 118,1,8,[.v (.pointer none)]⟩
 .leaf) 116 ⟨.map 121 3,1,8,[.v (.map none)]⟩
 (.node (.node .leaf 117 ⟨.struct [(0,25),(2,56),(4,116)],5,72,[.v (.slice none 0 0),.v (.slice none 0 0),.v (.int .i64 0),.v (.int .i64 0),.v (.map none)]⟩
 .leaf) 118 ⟨.struct [(0,25),(2,56),(4,116)],5,72,[.v (.slice none 0 0),.v (.slice none 0 0),.v (.int .i64 0),.v (.int .i64 0),.v (.map none)]⟩
 .leaf)) 119 ⟨.scalar,1,8,[.v .nilFunc]⟩
 (.node (.node (.node .leaf 120 ⟨.struct [(0,3),(1,9)],2,24,[.v (.int .i64 0),.v (str [])]⟩
 .leaf) 121 ⟨.struct [(0,3),(1,9)],2,24,[.v (.int .i64 0),.v (str [])]⟩
 .leaf) 122 ⟨.scalar,1,8,[.v .nilFunc]⟩
 (.node (.node .leaf 123 ⟨.scalar,1,8,[.v .nilFunc]⟩
 .leaf) 124 ⟨.scalar,1,8,[.v .nilFunc]⟩
 .leaf)))) 125 ⟨.scalar,1,8,[.v .nilFunc]⟩
 (.node (.node (.node (.node (.node .leaf 126 ⟨.scalar,1,8,[.v .nilFunc]⟩
 .leaf) 127 ⟨.scalar,1,8,[.v .nilFunc]⟩
 .leaf) 128 ⟨.scalar,1,8,[.v .nilFunc]⟩
 (.node (.node .leaf 129 ⟨.scalar,1,8,[.v .nilFunc]⟩
 .leaf) 130 ⟨.scalar,1,8,[.v .nilFunc]⟩
 .leaf)) 131 ⟨.scalar,1,8,[.v .nilFunc]⟩
 (.node (.node (.node .leaf 132 ⟨.scalar,1,8,[.v .nilFunc]⟩
 .leaf) 133 ⟨.scalar,1,8,[.v .nilFunc]⟩
 .leaf) 134 ⟨.scalar,1,8,[.v .nilFunc]⟩
 (.node (.node .leaf 135 ⟨.scalar,1,8,[.v .nilFunc]⟩
 .leaf) 136 ⟨.scalar,1,8,[.v .nilFunc]⟩
 .leaf))) 137 ⟨.scalar,1,8,[.v .nilFunc]⟩
 (.node (.node (.node (.node .leaf 138 ⟨.struct [(0,9),(1,3),(2,3)],3,32,[.v (str []),.v (.int .i64 0),.v (.int .i64 0)]⟩
 .leaf) 139 ⟨.struct [(0,9),(1,3),(2,3)],3,32,[.v (str []),.v (.int .i64 0),.v (.int .i64 0)]⟩
 .leaf) 140 ⟨.scalar,1,8,[.v .nilFunc]⟩
 (.node (.node .leaf 141 ⟨.scalar,1,8,[.v .nilFunc]⟩
 .leaf) 143 ⟨.scalar,1,8,[.v .nilFunc]⟩
 .leaf)) 144 ⟨.scalar,1,8,[.v .nilFunc]⟩
 (.node (.node (.node .leaf 145 ⟨.scalar,1,8,[.v .nilFunc]⟩
 .leaf) 146 ⟨.scalar,1,8,[.v .nilFunc]⟩
 .leaf) 147 ⟨.scalar,1,8,[.v .nilFunc]⟩
 (.node .leaf 148 ⟨.scalar,1,8,[.v .nilFunc]⟩
 .leaf))))) 149 ⟨.scalar,1,8,[.v .nilFunc]⟩
 (.node (.node (.node (.node (.node (.node .leaf 150 ⟨.scalar,1,8,[.v .nilFunc]⟩
 .leaf) 151 ⟨.scalar,1,8,[.v .nilFunc]⟩
 .leaf) 152 ⟨.scalar,1,8,[.v .nilFunc]⟩
 (.node (.node .leaf 153 ⟨.struct [(0,28),(6,3),(7,4)],8,88,[.v (.int .i64 0),.v (.int .i64 0),.v (.int .i64 0),.v (.int .i64 0),.v (str []),.v (.slice none 0 0),.v (.int .i64 0),.v (.bool false)]⟩
 .leaf) 154 ⟨.struct [(0,28),(6,3),(7,4)],8,88,[.v (.int .i64 0),.v (.int .i64 0),.v (.int .i64 0),.v (.int .i64 0),.v (str []),.v (.slice none 0 0),.v (.int .i64 0),.v (.bool false)]⟩
 .leaf)) 155 ⟨.scalar,1,8,[.v .nilFunc]⟩
 (.node (.node (.node .leaf 156 ⟨.struct [(0,64),(1,155)],2,16,[.v (.map none),.v .nilFunc]⟩
 .leaf) 157 ⟨.struct [(0,64),(1,155)],2,16,[.v (.map none),.v .nilFunc]⟩
 .leaf) 158 ⟨.scalar,1,8,[.v .nilFunc]⟩
 (.node (.node .leaf 159 ⟨.scalar,1,8,[.v .nilFunc]⟩
 .leaf) 160 ⟨.scalar,1,8,[.v .nilFunc]⟩
 .leaf))) 161 ⟨.scalar,1,8,[.v .nilFunc]⟩
 (.node (.node (.node (.node .leaf 162 ⟨.scalar,1,8,[.v .nilFunc]⟩
 .leaf) 163 ⟨.scalar,1,8,[.v .nilFunc]⟩
 .leaf) 164 ⟨.scalar,1,8,[.v .nilFunc]⟩
 (.node (.node .leaf 165 ⟨.ptr 35,1,8,[.v (.pointer none)]⟩
 .leaf) 166 ⟨.scalar,1,8,[.v .nilFunc]⟩
 .leaf)) 167 ⟨.scalar,1,8,[.v .nilFunc]⟩
 (.node (.node (.node .leaf 168 ⟨.scalar,1,8,[.v .nilFunc]⟩
 .leaf) 169 ⟨.scalar,1,8,[.v .nilFunc]⟩
 .leaf) 170 ⟨.scalar,1,8,[.v .nilFunc]⟩
 (.node (.node .leaf 171 ⟨.scalar,1,8,[.v .nilFunc]⟩
 .leaf) 172 ⟨.scalar,1,8,[.v .nilFunc]⟩
 .leaf)))) 173 ⟨.scalar,1,8,[.v .nilFunc]⟩
 (.node (.node (.node (.node (.node .leaf 174 ⟨.scalar,1,8,[.v .nilFunc]⟩
 .leaf) 175 ⟨.scalar,1,8,[.v .nilFunc]⟩
 .leaf) 176 ⟨.struct [(0,31),(1,32),(2,23)],3,72,[.v (.slice none 0 0),.v (.slice none 0 0),.v (.slice none 0 0)]⟩
 (.node (.node .leaf 177 ⟨.struct [(0,31),(1,32),(2,23)],3,72,[.v (.slice none 0 0),.v (.slice none 0 0),.v (.slice none 0 0)]⟩
 .leaf) 178 ⟨.scalar,1,8,[.v .nilFunc]⟩
 .leaf)) 179 ⟨.scalar,1,8,[.v .nilFunc]⟩
 (.node (.node (.node .leaf 180 ⟨.scalar,1,8,[.v .nilFunc]⟩
 .leaf) 181 ⟨.scalar,1,8,[.v .nilFunc]⟩
 .leaf) 182 ⟨.scalar,1,8,[.v .nilFunc]⟩
 (.node (.node .leaf 183 ⟨.scalar,1,8,[.v .nilFunc]⟩
 .leaf) 184 ⟨.scalar,1,8,[.v .nilFunc]⟩
 .leaf))) 185 ⟨.scalar,1,8,[.v .nilFunc]⟩
 (.node (.node (.node (.node .leaf 186 ⟨.scalar,1,8,[.v .nilFunc]⟩
 .leaf) 187 ⟨.scalar,1,8,[.v .nilFunc]⟩
 .leaf) 188 ⟨.scalar,1,8,[.v .nilFunc]⟩
 (.node (.node .leaf 189 ⟨.scalar,1,8,[.v .nilFunc]⟩
 .leaf) 190 ⟨.scalar,1,8,[.v .nilFunc]⟩
 .leaf)) 191 ⟨.scalar,1,8,[.v .nilFunc]⟩
 (.node (.node (.node .leaf 192 ⟨.ptr 195,1,8,[.v (.pointer none)]⟩
 .leaf) 193 ⟨.scalar,1,8,[.v .nilFunc]⟩
 .leaf) 194 ⟨.struct [(0,192),(1,64),(2,64),(3,64),(4,59)],5,56,[.v (.pointer none),.v (.map none),.v (.map none),.v (.map none),.v (.slice none 0 0)]⟩
 (.node .leaf 195 ⟨.struct [(0,192),(1,64),(2,64),(3,64),(4,59)],5,56,[.v (.pointer none),.v (.map none),.v (.map none),.v (.map none),.v (.slice none 0 0)]⟩
 .leaf))))))) 196 ⟨.scalar,1,8,[.v .nilFunc]⟩
 (.node (.node (.node (.node (.node (.node (.node (.node .leaf 197 ⟨.scalar,1,8,[.v .nilFunc]⟩
 .leaf) 198 ⟨.scalar,1,8,[.v .nilFunc]⟩
 .leaf) 199 ⟨.scalar,1,8,[.v .nilFunc]⟩
 (.node (.node .leaf 200 ⟨.scalar,1,8,[.v .nilFunc]⟩
 .leaf) 201 ⟨.scalar,1,8,[.v .nilFunc]⟩
 .leaf)) 202 ⟨.scalar,1,8,[.v .nilFunc]⟩
 (.node (.node (.node .leaf 203 ⟨.scalar,1,8,[.v .nilFunc]⟩
 .leaf) 204 ⟨.scalar,1,8,[.v .nilFunc]⟩
 .leaf) 205 ⟨.scalar,1,8,[.v .nilFunc]⟩
 (.node (.node .leaf 206 ⟨.scalar,1,8,[.v .nilFunc]⟩
 .leaf) 207 ⟨.scalar,1,8,[.v .nilFunc]⟩
 .leaf))) 208 ⟨.scalar,1,8,[.v .nilFunc]⟩
 (.node (.node (.node (.node .leaf 209 ⟨.scalar,1,8,[.v .nilFunc]⟩
 .leaf) 210 ⟨.scalar,1,8,[.v .nilFunc]⟩
 .leaf) 211 ⟨.scalar,1,8,[.v .nilFunc]⟩
 (.node (.node .leaf 212 ⟨.scalar,1,8,[.v .nilFunc]⟩
 .leaf) 213 ⟨.scalar,1,8,[.v .nilFunc]⟩
 .leaf)) 214 ⟨.scalar,1,8,[.v .nilFunc]⟩
 (.node (.node (.node .leaf 215 ⟨.slice 31,1,24,[.v (.slice none 0 0)]⟩
 .leaf) 216 ⟨.scalar,1,8,[.v .nilFunc]⟩
 .leaf) 217 ⟨.scalar,1,8,[.v .nilFunc]⟩
 (.node (.node .leaf 218 ⟨.scalar,1,8,[.v .nilFunc]⟩
 .leaf) 220 ⟨.scalar,1,8,[.v .nilFunc]⟩
 .leaf)))) 221 ⟨.scalar,1,8,[.v .nilFunc]⟩
 (.node (.node (.node (.node (.node .leaf 222 ⟨.scalar,1,8,[.v .nilFunc]⟩
 .leaf) 223 ⟨.ptr 226,1,8,[.v (.pointer none)]⟩
 .leaf) 224 ⟨.slice 59,1,24,[.v (.slice none 0 0)]⟩
 (.node (.node .leaf 225 ⟨.struct [(0,75),(1,165),(2,94),(3,3),(4,31),(5,9),(6,9),(7,224),(8,9),(9,9),(10,23),(11,224),(12,9),(13,9)],14,240,[.v (.pointer none),.v (.pointer none),.v (.slice none 0 0),.v (.int .i64 0),.v (.slice none 0 0),.v (str []),.v (str []),.v (.slice none 0 0),.v (str []),.v (str []),.v (.slice none 0 0),.v (.slice none 0 0),.v (str []),.v (str [])]⟩
 .leaf) 226 ⟨.struct [(0,75),(1,165),(2,94),(3,3),(4,31),(5,9),(6,9),(7,224),(8,9),(9,9),(10,23),(11,224),(12,9),(13,9)],14,240,[.v (.pointer none),.v (.pointer none),.v (.slice none 0 0),.v (.int .i64 0),.v (.slice none 0 0),.v (str []),.v (str []),.v (.slice none 0 0),.v (str []),.v (str []),.v (.slice none 0 0),.v (.slice none 0 0),.v (str []),.v (str [])]⟩
 .leaf)) 227 ⟨.scalar,1,8,[.v .nilFunc]⟩
 (.node (.node (.node .leaf 228 ⟨.scalar,1,8,[.v .nilFunc]⟩
 .leaf) 229 ⟨.scalar,1,8,[.v .nilFunc]⟩
 .leaf) 230 ⟨.scalar,1,8,[.v .nilFunc]⟩
 (.node (.node .leaf 231 ⟨.scalar,1,8,[.v .nilFunc]⟩
 .leaf) 232 ⟨.scalar,1,8,[.v .nilFunc]⟩
 .leaf))) 233 ⟨.scalar,1,8,[.v .nilFunc]⟩
 (.node (.node (.node (.node .leaf 234 ⟨.scalar,1,8,[.v .nilFunc]⟩
 .leaf) 235 ⟨.scalar,1,8,[.v .nilFunc]⟩
 .leaf) 236 ⟨.scalar,1,8,[.v .nilFunc]⟩
 (.node (.node .leaf 237 ⟨.scalar,1,8,[.v .nilFunc]⟩
 .leaf) 238 ⟨.scalar,1,8,[.v .nilFunc]⟩
 .leaf)) 239 ⟨.scalar,1,8,[.v .nilFunc]⟩
 (.node (.node (.node .leaf 240 ⟨.scalar,1,8,[.v .nilFunc]⟩
 .leaf) 241 ⟨.scalar,1,8,[.v .nilFunc]⟩
 .leaf) 242 ⟨.scalar,1,8,[.v .nilFunc]⟩
 (.node (.node .leaf 243 ⟨.scalar,1,8,[.v .nilFunc]⟩
 .leaf) 244 ⟨.scalar,1,8,[.v .nilFunc]⟩
 .leaf))))) 245 ⟨.scalar,1,8,[.v .nilFunc]⟩
 (.node (.node (.node (.node (.node (.node .leaf 246 ⟨.scalar,1,8,[.v .nilFunc]⟩
 .leaf) 247 ⟨.scalar,1,8,[.v .nilFunc]⟩
 .leaf) 248 ⟨.scalar,1,8,[.v .nilFunc]⟩
 (.node (.node .leaf 249 ⟨.scalar,1,8,[.v .nilFunc]⟩
 .leaf) 250 ⟨.scalar,1,8,[.v .nilFunc]⟩
 .leaf)) 251 ⟨.scalar,1,8,[.v .nilFunc]⟩
 (.node (.node (.node .leaf 252 ⟨.scalar,1,8,[.v .nilFunc]⟩
 .leaf) 253 ⟨.scalar,1,8,[.v .nilFunc]⟩
 .leaf) 254 ⟨.scalar,1,8,[.v .nilFunc]⟩
 (.node (.node .leaf 255 ⟨.scalar,1,8,[.v .nilFunc]⟩
 .leaf) 256 ⟨.scalar,1,8,[.v .nilFunc]⟩
 .leaf))) 257 ⟨.scalar,1,8,[.v .nilFunc]⟩
 (.node (.node (.node (.node .leaf 258 ⟨.scalar,1,8,[.v .nilFunc]⟩
 .leaf) 259 ⟨.scalar,1,8,[.v .nilFunc]⟩
 .leaf) 260 ⟨.scalar,1,8,[.v .nilFunc]⟩
 (.node (.node .leaf 261 ⟨.scalar,1,8,[.v .nilFunc]⟩
 .leaf) 262 ⟨.scalar,1,8,[.v .nilFunc]⟩
 .leaf)) 263 ⟨.scalar,1,8,[.v .nilFunc]⟩
 (.node (.node (.node .leaf 264 ⟨.scalar,1,8,[.v .nilFunc]⟩
 .leaf) 265 ⟨.slice 26,1,24,[.v (.slice none 0 0)]⟩
 .leaf) 266 ⟨.scalar,1,8,[.v .nilFunc]⟩
 (.node (.node .leaf 267 ⟨.array 24 5,24,24,[.v (.int .u8 0),.v (.int .u8 0),.v (.int .u8 0),.v (.int .u8 0),.v (.int .u8 0),.v (.int .u8 0),.v (.int .u8 0),.v (.int .u8 0),.v (.int .u8 0),.v (.int .u8 0),.v (.int .u8 0),.v (.int .u8 0),.v (.int .u8 0),.v (.int .u8 0),.v (.int .u8 0),.v (.int .u8 0),.v (.int .u8 0),.v (.int .u8 0),.v (.int .u8 0),.v (.int .u8 0),.v (.int .u8 0),.v (.int .u8 0),.v (.int .u8 0),.v (.int .u8 0)]⟩
 .leaf) 268 ⟨.int .u64,1,8,[.v (.int .u64 0)]⟩
 .leaf)))) 269 ⟨.scalar,1,8,[.v .nilFunc]⟩
 (.node (.node (.node (.node (.node .leaf 270 ⟨.scalar,1,8,[.v .nilFunc]⟩
 .leaf) 271 ⟨.slice 5,1,24,[.v (.slice none 0 0)]⟩
 .leaf) 273 ⟨.scalar,1,8,[.v .nilFunc]⟩
 (.node (.node .leaf 274 ⟨.struct [(0,4),(1,4),(2,4),(3,4),(4,4)],5,5,[.v (.bool false),.v (.bool false),.v (.bool false),.v (.bool false),.v (.bool false)]⟩
 .leaf) 275 ⟨.struct [(0,4),(1,4),(2,4),(3,4),(4,4)],5,5,[.v (.bool false),.v (.bool false),.v (.bool false),.v (.bool false),.v (.bool false)]⟩
 .leaf)) 276 ⟨.scalar,1,8,[.v .nilFunc]⟩
 (.node (.node (.node .leaf 277 ⟨.slice 4,1,24,[.v (.slice none 0 0)]⟩
 .leaf) 278 ⟨.struct [(0,277),(1,277)],2,48,[.v (.slice none 0 0),.v (.slice none 0 0)]⟩
 .leaf) 279 ⟨.struct [(0,277),(1,277)],2,48,[.v (.slice none 0 0),.v (.slice none 0 0)]⟩
 (.node (.node .leaf 281 ⟨.scalar,1,8,[.v .nilFunc]⟩
 .leaf) 283 ⟨.scalar,1,8,[.v .nilFunc]⟩
 .leaf))) 284 ⟨.scalar,1,8,[.v .nilFunc]⟩
 (.node (.node (.node (.node .leaf 285 ⟨.scalar,1,8,[.v .nilFunc]⟩
 .leaf) 286 ⟨.scalar,1,8,[.v .nilFunc]⟩
 .leaf) 287 ⟨.scalar,1,8,[.v .nilFunc]⟩
 (.node (.node .leaf 288 ⟨.scalar,1,8,[.v .nilFunc]⟩
 .leaf) 289 ⟨.scalar,1,8,[.v .nilFunc]⟩
 .leaf)) 290 ⟨.slice 292,1,24,[.v (.slice none 0 0)]⟩
 (.node (.node (.node .leaf 291 ⟨.struct [(0,28),(6,28)],12,144,[.v (.int .i64 0),.v (.int .i64 0),.v (.int .i64 0),.v (.int .i64 0),.v (str []),.v (.slice none 0 0),.v (.int .i64 0),.v (.int .i64 0),.v (.int .i64 0),.v (.int .i64 0),.v (str []),.v (.slice none 0 0)]⟩
 .leaf) 292 ⟨.struct [(0,28),(6,28)],12,144,[.v (.int .i64 0),.v (.int .i64 0),.v (.int .i64 0),.v (.int .i64 0),.v (str []),.v (.slice none 0 0),.v (.int .i64 0),.v (.int .i64 0),.v (.int .i64 0),.v (.int .i64 0),.v (str []),.v (.slice none 0 0)]⟩
 .leaf) 293 ⟨.scalar,1,8,[.v .nilFunc]⟩
 (.node .leaf 294 ⟨.scalar,1,8,[.v .nilFunc]⟩
 .leaf)))))) 295 ⟨.scalar,1,8,[.v .nilFunc]⟩
 (.node (.node (.node (.node (.node (.node (.node .leaf 296 ⟨.scalar,1,8,[.v .nilFunc]⟩
 .leaf) 297 ⟨.scalar,1,8,[.v .nilFunc]⟩
 .leaf) 298 ⟨.scalar,1,8,[.v .nilFunc]⟩
 (.node (.node .leaf 299 ⟨.scalar,1,8,[.v .nilFunc]⟩
 .leaf) 300 ⟨.scalar,1,8,[.v .nilFunc]⟩
 .leaf)) 301 ⟨.scalar,1,8,[.v .nilFunc]⟩
 (.node (.node (.node .leaf 302 ⟨.scalar,1,8,[.v .nilFunc]⟩
 .leaf) 303 ⟨.scalar,1,8,[.v .nilFunc]⟩
 .leaf) 304 ⟨.scalar,1,8,[.v .nilFunc]⟩
 (.node (.node .leaf 305 ⟨.scalar,1,8,[.v .nilFunc]⟩
 .leaf) 307 ⟨.scalar,1,8,[.v .nilFunc]⟩
 .leaf))) 308 ⟨.scalar,1,8,[.v .nilFunc]⟩
 (.node (.node (.node (.node .leaf 309 ⟨.struct [(0,25),(2,3),(3,59),(4,59),(5,59)],6,128,[.v (.slice none 0 0),.v (.slice none 0 0),.v (.int .i64 0),.v (.slice none 0 0),.v (.slice none 0 0),.v (.slice none 0 0)]⟩
 .leaf) 310 ⟨.struct [(0,25),(2,3),(3,59),(4,59),(5,59)],6,128,[.v (.slice none 0 0),.v (.slice none 0 0),.v (.int .i64 0),.v (.slice none 0 0),.v (.slice none 0 0),.v (.slice none 0 0)]⟩
 .leaf) 311 ⟨.scalar,1,8,[.v .nilFunc]⟩
 (.node (.node .leaf 312 ⟨.scalar,1,8,[.v .nilFunc]⟩
 .leaf) 313 ⟨.scalar,1,8,[.v .nilFunc]⟩
 .leaf)) 314 ⟨.scalar,1,8,[.v .nilFunc]⟩
 (.node (.node (.node .leaf 315 ⟨.scalar,1,8,[.v .nilFunc]⟩
 .leaf) 316 ⟨.scalar,1,8,[.v .nilFunc]⟩
 .leaf) 317 ⟨.scalar,1,8,[.v .nilFunc]⟩
 (.node (.node .leaf 318 ⟨.scalar,1,8,[.v .nilFunc]⟩
 .leaf) 319 ⟨.scalar,1,8,[.v .nilFunc]⟩
 .leaf)))) 320 ⟨.scalar,1,8,[.v .nilFunc]⟩
 (.node (.node (.node (.node (.node .leaf 321 ⟨.scalar,1,8,[.v .nilFunc]⟩
 .leaf) 322 ⟨.scalar,1,8,[.v .nilFunc]⟩
 .leaf) 323 ⟨.scalar,1,8,[.v .nilFunc]⟩
 (.node (.node .leaf 324 ⟨.scalar,1,8,[.v .nilFunc]⟩
 .leaf) 325 ⟨.scalar,1,8,[.v .nilFunc]⟩
 .leaf)) 326 ⟨.scalar,1,8,[.v .nilFunc]⟩
 (.node (.node (.node .leaf 327 ⟨.scalar,1,8,[.v .nilFunc]⟩
 .leaf) 328 ⟨.scalar,1,8,[.v .nilFunc]⟩
 .leaf) 329 ⟨.scalar,1,8,[.v .nilFunc]⟩
 (.node (.node .leaf 330 ⟨.scalar,1,8,[.v .nilFunc]⟩
 .leaf) 331 ⟨.scalar,1,8,[.v .nilFunc]⟩
 .leaf))) 332 ⟨.slice 95,1,24,[.v (.slice none 0 0)]⟩
 (.node (.node (.node (.node .leaf 333 ⟨.scalar,1,8,[.v .nilFunc]⟩
 .leaf) 334 ⟨.scalar,1,8,[.v .nilFunc]⟩
 .leaf) 335 ⟨.array 20 268,20,160,[.v (.int .u64 0),.v (.int .u64 0),.v (.int .u64 0),.v (.int .u64 0),.v (.int .u64 0),.v (.int .u64 0),.v (.int .u64 0),.v (.int .u64 0),.v (.int .u64 0),.v (.int .u64 0),.v (.int .u64 0),.v (.int .u64 0),.v (.int .u64 0),.v (.int .u64 0),.v (.int .u64 0),.v (.int .u64 0),.v (.int .u64 0),.v (.int .u64 0),.v (.int .u64 0),.v (.int .u64 0)]⟩
 (.node (.node .leaf 336 ⟨.int .u32,1,4,[.v (.int .u32 0)]⟩
 .leaf) 337 ⟨.array 65 5,65,65,[.v (.int .u8 0),.v (.int .u8 0),.v (.int .u8 0),.v (.int .u8 0),.v (.int .u8 0),.v (.int .u8 0),.v (.int .u8 0),.v (.int .u8 0),.v (.int .u8 0),.v (.int .u8 0),.v (.int .u8 0),.v (.int .u8 0),.v (.int .u8 0),.v (.int .u8 0),.v (.int .u8 0),.v (.int .u8 0),.v (.int .u8 0),.v (.int .u8 0),.v (.int .u8 0),.v (.int .u8 0),.v (.int .u8 0),.v (.int .u8 0),.v (.int .u8 0),.v (.int .u8 0),.v (.int .u8 0),.v (.int .u8 0),.v (.int .u8 0),.v (.int .u8 0),.v (.int .u8 0),.v (.int .u8 0),.v (.int .u8 0),.v (.int .u8 0),.v (.int .u8 0),.v (.int .u8 0),.v (.int .u8 0),.v (.int .u8 0),.v (.int .u8 0),.v (.int .u8 0),.v (.int .u8 0),.v (.int .u8 0),.v (.int .u8 0),.v (.int .u8 0),.v (.int .u8 0),.v (.int .u8 0),.v (.int .u8 0),.v (.int .u8 0),.v (.int .u8 0),.v (.int .u8 0),.v (.int .u8 0),.v (.int .u8 0),.v (.int .u8 0),.v (.int .u8 0),.v (.int .u8 0),.v (.int .u8 0),.v (.int .u8 0),.v (.int .u8 0),.v (.int .u8 0),.v (.int .u8 0),.v (.int .u8 0),.v (.int .u8 0),.v (.int .u8 0),.v (.int .u8 0),.v (.int .u8 0),.v (.int .u8 0),.v (.int .u8 0)]⟩
 .leaf)) 338 ⟨.int .u64,1,8,[.v (.int .u64 0)]⟩
 (.node (.node (.node .leaf 339 ⟨.scalar,1,8,[.v .nilFunc]⟩
 .leaf) 340 ⟨.scalar,1,8,[.v .nilFunc]⟩
 .leaf) 342 ⟨.scalar,1,8,[.v .nilFunc]⟩
 (.node .leaf 344 ⟨.scalar,1,8,[.v .nilFunc]⟩
 .leaf))))) 346 ⟨.scalar,1,8,[.v .nilFunc]⟩
 (.node (.node (.node (.node (.node (.node .leaf 347 ⟨.scalar,1,8,[.v .nilFunc]⟩
 .leaf) 348 ⟨.scalar,1,8,[.v .nilFunc]⟩
 .leaf) 349 ⟨.scalar,1,8,[.v .nilFunc]⟩
 (.node (.node .leaf 350 ⟨.scalar,1,8,[.v .nilFunc]⟩
 .leaf) 351 ⟨.scalar,1,8,[.v .nilFunc]⟩
 .leaf)) 352 ⟨.scalar,1,8,[.v .nilFunc]⟩
 (.node (.node (.node .leaf 353 ⟨.scalar,1,8,[.v .nilFunc]⟩
 .leaf) 354 ⟨.scalar,1,8,[.v .nilFunc]⟩
 .leaf) 356 ⟨.scalar,1,8,[.v .nilFunc]⟩
 (.node (.node .leaf 357 ⟨.scalar,1,8,[.v .nilFunc]⟩
 .leaf) 358 ⟨.scalar,1,8,[.v .nilFunc]⟩
 .leaf))) 359 ⟨.scalar,1,8,[.v .nilFunc]⟩
 (.node (.node (.node (.node .leaf 360 ⟨.scalar,1,8,[.v .nilFunc]⟩
 .leaf) 361 ⟨.scalar,1,8,[.v .nilFunc]⟩
 .leaf) 362 ⟨.scalar,1,8,[.v .nilFunc]⟩
 (.node (.node .leaf 363 ⟨.scalar,1,8,[.v .nilFunc]⟩
 .leaf) 364 ⟨.scalar,1,8,[.v .nilFunc]⟩
 .leaf)) 365 ⟨.scalar,1,8,[.v .nilFunc]⟩
 (.node (.node (.node .leaf 366 ⟨.scalar,1,8,[.v .nilFunc]⟩
 .leaf) 367 ⟨.scalar,1,8,[.v .nilFunc]⟩
 .leaf) 368 ⟨.scalar,1,8,[.v .nilFunc]⟩
 (.node (.node .leaf 369 ⟨.array 32 5,32,32,[.v (.int .u8 0),.v (.int .u8 0),.v (.int .u8 0),.v (.int .u8 0),.v (.int .u8 0),.v (.int .u8 0),.v (.int .u8 0),.v (.int .u8 0),.v (.int .u8 0),.v (.int .u8 0),.v (.int .u8 0),.v (.int .u8 0),.v (.int .u8 0),.v (.int .u8 0),.v (.int .u8 0),.v (.int .u8 0),.v (.int .u8 0),.v (.int .u8 0),.v (.int .u8 0),.v (.int .u8 0),.v (.int .u8 0),.v (.int .u8 0),.v (.int .u8 0),.v (.int .u8 0),.v (.int .u8 0),.v (.int .u8 0),.v (.int .u8 0),.v (.int .u8 0),.v (.int .u8 0),.v (.int .u8 0),.v (.int .u8 0),.v (.int .u8 0)]⟩
 .leaf) 370 ⟨.array 64 5,64,64,[.v (.int .u8 0),.v (.int .u8 0),.v (.int .u8 0),.v (.int .u8 0),.v (.int .u8 0),.v (.int .u8 0),.v (.int .u8 0),.v (.int .u8 0),.v (.int .u8 0),.v (.int .u8 0),.v (.int .u8 0),.v (.int .u8 0),.v (.int .u8 0),.v (.int .u8 0),.v (.int .u8 0),.v (.int .u8 0),.v (.int .u8 0),.v (.int .u8 0),.v (.int .u8 0),.v (.int .u8 0),.v (.int .u8 0),.v (.int .u8 0),.v (.int .u8 0),.v (.int .u8 0),.v (.int .u8 0),.v (.int .u8 0),.v (.int .u8 0),.v (.int .u8 0),.v (.int .u8 0),.v (.int .u8 0),.v (.int .u8 0),.v (.int .u8 0),.v (.int .u8 0),.v (.int .u8 0),.v (.int .u8 0),.v (.int .u8 0),.v (.int .u8 0),.v (.int .u8 0),.v (.int .u8 0),.v (.int .u8 0),.v (.int .u8 0),.v (.int .u8 0),.v (.int .u8 0),.v (.int .u8 0),.v (.int .u8 0),.v (.int .u8 0),.v (.int .u8 0),.v (.int .u8 0),.v (.int .u8 0),.v (.int .u8 0),.v (.int .u8 0),.v (.int .u8 0),.v (.int .u8 0),.v (.int .u8 0),.v (.int .u8 0),.v (.int .u8 0),.v (.int .u8 0),.v (.int .u8 0),.v (.int .u8 0),.v (.int .u8 0),.v (.int .u8 0),.v (.int .u8 0),.v (.int .u8 0),.v (.int .u8 0)]⟩
 .leaf)))) 371 ⟨.scalar,1,8,[.v .nilFunc]⟩
 (.node (.node (.node (.node (.node .leaf 372 ⟨.scalar,1,8,[.v .nilFunc]⟩
 .leaf) 373 ⟨.scalar,1,8,[.v .nilFunc]⟩
 .leaf) 374 ⟨.scalar,1,8,[.v .nilFunc]⟩
 (.node (.node .leaf 375 ⟨.scalar,1,8,[.v .nilFunc]⟩
 .leaf) 376 ⟨.scalar,1,8,[.v .nilFunc]⟩
 .leaf)) 377 ⟨.scalar,1,8,[.v .nilFunc]⟩
 (.node (.node (.node .leaf 379 ⟨.scalar,1,8,[.v .nilFunc]⟩
 .leaf) 380 ⟨.scalar,1,8,[.v .nilFunc]⟩
 .leaf) 381 ⟨.struct [(0,17),(1,17),(2,17),(3,9)],4,40,[.v (.pointer none),.v (.pointer none),.v (.pointer none),.v (str [])]⟩
 (.node (.node .leaf 382 ⟨.struct [(0,17),(1,17),(2,17),(3,9)],4,40,[.v (.pointer none),.v (.pointer none),.v (.pointer none),.v (str [])]⟩
 .leaf) 383 ⟨.array 0 16,0,0,[]⟩
 .leaf))) 384 ⟨.struct [(0,383)],0,0,[]⟩
 (.node (.node (.node (.node .leaf 385 ⟨.struct [(0,383)],0,0,[]⟩
 .leaf) 386 ⟨.scalar,1,8,[.v .nilFunc]⟩
 .leaf) 387 ⟨.int .u8,1,1,[.v (.int .u8 0)]⟩
 (.node (.node .leaf 388 ⟨.int .u8,1,1,[.v (.int .u8 0)]⟩
 .leaf) 389 ⟨.scalar,1,8,[.v .nilFunc]⟩
 .leaf)) 390 ⟨.ptr 5,1,8,[.v (.pointer none)]⟩
 (.node (.node (.node .leaf 391 ⟨.int .i32,1,4,[.v (.int .i32 0)]⟩
 .leaf) 392 ⟨.int .i32,1,4,[.v (.int .i32 0)]⟩
 .leaf) 393 ⟨.struct [(0,12),(1,12),(2,336),(3,387),(4,5),(5,5),(6,388),(7,389),(8,390),(9,391),(10,392)],11,48,[.v (.int .u64 0),.v (.int .u64 0),.v (.int .u32 0),.v (.int .u8 0),.v (.int .u8 0),.v (.int .u8 0),.v (.int .u8 0),.v .nilFunc,.v (.pointer none),.v (.int .i32 0),.v (.int .i32 0)]⟩
 (.node .leaf 394 ⟨.struct [(0,12),(1,12),(2,336),(3,387),(4,5),(5,5),(6,388),(7,389),(8,390),(9,391),(10,392)],11,48,[.v (.int .u64 0),.v (.int .u64 0),.v (.int .u32 0),.v (.int .u8 0),.v (.int .u8 0),.v (.int .u8 0),.v (.int .u8 0),.v .nilFunc,.v (.pointer none),.v (.int .i32 0),.v (.int .i32 0)]⟩
 .leaf))))))))
theorem tabOk:TabOk Tryz.prog tab:=tabOk_of_check (by kernel_rfl)
theorem so{f:FuncId}{fn:Func}{c:Code}{args:List SV}{H:Heap}{R:Res->Heap->Prop}(hf:Tryz.prog.funcs[f]?=some fn)(h:TR Tryz.prog fn.ntmps c (argEnv 0 args) H (RetK tab fn.results.toList H.length R))
  (hn:(fn.name == "runtime.NumGoroutine")=false:=by kernel_rfl)(hb:fn.body=some c:=by exact rfl)(ha:Nat.ble args.length fn.ntmps=true:=by exact rfl):Sound Tryz.prog f args H R:=Sound.of tabOk hf hn hb ha h
end Go.Proofs.YtddaclniamlmbaaGreatDoor
