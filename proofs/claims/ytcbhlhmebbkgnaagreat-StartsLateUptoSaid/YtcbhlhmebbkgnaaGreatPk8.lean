import Derived.Lib.MinMax
import Derived.Lib.Bytealg
import Derived.Test.YtcbhlhmebbkgnaaGreatProg
import Derived.Test.YtcbhlhmebbkgnaaGreatPk4
import Derived.Test.YtcbhlhmebbkgnaaGreatPk7
set_option linter.unusedSimpArgs false
set_option linter.unusedVariables false
namespace Go.TL
open Go
def zcc(ops:Array Oper)(i:Nat):List Nat:=((ops[i]?).map fun o=>(o.after.toList.filter (Region.binds .any)).map (·.on)).getD []
def zrh(ops:Array Oper)(l:List Nat):List Nat:=(List.range ops.size).filter fun i=>l.contains i || l.any fun j=>(zcc ops j).contains i
def cov(ops:Array Oper):Nat->List Nat->List Nat
 | 0,l=>l
 | f+1,l=>cov ops f (zrh ops l)
def zlA(ops:Array Oper):Bool:=(List.range ops.size).all fun i=>(zcc ops i).all fun j=>Nat.blt j i
def zkW(ops:Array Oper)(k:Nat):Bool:=(List.range ops.size).all fun j=>Nat.blt j k || (List.range j).all fun i=>(cov ops 8 (zcc ops j)).contains i
def DC(ops:Array Oper)(L:Array Bool):Prop:=∀i,L[i]?=some true->∀j∈zcc ops i,L[j]?=some true
theorem gT{L:Array Bool}{i:Nat}:L.getD i false=true ↔ L[i]?=some true:=by
 rw[Array.getD_eq_getD_getElem?];cases L[i]? <;> simp
theorem gF{L:Array Bool}{i:Nat}:L.getD i true=false ↔ L[i]?=some false:=by
 rw[Array.getD_eq_getD_getElem?];cases L[i]? <;> simp
theorem zdU{ops:Array Oper}{L:Array Bool}(h:DC ops L):∀(f:Nat) (l:List Nat),(∀i∈l,L[i]?=some true)->∀i∈cov ops f l,L[i]?=some true
 | 0,l,hl=>hl
 | f+1,l,hl=>zdU h f _ fun i hi=>by
   simp only[zrh,List.mem_filter,Bool.or_eq_true,List.any_eq_true,List.contains_iff_mem]at hi
   rcases hi.2 with h1|⟨j,h1,h2⟩
   ·exact hl i h1
   ·exact h j (hl j h1) i h2
theorem zbe{ops:Array Oper}{L:Array Bool}{i:Nat}(hs:L.size=ops.size):i∈Region.ready .any ops L ↔ L[i]?=some false/\∀j∈zcc ops i,L[j]?=some true:=by
 rw[mem_ready,gF]
 constructor
 ·rintro⟨h1,o,ho,h2⟩
  refine⟨h1,fun j hj=>?_⟩
  simp only[zcc,ho,Option.map_some,Option.getD_some,List.mem_map,List.mem_filter]at hj
  obtain⟨e,⟨he,hb⟩,rfl⟩:=hj
  exact gT.1 (h2 e (by simpa using he) hb)
 ·rintro⟨h1,h2⟩
  have hi:=(Array.getElem?_eq_some_iff.1 h1).1
  have ho:ops[i]?=some (ops[i]'(by omega)):=Array.getElem?_eq_getElem (by omega)
  refine⟨h1,_,ho,fun e he hb=>gT.2 (h2 _ ?_)⟩
  simp only[zcc,ho,Option.map_some,Option.getD_some,List.mem_map,List.mem_filter]
  exact⟨e,⟨by simpa using he,hb⟩,rfl⟩
theorem least{p:Nat->Prop}[DecidablePred p]:∀n,¬p n->∃m,m≤n/\¬p m/\∀j,j<m->p j:=by
 intro n
 induction n using Nat.strongRecOn with
 | ind n ih=>
   intro h
   by_cases hx:∃j,j<n/\¬p j
   ·obtain⟨j,hj,hp⟩:=hx
    obtain⟨m,h1,h2,h3⟩:=ih j hj hp
    exact⟨m,by omega,h2,h3⟩
   ·exact⟨n,Nat.le_refl _,h,fun j hj=>Classical.byContradiction fun hp=>hx ⟨j,hj,hp⟩⟩
theorem zck{ops:Array Oper}{L:Array Bool}(hs:L.size=ops.size)(hd:zlA ops=true){n:Nat}(hn:L[n]?=some false):∃m,m≤n/\m∈Region.ready .any ops L/\∀j,j<m->L[j]?=some true:=by
 obtain⟨m,h1,h2,h3⟩:=least (p:=fun j=>L[j]?=some true) n (by rw[hn];simp)
 have hnl:=(Array.getElem?_eq_some_iff.1 hn).1
 have hm:L[m]?=some false:=by
  have:L[m]?=some (L[m]'(by omega)):=Array.getElem?_eq_getElem (by omega)
  rw[this]at h2⊢
  cases h:L[m]'(by omega)
  ·rfl
  ·rw[h]at h2;exact absurd rfl h2
 refine⟨m,h1,(zbe hs).2 ⟨hm,fun j hj=>h3 j ?_⟩,h3⟩
 have:=List.all_eq_true.1 hd m (by simp;omega)
 have:=List.all_eq_true.1 this j hj
 simpa using this
theorem forced{ops:Array Oper}{L:Array Bool}{k j:Nat}(hs:L.size=ops.size)(hf:zkW ops k=true)(hdc:DC ops L)(hj:j∈Region.ready .any ops L)(hk:k≤j):∀i,i<j->L[i]?=some true:=by
 intro i hi
 obtain⟨h1,h2⟩:=(zbe hs).1 hj
 have hlt:=(Array.getElem?_eq_some_iff.1 h1).1
 have:=List.all_eq_true.1 hf j (by simp;omega)
 simp only[Bool.or_eq_true]at this
 rcases this with h|h
 ·simp at h;omega
 ·have:=List.all_eq_true.1 h i (by simpa using hi)
  exact zdU hdc 8 _ h2 i (by simpa using this)
theorem zqR{ops:Array Oper}{L:Array Bool}{i:Nat}(hs:L.size=ops.size)(hdc:DC ops L)(hi:i∈Region.ready .any ops L):DC ops (L.setIfInBounds i true):=by
 have key:∀(j:Nat),L[j]?=some true->(L.setIfInBounds i true)[j]?=some true:=by
  intro j hj
  rw[Array.getElem?_setIfInBounds]
  have:=(Array.getElem?_eq_some_iff.1 hj).1
  split
  ·rw[if_pos (by omega)]
  ·exact hj
 intro x hx j hj
 rw[Array.getElem?_setIfInBounds]at hx
 split at hx
 ·rename_i e
  subst e
  exact key j (((zbe hs).1 hi).2 j hj)
 ·exact key j (hdc x hx j hj)
section rules
variable {P:Program}{all:Array Oper}
theorem znX{F:Fence}{N:Nat}{md:Region.Mode}{Q:Exit->Act->World->Prop}:∀(f:Nat) (L:Array Bool) (a:Act) (w:World),wpAnyIn F N P md all Q f L a w->wpAnyIn F N P md all Q (f+1) L a w
 | 0,L,a,w,h=>⟨fun _=>h.2,fun i hi=>by rw[h.1]at hi;cases hi⟩
 | f+1,L,a,w,h=>⟨h.1,fun i hi=>wpOpIn_mono (fun a w h2=>znX f _ a w h2) (h.2 i hi)⟩
theorem zic{F:Fence}{N:Nat}{md:Region.Mode}{Q:Exit->Act->World->Prop}(f:Nat)(L:Array Bool)(a:Act)(w:World)(h:wpAnyIn F N P md all Q f L a w):∀k,wpAnyIn F N P md all Q (k+f) L a w
 | 0=>by rw[Nat.zero_add];exact h
 | k+1=>by rw[show k+1+f=(k+f)+1 from by omega];exact znX _ _ _ _ (zic f L a w h k)
theorem ztS{r:Option Nat}{C:World->Prop}{Q:Act->Prop}{Q':Exit->Act->World->Prop}{k n2:Nat}(hd:zlA all=true)(hf:zkW all k=true)(hp:∀(i:Nat) o,i<k->all[i]?=some o->Op.plain o.op=true)
  (hQ:∀(L:Array Bool) a w,L.size=all.size->(∀(i:Nat),i<k->i<all.size->L[i]?=some true)->(∀(i:Nat),k≤i->i<all.size->L[i]?=some false)->C w->Q a->wpAnyIn (Fr r) 0 P .any all Q' n2 L a w):
  ∀(u:Nat) (L M:Array Bool) (a:Act) (w:World),L.size=all.size->M.size=all.size->(∀(i:Nat),i<k->M[i]?=L[i]?)->(∀(i:Nat),k≤i->i<all.size->M[i]?=some true)->(∀(i:Nat),k≤i->i<all.size->L[i]?=some false)->
   DC all L->C w->wpAnyQIn (Fr r) 0 P .any all C Q u M a->wpAnyIn (Fr r) 0 P .any all Q' (u+n2) L a w:=by
 intro u
 have full:∀(L M:Array Bool),L.size=all.size->M.size=all.size->(∀(i:Nat),i<k->M[i]?=L[i]?)->(∀(i:Nat),k≤i->i<all.size->M[i]?=some true)->DC all L->Region.ready .any all M=[]->∀(i:Nat),i<k->i<all.size->L[i]?=some true:=by
  intro L M hL hM h1 h2 hdc hr i hi hia
  refine Classical.byContradiction fun hne=>?_
  have hMi:M[i]?=some false:=by
   rw[h1 i hi]
   have:L[i]?=some (L[i]'(by omega)):=Array.getElem?_eq_getElem (by omega)
   rw[this]at hne⊢
   cases h:L[i]'(by omega)
   ·rfl
   ·rw[h]at hne;exact absurd rfl hne
  obtain⟨m,_,hm,_⟩:=zck hM hd hMi
  rw[hr]at hm;cases hm
 induction u with
 | zero=>
   intro L M a w hL hM h1 h2 h3 hdc hC h
   rw[Nat.zero_add]
   exact hQ L a w hL (full L M hL hM h1 h2 hdc h.1) h3 hC h.2
 | succ u ih=>
   intro L M a w hL hM h1 h2 h3 hdc hC h
   by_cases hr:Region.ready .any all M=[]
   ·exact zic _ _ _ _ (hQ L a w hL (full L M hL hM h1 h2 hdc hr) h3 hC (h.1 hr)) (u+1)
   ·
    obtain⟨x,hx⟩:=List.exists_mem_of_ne_nil _ hr
    have hx1:=((zbe hM).1 hx).1
    have hxl:=(Array.getElem?_eq_some_iff.1 hx1).1
    have hxk:x<k:=Nat.lt_of_not_le fun hle=>by rw[h2 x hle (by omega)]at hx1;cases hx1
    have hLx:L[x]?=some false:=by rw[<-h1 x hxk];exact hx1
    rw[show u+1+n2=(u+n2)+1 from by omega]
    refine⟨fun h0=>?_,fun i hi=>?_⟩
    ·obtain⟨m,_,hm,_⟩:=zck hL hd hLx
     rw[h0]at hm;cases hm
    ·have hik:i<k:=Nat.lt_of_not_le fun hle=>by
      have:=forced hL hf hdc hi hle x (by omega)
      rw[this]at hLx;cases hLx
     obtain⟨g1,g2⟩:=(zbe hL).1 hi
     have hiM:i∈Region.ready .any all M:=by
      refine(zbe hM).2 ⟨by rw[h1 i hik];exact g1,fun j hj=>?_⟩
      have hjl:=(Array.getElem?_eq_some_iff.1 (g2 j hj)).1
      by_cases hjk:j<k
      ·rw[h1 j hjk];exact g2 j hj
      ·exact h2 j (by omega) (by omega)
     have hnext:∀a' w',C w'->wpAnyQIn (Fr r) 0 P .any all C Q u (M.setIfInBounds i true) a'->wpAnyIn (Fr r) 0 P .any all Q' (u+n2) (L.setIfInBounds i true) a' w':=by
      intro a' w' hC' hk'
      refine ih (L.setIfInBounds i true) (M.setIfInBounds i true) a' w' (by simpa using hL) (by simpa using hM) ?_ ?_ ?_ (zqR hL hdc hi) hC' hk'
      ·intro j hj
       rw[Array.getElem?_setIfInBounds,Array.getElem?_setIfInBounds,h1 j hj,hL,hM]
      ·intro j hj hja
       rw[Array.getElem?_setIfInBounds,if_neg (by omega)]
       exact h2 j hj hja
      ·intro j hj hja
       rw[Array.getElem?_setIfInBounds,if_neg (by omega)]
       exact h3 j hj hja
     have h4:=h.2 i hiM
     unfold qOpIn at h4
     unfold wpOpIn
     cases ho:all[i]? with
     | none=>simp only[ho]at h4⊢;exact hnext _ _ hC h4
     | some o=>
       simp only[ho]at h4⊢
       obtain⟨_,h4⟩:=h4
       split
       ·rename_i hwt
        rw[if_pos hwt]at h4
        exact zfl (hp i o hik ho) hC (fun a' w' hw' hk=>hnext a' w' hw' hk) h4
       ·rename_i hwt
        rw[if_neg hwt]at h4
        exact⟨fun _ _=>trivial,hnext _ _ hC h4⟩
theorem zqj{r:Option Nat}{Q':Exit->Act->World->Prop}{k:Nat}(hd:zlA all=true)(hf:zkW all k=true):∀(l:List Oper) (p:Nat) (L:Array Bool) (a:Act) (w:World),k≤p->(∀j,l[j]?=all[p+j]?)->L.size=all.size->
   (∀(i:Nat),i<p->i<all.size->L[i]?=some true)->(∀(i:Nat),p≤i->i<all.size->L[i]?=some false)->wpListIn (Fr r) 0 P all Q' l a w->wpAnyIn (Fr r) 0 P .any all Q' l.length L a w
 | [],p,L,a,w,hk,hl,hL,h1,h2,h=>by
   have hsz:all.size≤p:=Nat.le_of_not_lt fun hlt=>by
    have:=hl 0
    rw[Nat.add_zero,Array.getElem?_eq_getElem hlt]at this
    cases this
   refine⟨?_,h⟩
   refine List.eq_nil_iff_forall_not_mem.2 fun i hi=>?_
   have:=((zbe hL).1 hi).1
   have hlt:=(Array.getElem?_eq_some_iff.1 this).1
   rw[h1 i (by omega) (by omega)]at this
   cases this
 | o::l,p,L,a,w,hk,hl,hL,h1,h2,h=>by
   have hpo:all[p]?=some o:=by simpa using (hl 0).symm
   have hpl:=(Array.getElem?_eq_some_iff.1 hpo).1
   have hLp:=h2 p (Nat.le_refl _) hpl
   have hdc:DC all L:=by
    intro i hi j hj
    have hil:=(Array.getElem?_eq_some_iff.1 hi).1
    have hip:i<p:=Nat.lt_of_not_le fun hle=>by rw[h2 i hle (by omega)]at hi;cases hi
    have:=List.all_eq_true.1 hd i (by simp;omega)
    have:=List.all_eq_true.1 this j hj
    have hji:j<i:=by simpa using this
    exact h1 j (by omega) (by omega)
   refine⟨fun h0=>?_,fun i hi=>?_⟩
   ·obtain⟨m,_,hm,_⟩:=zck hL hd hLp
    rw[h0]at hm;cases hm
   ·have hi1:=((zbe hL).1 hi).1
    have hil:=(Array.getElem?_eq_some_iff.1 hi1).1
    have hip:p≤i:=Nat.le_of_not_lt fun hlt=>by rw[h1 i hlt (by omega)]at hi1;cases hi1
    have hipe:i=p:=by
     refine Classical.byContradiction fun hne=>?_
     have:=forced hL hf hdc hi (by omega) p (by omega)
     rw[this]at hLp;cases hLp
    subst hipe
    have hnext:∀a' w',wpListIn (Fr r) 0 P all Q' l a' w'->wpAnyIn (Fr r) 0 P .any all Q' l.length (L.setIfInBounds i true) a' w':=by
     intro a' w' h'
     refine zqj hd hf l (i+1) (L.setIfInBounds i true) a' w' (by omega) (fun j=>?_) (by simpa using hL) (fun j hj hja=>?_) (fun j hj hja=>?_) h'
     ·have:=hl (j+1)
      simp only[List.getElem?_cons_succ]at this
      rw[this];congr 1;omega
     ·rw[Array.getElem?_setIfInBounds]
      split
      ·first|rfl|rw[if_pos (by omega)]
      ·exact h1 j (by omega) hja
     ·rw[Array.getElem?_setIfInBounds,if_neg (by omega)]
      exact h2 j (by omega) hja
    unfold wpListIn at h
    unfold wpOpIn
    simp only[hpo]
    split
    ·rename_i hw
     rw[if_pos hw]at h
     exact Oper.wpIn_mono (fun a w h=>hnext a w h) h
    ·rename_i hw
     rw[if_neg hw]at h
     exact⟨h.1,hnext _ _ h.2⟩
theorem zk8{F:Fence}{N:Nat}{C:World->Prop}{md:Region.Mode}{Q:Act->Prop}(hs:Region.noSelect all=true):∀(l:List Oper) (k:Nat) (listed:Array Bool) (a:Act),(∀j,j<l.length->l[j]?=all[k+j]?)->
  Region.lexFrom md all l.length k listed=true->wpQuietIn F N P all C Q l a->wpAnyQIn F N P md all C Q l.length listed a
 | [],_,_,_,_,hB,h=>⟨by simpa [Region.lexFrom]using hB,h⟩
 | o::l,k,listed,a,hl,hB,h=>by
   have h0:all[k]?=some o:=by simpa using (hl 0 (by simp)).symm
   simp only[List.length_cons,Region.lexFrom,Bool.and_eq_true]at hB
   obtain⟨⟨hr,hf⟩,hB'⟩:=hB
   have hst:qOpIn F N P all C k (wpQuietIn F N P all C Q l) a:=by unfold qOpIn;simp only[h0];exact h
   obtain⟨v,hy,hK⟩:=yieldsQuiet_of_qOpIn h0 hst
   exact wpAnyQIn_first h0 (Region.noSelect_spec hs) l.length listed a (Region.free_spec h0 hf) (by simpa using hr) hy
    (zk8 hs l (k+1) _ _ (fun j hj=>by have:=hl (j+1) (by simpa using hj);simpa [Nat.add_assoc,Nat.add_comm 1 j]using this) hB' hK)
def zq2(ops:Array Oper)(k:Nat):Bool:=
 Region.noSelect ops && (Nat.ble k ops.size && (zlA ops && (zkW ops k && Region.lexFrom .any ops k 0 (Array.replicate k false++Array.replicate (ops.size-k) true))))
def zaZ(P:Program)(n:Nat)(all:Array Oper)(l2:List Oper)(H:Heap)(K:TK):TK
 | .normal,env,_=>TO false P n all l2 env H K
 | _,_,_=>False
theorem TR.zku{n:Nat}{env:Env}{H:Heap}{K:TK}(k:Nat){id:Nat}{l:List Oper}(hm:P.follows .mixedOrders=true)(hB:zq2 l.toArray k=true)(hp:(l.take k).all (fun o=>Op.plain o.op)=true)
  (h:TO true P n l.toArray (l.take k) env H (zaZ P n l.toArray (l.drop k) H K)):TR P n (.region id l.toArray true) env H K:=by
 simp only[zq2,Bool.and_eq_true]at hB
 obtain⟨hB1,hB2,hB3,hB4,hB5⟩:=hB
 have hk:k≤l.length:=by simpa using Nat.le_of_ble_eq_true hB2
 intro φ m a h1 h2 h3 h4
 have hq:=h φ m a h1 h2 h3 h4
 simp only at hq
 refine zbU (wpIn_region_any hm ?_)
 have hlt:(l.take k).length=k:=by simp;omega
 have:=ztS (P:=P) (all:=l.toArray) (r:=φ.r) (C:=Keeps m.w) (Q:=fun a'=>∀w',Keeps m.w w'->wpListIn (Fr φ.r) 0 P l.toArray (Post φ m n K) (l.drop k) a' w')
  (Q':=Post φ m n K) (k:=k) (n2:=(l.drop k).length) hB3 hB4 (fun i o hi ho=>List.all_eq_true.1 hp o (List.mem_of_getElem? (i:=i) (by rw[List.getElem?_take,if_pos hi];simpa using ho)))
  (fun L a' w' hL g1 g2 hC hQ=>zqj hB3 hB4 (l.drop k) k L a' w' (Nat.le_refl _) (fun j=>by simp) hL g1 g2 (hQ w' hC))
  k (Array.replicate l.toArray.size false) (Array.replicate k false++Array.replicate (l.toArray.size-k) true) a { m.w with drawn:=m.w.drawn+1 } (by simp) (by simp;omega)
  (fun i hi=>by
    rw[Array.getElem?_append_left (by simpa using hi),Array.getElem?_replicate,Array.getElem?_replicate,if_pos hi,if_pos (by simp;omega)])
  (fun i hi hia=>by
    rw[Array.getElem?_append_right (by simpa using hi),Array.getElem?_replicate,if_pos (by simp at hia⊢;omega)])
  (fun i hi hia=>by rw[Array.getElem?_replicate,if_pos hia])
  (fun i hi=>by rw[Array.getElem?_replicate]at hi;split at hi <;> cases hi)
  ⟨rfl,rfl,rfl,Nat.le_refl _,fun _ _=>rfl⟩ ?_
 ·have e:k+(l.drop k).length=l.toArray.size:=by simp;omega
  rw[e]at this
  exact this
 ·have hx:=zk8 (F:=Fr φ.r) (N:=0) (P:=P) (C:=Keeps m.w) (md:=.any) (Q:=fun a'=>∀w',Keeps m.w w'->wpListIn (Fr φ.r) 0 P l.toArray (Post φ m n K) (l.drop k) a' w') hB1 (l.take k) 0
   (Array.replicate k false++Array.replicate (l.toArray.size-k) true) a (fun j hj=>by rw[List.getElem?_take,if_pos (by omega)];simp) (by rw[hlt];exact hB5) (zgk _ a (zcK ?_ _ a hq))
  ·rw[hlt]at hx;exact hx
  ·rintro a' ⟨env',g1,g2,g3⟩ w' hw'
   obtain⟨s,hm'⟩:=zeL h2 hw'
   have:=g3 φ ⟨m.A,m.β,m.H,w'⟩ a' h1 hm' (g1.step h2 s) (g2.step h2 s)
   exact TO.zej s this
theorem zaZ.go{n:Nat}{l2:List Oper}{env:Env}{H:Heap}{K:TK}(h:TO false P n all l2 env H K):zaZ P n all l2 H K .normal env H:=h
theorem TR.zrX{n:Nat}{env:Env}{H:Heap}{K:TK}{id:Nat}{l:List Oper}(hm:P.follows .mixedOrders=true)(hB:zq2 l.toArray (l.length-1)=true)(hp:(l.take (l.length-1)).all (fun o=>Op.plain o.op)=true)
  (h:TO true P n l.toArray (l.take (l.length-1)) env H (zaZ P n l.toArray (l.drop (l.length-1)) H K)):TR P n (.region id l.toArray true) env H K:=TR.zku _ hm hB hp h
theorem TR.zr8{n:Nat}{env:Env}{H:Heap}{K:TK}{id:Nat}{l:List Oper}(hm:P.follows .mixedOrders=true)(hB:zq2 l.toArray (l.length-2)=true)(hp:(l.take (l.length-2)).all (fun o=>Op.plain o.op)=true)
  (h:TO true P n l.toArray (l.take (l.length-2)) env H (zaZ P n l.toArray (l.drop (l.length-2)) H K)):TR P n (.region id l.toArray true) env H K:=TR.zku _ hm hB hp h
end rules
def zmw(o:Oper):Bool:=match o.op with
 | .call c=>(match c.callee with| .value _=>true|_=>false)
 | _=>false
section rules
variable {P:Program}{n:Nat}{K:TK}
theorem zab.zhs{env:Env}{H:Heap}{len k:Nat}{I:Nat->Prop}{E:Nat->Env}{G:Nat->Heap}(j:Nat)(hk:k<len)(hI:I (k+1))(h1:Nat.ble (G k).length j=true)(h2:Nat.ble j H.length=true)
  (hH:H.take j=G (k+1))(h3:zaf j (G (k+1))=true)(h4:(E (k+1)).under j=true)
  (h0:env.sub (E (k+1)):=by repeat' (first|exact trivial|refine And.intro rfl ?_|fail)):
  zab (fun k=>k≤len/\I k) (fun k=>len-k) E G k K .normal env H:=
 zab.cut j (k+1) ⟨hk,hI⟩ (by omega) h0 h1 h2 hH h3 h4
theorem TR.zrt{n:Nat}{env:Env}{H:Heap}{K:TK}{id:Nat}{l:List Oper}(hm:P.follows .mixedOrders=true)(hB:(Nat.blt (l.findIdx zmw) l.length && zq2 l.toArray (l.findIdx zmw))=true)(hp:(l.take (l.findIdx zmw)).all (fun o=>Op.plain o.op)=true)
  (h:TO true P n l.toArray (l.take (l.findIdx zmw)) env H (zaZ P n l.toArray (l.drop (l.findIdx zmw)) H K)):TR P n (.region id l.toArray true) env H K:=by
 simp only[Bool.and_eq_true]at hB
 exact TR.zku _ hm hB.2 hp h
end rules
section rules
variable {P:Program}{n:Nat}{env:Env}{H:Heap}{K:TK}{all:Array Oper}{rest:List Oper}{q:Bool}
variable {d:Nat}{ty:TypeId}{pos:String}{aft:Array Edge}
theorem TO.maxi{x y:Operand}{a b:Int}{ts:Array TypeId}(hd:Nat.ble (d+1) n=true)(hx:env.val x=some (.t (.v (.int .i64 a))))(hy:env.val y=some (.t (.v (.int .i64 b))))
  (k:TO q P n all rest ((d,.t (.v (.int .i64 (max a b))))::env) H K):TO q P n all (⟨some d,.call { callee:=.builtin .max,args:=#[x,y],argTypes:=ts },ty,pos,aft,none⟩::rest) env H K:=
 TO.op hd (fun m ac h1 h2 h3=>⟨.int .i64 (max a b),fun w' hw'=>by
  simp[execOp,resolve,invoke,builtin,(h3.val hx).v_eq,(h3.val hy).v_eq,Go.Lib.run_max_ints],.t _ _ (.v _)⟩) k
theorem TO.mini{x y:Operand}{a b:Int}{ts:Array TypeId}(hd:Nat.ble (d+1) n=true)(hx:env.val x=some (.t (.v (.int .i64 a))))(hy:env.val y=some (.t (.v (.int .i64 b))))
  (k:TO q P n all rest ((d,.t (.v (.int .i64 (min a b))))::env) H K):TO q P n all (⟨some d,.call { callee:=.builtin .min,args:=#[x,y],argTypes:=ts },ty,pos,aft,none⟩::rest) env H K:=
 TO.op hd (fun m ac h1 h2 h3=>⟨.int .i64 (min a b),fun w' hw'=>by
  simp[execOp,resolve,invoke,builtin,(h3.val hx).v_eq,(h3.val hy).v_eq,Go.Lib.run_min_ints],.t _ _ (.v _)⟩) k
theorem TO.zhq{f:FuncId}{fn:Func}{x y:Operand}{ts:Array TypeId}{l:Str}{c:Int}(hd:Nat.ble (d+1) n=true)(hf:P.funcs[f]?=some fn)(hname:(fn.name == "runtime.NumGoroutine")=false)(hb:fn.body.isNone=true)(hn:Extern.findNext fn=none)
  (he:Extern.find fn=some Extern.BytealgIndexByte.indexByte)(hx:env.val x=some (.t (.v (str l))))(hy:env.val y=some (.t (.v (.int .u8 c))))(k:TO q P n all rest ((d,.t (.v (.int .i64 (Lib.indexByte l c.toNat.toUInt8))))::env) H K):
  TO q P n all (⟨some d,.call { callee:=.value (.func f),args:=#[x,y],argTypes:=ts },ty,pos,aft,none⟩::rest) env H K:=
 TO.op hd (fun m ac h1 h2 h3=>⟨.int .i64 (Lib.indexByte l c.toNat.toUInt8),fun w' hw'=>by
  have:=run_callFunc_extern hf hname hb hn he #[ac.eval x,ac.eval y] w'
  rw[(h3.val hx).v_eq,(h3.val hy).v_eq,Lib.run_indexByteString]at this
  simp only[Result.andThen]at this
  simp[execOp,resolve,eval_func,Deferred.ofValue,invoke,(h3.val hx).v_eq,(h3.val hy).v_eq,this],.t _ _ (.v _)⟩) k
end rules
theorem Sound.fresh{P:Program}{f:FuncId}{pre post:List SV}{sz:Nat}{R:Res->Heap->Prop}(h:Sound P f (pre++ .sl sz [] 0::post) [.tail 0] R):Sound P f (pre++ .t (.v (.slice none 0 0))::post) [] R:=by
 refine⟨h.1,fun m vs h1 h2 h3=>?_⟩
 obtain⟨s,hm1⟩:=ziq h2
 have hl:m.H.length=0:=by rw[h1];rfl
 refine Calls.mono (h.2 ⟨m.A,m.β++[⟨0,0,0⟩],m.H++[.tail 0],m.w⟩ vs (by simp[h1]) hm1 ⟨by simpa using h3.1,fun i c x hc hx=>?_⟩) ?_
 ·by_cases hi:i=pre.length
  ·subst hi
   simp at hc
   subst hc
   have hx':=h3.2 pre.length (.t (.v (.slice none 0 0))) x (by simp) hx
   have:=hx'.v_eq
   subst this
   have:=zkJ h2 sz
   rw[hl]at this
   exact this
  ·refine s.srel h2 (h3.2 i c x ?_ hx)
   rcases Nat.lt_or_gt_of_ne hi with h'|h'
   ·rw[List.getElem?_append_left h']at hc⊢;exact hc
   ·rw[List.getElem?_append_right (by omega)]at hc⊢
    rw[List.getElem?_cons,if_neg (by omega)]at hc⊢
    exact hc
 ·rintro e w' ⟨m',r,g1,g2,g3,g4,g5⟩
  exact⟨m',r,g1,s.trans g2,g3,g4,g5⟩
theorem Sound.own{P:Program}{f:FuncId}{args:List SV}{sz n:Nat}{es:List T}(h:Sound P f args [] (fun r H'=>r= .ret (.sl sz es 0)/\H'=[.tail n])):Pure P f args (.t (.sl sz es)):=by
 refine⟨h.1,fun m vs h1 h2 h3=>Calls.mono (h.2 m vs h1 h2 h3) ?_⟩
 rintro e w' ⟨m',r,g1,g2,g3,g4,rfl,g5⟩
 have hb:m.β.length=0:=by rw[h2.len,h1];rfl
 obtain⟨s,hm,hs⟩:=zf8 (k:=0) g3 g2 (Nat.zero_le _) (by omega) rfl
 refine⟨m'.cut 0,.ret (.t (.sl sz es)),by rw[<-g1];rfl,s,hm,?_,rfl,by simp[M.cut]⟩
 cases e with
 | returned x=>exact hs _ _ rfl (Le.own _ _ _ _ _ g4)
 | _=>simp[zb8]at g4
section rules
variable {P:Program}{n:Nat}{env:Env}{H:Heap}{K:TK}{all:Array Oper}{rest:List Oper}
variable {d:Nat}{ty:TypeId}{pos:String}{aft:Array Edge}
theorem TO.zkD(N:Nat){Hc Hc1 H':Heap}{cargs:List SV}{v:SV}{f:Operand}{fid:FuncId}{caps:List SV}{args:Array Operand}{ts:Array TypeId}{vs:List SV}
  (hs:Sound P fid cargs Hc fun r H'=>r= .ret v/\H'=Hc1)(hd:Nat.ble (d+1) n=true)(hf:env.val f=some (.fn fid caps))(ha:env.vals args.toList=some vs)(hl:Les (vs++caps) cargs)
  (hN:Nat.ble N H.length=true)(hc:H.take N=Hc)(hu:unders N cargs=true)(hb:zaf N Hc=true)(hv:v.under N=true)(h1:Hc1.length=N)(h2:zaf N Hc1=true)
  (hH:zct (Hc1++H.drop N)=some H')(k:TO false P n all rest ((d,v)::env) H' K):
  TO false P n all (⟨some d,.call { callee:=.value f,args:=args,argTypes:=ts },ty,pos,aft,none⟩::rest) env H K:=by
 refine TO.zfc N hs ⟨fun u G hr=>?_,fun u G hr=>?_⟩ hd hf ha hl hu (Nat.le_of_ble_eq_true hN) hc hb (fun u G hr=>?_) (fun u G hr=>?_)
 ·obtain⟨h,rfl⟩:=hr;cases h;exact⟨hv,h1,h2⟩
 ·cases hr.1
 ·obtain⟨h,rfl⟩:=hr;cases h;rw[<-zbO hH];exact k
 ·cases hr.1
end rules
end Go.TL
namespace Go.Proofs.YtcbhlhmebbkgnaaGreat
open Go Go.TL
def tab:Tab:=(.node (.node (.node (.node (.node (.node (.node (.node (.node .leaf 1 ⟨.scalar,1,8,[.v .nilFunc]⟩
 .leaf) 2 ⟨.int .i64,1,8,[.v (.int .i64 0)]⟩
 .leaf) 3 ⟨.int .i64,1,8,[.v (.int .i64 0)]⟩
 (.node .leaf 4 ⟨.bool,1,1,[.v (.bool false)]⟩
 .leaf)) 5 ⟨.int .u8,1,1,[.v (.int .u8 0)]⟩
 (.node (.node .leaf 6 ⟨.int .u8,1,1,[.v (.int .u8 0)]⟩
 .leaf) 7 ⟨.struct [(0,2),(1,3),(2,4),(3,6)],4,24,[.v (.int .i64 0),.v (.int .i64 0),.v (.bool false),.v (.int .u8 0)]⟩
 (.node .leaf 8 ⟨.struct [(0,2),(1,3),(2,4),(3,6)],4,24,[.v (.int .i64 0),.v (.int .i64 0),.v (.bool false),.v (.int .u8 0)]⟩
 .leaf))) 9 ⟨.str,1,16,[.v (str [])]⟩
 (.node (.node (.node .leaf 10 ⟨.str,1,16,[.v (str [])]⟩
 .leaf) 11 ⟨.str,1,16,[.v (str [])]⟩
 (.node .leaf 12 ⟨.int .u64,1,8,[.v (.int .u64 0)]⟩
 .leaf)) 13 ⟨.struct [(0,9),(1,12)],2,24,[.v (str []),.v (.int .u64 0)]⟩
 (.node (.node .leaf 14 ⟨.struct [(0,9),(1,12)],2,24,[.v (str []),.v (.int .u64 0)]⟩
 .leaf) 15 ⟨.ptr 263,1,8,[.v (.pointer none)]⟩
 (.node .leaf 16 ⟨.ptr 266,1,8,[.v (.pointer none)]⟩
 .leaf)))) 17 ⟨.ptr 275,1,8,[.v (.pointer none)]⟩
 (.node (.node (.node (.node .leaf 18 ⟨.struct [(0,17)],1,8,[.v (.pointer none)]⟩
 .leaf) 19 ⟨.struct [(0,17)],1,8,[.v (.pointer none)]⟩
 (.node .leaf 20 ⟨.iface,1,16,[.v .nilIface]⟩
 .leaf)) 21 ⟨.int .i32,1,4,[.v (.int .i32 0)]⟩
 (.node (.node .leaf 22 ⟨.slice 75,1,24,[.v (.slice none 0 0)]⟩
 .leaf) 23 ⟨.slice 51,1,24,[.v (.slice none 0 0)]⟩
 (.node .leaf 24 ⟨.struct [(0,22),(1,23)],2,48,[.v (.slice none 0 0),.v (.slice none 0 0)]⟩
 .leaf))) 25 ⟨.struct [(0,22),(1,23)],2,48,[.v (.slice none 0 0),.v (.slice none 0 0)]⟩
 (.node (.node (.node .leaf 26 ⟨.scalar,1,8,[.v .nilFunc]⟩
 .leaf) 27 ⟨.scalar,1,8,[.v .nilFunc]⟩
 (.node .leaf 28 ⟨.struct [(0,3),(1,3)],2,16,[.v (.int .i64 0),.v (.int .i64 0)]⟩
 .leaf)) 29 ⟨.struct [(0,3),(1,3)],2,16,[.v (.int .i64 0),.v (.int .i64 0)]⟩
 (.node (.node .leaf 30 ⟨.int .i64,1,8,[.v (.int .i64 0)]⟩
 .leaf) 32 ⟨.scalar,1,8,[.v .nilFunc]⟩
 (.node .leaf 33 ⟨.slice 35,1,24,[.v (.slice none 0 0)]⟩
 .leaf))))) 34 ⟨.struct [(0,3),(1,3),(2,3),(3,3),(4,9),(5,33)],6,72,[.v (.int .i64 0),.v (.int .i64 0),.v (.int .i64 0),.v (.int .i64 0),.v (str []),.v (.slice none 0 0)]⟩
 (.node (.node (.node (.node (.node .leaf 35 ⟨.struct [(0,3),(1,3),(2,3),(3,3),(4,9),(5,33)],6,72,[.v (.int .i64 0),.v (.int .i64 0),.v (.int .i64 0),.v (.int .i64 0),.v (str []),.v (.slice none 0 0)]⟩
 .leaf) 36 ⟨.scalar,1,8,[.v .nilFunc]⟩
 (.node .leaf 37 ⟨.slice 9,1,24,[.v (.slice none 0 0)]⟩
 .leaf)) 39 ⟨.scalar,1,8,[.v .nilFunc]⟩
 (.node (.node .leaf 41 ⟨.scalar,1,8,[.v .nilFunc]⟩
 .leaf) 42 ⟨.scalar,1,8,[.v .nilFunc]⟩
 (.node .leaf 43 ⟨.scalar,1,8,[.v .nilFunc]⟩
 .leaf))) 44 ⟨.scalar,1,8,[.v .nilFunc]⟩
 (.node (.node (.node .leaf 45 ⟨.scalar,1,8,[.v .nilFunc]⟩
 .leaf) 46 ⟨.scalar,1,8,[.v .nilFunc]⟩
 (.node .leaf 47 ⟨.slice 55,1,24,[.v (.slice none 0 0)]⟩
 .leaf)) 48 ⟨.slice 81,1,24,[.v (.slice none 0 0)]⟩
 (.node (.node .leaf 49 ⟨.slice 102,1,24,[.v (.slice none 0 0)]⟩
 .leaf) 50 ⟨.struct [(0,9),(1,47),(2,47),(3,47),(4,48),(5,49),(6,33),(7,33)],8,184,[.v (str []),.v (.slice none 0 0),.v (.slice none 0 0),.v (.slice none 0 0),.v (.slice none 0 0),.v (.slice none 0 0),.v (.slice none 0 0),.v (.slice none 0 0)]⟩
 (.node .leaf 51 ⟨.struct [(0,9),(1,47),(2,47),(3,47),(4,48),(5,49),(6,33),(7,33)],8,184,[.v (str []),.v (.slice none 0 0),.v (.slice none 0 0),.v (.slice none 0 0),.v (.slice none 0 0),.v (.slice none 0 0),.v (.slice none 0 0),.v (.slice none 0 0)]⟩
 .leaf)))) 52 ⟨.scalar,1,8,[.v .nilFunc]⟩
 (.node (.node (.node (.node .leaf 53 ⟨.slice 83,1,24,[.v (.slice none 0 0)]⟩
 .leaf) 54 ⟨.struct [(0,9),(1,3),(2,53)],3,48,[.v (str []),.v (.int .i64 0),.v (.slice none 0 0)]⟩
 (.node .leaf 55 ⟨.struct [(0,9),(1,3),(2,53)],3,48,[.v (str []),.v (.int .i64 0),.v (.slice none 0 0)]⟩
 .leaf)) 56 ⟨.scalar,1,8,[.v .nilFunc]⟩
 (.node (.node .leaf 57 ⟨.scalar,1,8,[.v .nilFunc]⟩
 .leaf) 58 ⟨.scalar,1,8,[.v .nilFunc]⟩
 (.node .leaf 60 ⟨.scalar,1,8,[.v .nilFunc]⟩
 .leaf))) 61 ⟨.map 9 4,1,8,[.v (.map none)]⟩
 (.node (.node (.node .leaf 62 ⟨.scalar,1,8,[.v .nilFunc]⟩
 .leaf) 63 ⟨.scalar,1,8,[.v .nilFunc]⟩
 (.node .leaf 64 ⟨.scalar,1,8,[.v .nilFunc]⟩
 .leaf)) 65 ⟨.slice 3,1,24,[.v (.slice none 0 0)]⟩
 (.node (.node .leaf 67 ⟨.scalar,1,8,[.v .nilFunc]⟩
 .leaf) 68 ⟨.scalar,1,8,[.v .nilFunc]⟩
 (.node .leaf 69 ⟨.scalar,1,8,[.v .nilFunc]⟩
 .leaf)))))) 71 ⟨.struct [(0,47)],1,24,[.v (.slice none 0 0)]⟩
 (.node (.node (.node (.node (.node (.node (.node .leaf 72 ⟨.struct [(0,47)],1,24,[.v (.slice none 0 0)]⟩
 .leaf) 73 ⟨.scalar,1,8,[.v .nilFunc]⟩
 .leaf) 74 ⟨.struct [(0,9),(1,37)],2,40,[.v (str []),.v (.slice none 0 0)]⟩
 (.node .leaf 75 ⟨.struct [(0,9),(1,37)],2,40,[.v (str []),.v (.slice none 0 0)]⟩
 .leaf)) 76 ⟨.scalar,1,8,[.v .nilFunc]⟩
 (.node (.node .leaf 77 ⟨.scalar,1,8,[.v .nilFunc]⟩
 .leaf) 78 ⟨.scalar,1,8,[.v .nilFunc]⟩
 (.node .leaf 79 ⟨.scalar,1,8,[.v .nilFunc]⟩
 .leaf))) 80 ⟨.struct [(0,37),(1,35)],7,96,[.v (.slice none 0 0),.v (.int .i64 0),.v (.int .i64 0),.v (.int .i64 0),.v (.int .i64 0),.v (str []),.v (.slice none 0 0)]⟩
 (.node (.node (.node .leaf 81 ⟨.struct [(0,37),(1,35)],7,96,[.v (.slice none 0 0),.v (.int .i64 0),.v (.int .i64 0),.v (.int .i64 0),.v (.int .i64 0),.v (str []),.v (.slice none 0 0)]⟩
 .leaf) 82 ⟨.struct [(0,9),(1,3),(2,3)],3,32,[.v (str []),.v (.int .i64 0),.v (.int .i64 0)]⟩
 (.node .leaf 83 ⟨.struct [(0,9),(1,3),(2,3)],3,32,[.v (str []),.v (.int .i64 0),.v (.int .i64 0)]⟩
 .leaf)) 84 ⟨.slice 33,1,24,[.v (.slice none 0 0)]⟩
 (.node (.node .leaf 85 ⟨.scalar,1,8,[.v .nilFunc]⟩
 .leaf) 86 ⟨.scalar,1,8,[.v .nilFunc]⟩
 (.node .leaf 87 ⟨.scalar,1,8,[.v .nilFunc]⟩
 .leaf)))) 88 ⟨.scalar,1,8,[.v .nilFunc]⟩
 (.node (.node (.node (.node .leaf 89 ⟨.scalar,1,8,[.v .nilFunc]⟩
 .leaf) 90 ⟨.scalar,1,8,[.v .nilFunc]⟩
 (.node .leaf 91 ⟨.struct [(0,25),(2,3),(3,47)],4,80,[.v (.slice none 0 0),.v (.slice none 0 0),.v (.int .i64 0),.v (.slice none 0 0)]⟩
 .leaf)) 92 ⟨.struct [(0,25),(2,3),(3,47)],4,80,[.v (.slice none 0 0),.v (.slice none 0 0),.v (.int .i64 0),.v (.slice none 0 0)]⟩
 (.node (.node .leaf 93 ⟨.scalar,1,8,[.v .nilFunc]⟩
 .leaf) 94 ⟨.scalar,1,8,[.v .nilFunc]⟩
 (.node .leaf 95 ⟨.scalar,1,8,[.v .nilFunc]⟩
 .leaf))) 96 ⟨.scalar,1,8,[.v .nilFunc]⟩
 (.node (.node (.node .leaf 97 ⟨.scalar,1,8,[.v .nilFunc]⟩
 .leaf) 98 ⟨.scalar,1,8,[.v .nilFunc]⟩
 (.node .leaf 99 ⟨.scalar,1,8,[.v .nilFunc]⟩
 .leaf)) 100 ⟨.slice 111,1,24,[.v (.slice none 0 0)]⟩
 (.node (.node .leaf 101 ⟨.struct [(0,100)],1,24,[.v (.slice none 0 0)]⟩
 .leaf) 102 ⟨.struct [(0,100)],1,24,[.v (.slice none 0 0)]⟩
 (.node .leaf 103 ⟨.scalar,1,8,[.v .nilFunc]⟩
 .leaf))))) 104 ⟨.scalar,1,8,[.v .nilFunc]⟩
 (.node (.node (.node (.node (.node .leaf 105 ⟨.scalar,1,8,[.v .nilFunc]⟩
 .leaf) 106 ⟨.scalar,1,8,[.v .nilFunc]⟩
 (.node .leaf 107 ⟨.array 2 33,2,48,[.v (.slice none 0 0),.v (.slice none 0 0)]⟩
 .leaf)) 108 ⟨.scalar,1,8,[.v .nilFunc]⟩
 (.node (.node .leaf 109 ⟨.slice 154,1,24,[.v (.slice none 0 0)]⟩
 .leaf) 110 ⟨.struct [(0,9),(1,47),(2,48),(3,49),(4,109),(5,109)],6,136,[.v (str []),.v (.slice none 0 0),.v (.slice none 0 0),.v (.slice none 0 0),.v (.slice none 0 0),.v (.slice none 0 0)]⟩
 (.node .leaf 111 ⟨.struct [(0,9),(1,47),(2,48),(3,49),(4,109),(5,109)],6,136,[.v (str []),.v (.slice none 0 0),.v (.slice none 0 0),.v (.slice none 0 0),.v (.slice none 0 0),.v (.slice none 0 0)]⟩
 .leaf))) 112 ⟨.scalar,1,8,[.v .nilFunc]⟩
 (.node (.node (.node .leaf 113 ⟨.scalar,1,8,[.v .nilFunc]⟩
 .leaf) 114 ⟨.scalar,1,8,[.v .nilFunc]⟩
 (.node .leaf 115 ⟨.scalar,1,8,[.v .nilFunc]⟩
 .leaf)) 116 ⟨.scalar,1,8,[.v .nilFunc]⟩
 (.node (.node .leaf 117 ⟨.scalar,1,8,[.v .nilFunc]⟩
 .leaf) 119 ⟨.scalar,1,8,[.v .nilFunc]⟩
 (.node .leaf 120 ⟨.scalar,1,8,[.v .nilFunc]⟩
 .leaf)))) 121 ⟨.scalar,1,8,[.v .nilFunc]⟩
 (.node (.node (.node (.node .leaf 122 ⟨.slice 47,1,24,[.v (.slice none 0 0)]⟩
 .leaf) 123 ⟨.scalar,1,8,[.v .nilFunc]⟩
 (.node .leaf 124 ⟨.scalar,1,8,[.v .nilFunc]⟩
 .leaf)) 125 ⟨.scalar,1,8,[.v .nilFunc]⟩
 (.node (.node .leaf 126 ⟨.scalar,1,8,[.v .nilFunc]⟩
 .leaf) 127 ⟨.scalar,1,8,[.v .nilFunc]⟩
 (.node .leaf 128 ⟨.scalar,1,8,[.v .nilFunc]⟩
 .leaf))) 129 ⟨.scalar,1,8,[.v .nilFunc]⟩
 (.node (.node (.node .leaf 130 ⟨.scalar,1,8,[.v .nilFunc]⟩
 .leaf) 131 ⟨.scalar,1,8,[.v .nilFunc]⟩
 (.node .leaf 132 ⟨.scalar,1,8,[.v .nilFunc]⟩
 .leaf)) 133 ⟨.scalar,1,8,[.v .nilFunc]⟩
 (.node (.node .leaf 134 ⟨.scalar,1,8,[.v .nilFunc]⟩
 .leaf) 135 ⟨.scalar,1,8,[.v .nilFunc]⟩
 (.node .leaf 136 ⟨.struct [(0,29),(2,30)],3,24,[.v (.int .i64 0),.v (.int .i64 0),.v (.int .i64 0)]⟩
 .leaf))))))) 137 ⟨.struct [(0,29),(2,30)],3,24,[.v (.int .i64 0),.v (.int .i64 0),.v (.int .i64 0)]⟩
 (.node (.node (.node (.node (.node (.node (.node (.node .leaf 139 ⟨.ptr 142,1,8,[.v (.pointer none)]⟩
 .leaf) 140 ⟨.map 145 3,1,8,[.v (.map none)]⟩
 .leaf) 141 ⟨.struct [(0,25),(2,29),(4,140)],5,72,[.v (.slice none 0 0),.v (.slice none 0 0),.v (.int .i64 0),.v (.int .i64 0),.v (.map none)]⟩
 (.node .leaf 142 ⟨.struct [(0,25),(2,29),(4,140)],5,72,[.v (.slice none 0 0),.v (.slice none 0 0),.v (.int .i64 0),.v (.int .i64 0),.v (.map none)]⟩
 .leaf)) 143 ⟨.scalar,1,8,[.v .nilFunc]⟩
 (.node (.node .leaf 144 ⟨.struct [(0,3),(1,9)],2,24,[.v (.int .i64 0),.v (str [])]⟩
 .leaf) 145 ⟨.struct [(0,3),(1,9)],2,24,[.v (.int .i64 0),.v (str [])]⟩
 (.node .leaf 146 ⟨.scalar,1,8,[.v .nilFunc]⟩
 .leaf))) 147 ⟨.scalar,1,8,[.v .nilFunc]⟩
 (.node (.node (.node .leaf 148 ⟨.scalar,1,8,[.v .nilFunc]⟩
 .leaf) 149 ⟨.scalar,1,8,[.v .nilFunc]⟩
 (.node .leaf 150 ⟨.scalar,1,8,[.v .nilFunc]⟩
 .leaf)) 151 ⟨.scalar,1,8,[.v .nilFunc]⟩
 (.node (.node .leaf 152 ⟨.scalar,1,8,[.v .nilFunc]⟩
 .leaf) 153 ⟨.struct [(0,35),(6,3),(7,4)],8,88,[.v (.int .i64 0),.v (.int .i64 0),.v (.int .i64 0),.v (.int .i64 0),.v (str []),.v (.slice none 0 0),.v (.int .i64 0),.v (.bool false)]⟩
 (.node .leaf 154 ⟨.struct [(0,35),(6,3),(7,4)],8,88,[.v (.int .i64 0),.v (.int .i64 0),.v (.int .i64 0),.v (.int .i64 0),.v (str []),.v (.slice none 0 0),.v (.int .i64 0),.v (.bool false)]⟩
 .leaf)))) 155 ⟨.scalar,1,8,[.v .nilFunc]⟩
 (.node (.node (.node (.node .leaf 156 ⟨.scalar,1,8,[.v .nilFunc]⟩
 .leaf) 157 ⟨.scalar,1,8,[.v .nilFunc]⟩
 (.node .leaf 158 ⟨.scalar,1,8,[.v .nilFunc]⟩
 .leaf)) 159 ⟨.scalar,1,8,[.v .nilFunc]⟩
 (.node (.node .leaf 160 ⟨.scalar,1,8,[.v .nilFunc]⟩
 .leaf) 161 ⟨.scalar,1,8,[.v .nilFunc]⟩
 (.node .leaf 162 ⟨.scalar,1,8,[.v .nilFunc]⟩
 .leaf))) 163 ⟨.scalar,1,8,[.v .nilFunc]⟩
 (.node (.node (.node .leaf 164 ⟨.scalar,1,8,[.v .nilFunc]⟩
 .leaf) 166 ⟨.scalar,1,8,[.v .nilFunc]⟩
 (.node .leaf 167 ⟨.scalar,1,8,[.v .nilFunc]⟩
 .leaf)) 168 ⟨.scalar,1,8,[.v .nilFunc]⟩
 (.node (.node .leaf 169 ⟨.scalar,1,8,[.v .nilFunc]⟩
 .leaf) 170 ⟨.scalar,1,8,[.v .nilFunc]⟩
 (.node .leaf 171 ⟨.scalar,1,8,[.v .nilFunc]⟩
 .leaf))))) 172 ⟨.scalar,1,8,[.v .nilFunc]⟩
 (.node (.node (.node (.node (.node .leaf 173 ⟨.struct [(0,29),(2,30)],3,24,[.v (.int .i64 0),.v (.int .i64 0),.v (.int .i64 0)]⟩
 .leaf) 174 ⟨.struct [(0,29),(2,30)],3,24,[.v (.int .i64 0),.v (.int .i64 0),.v (.int .i64 0)]⟩
 (.node .leaf 176 ⟨.ptr 178,1,8,[.v (.pointer none)]⟩
 .leaf)) 177 ⟨.struct [(0,22),(1,29)],3,40,[.v (.slice none 0 0),.v (.int .i64 0),.v (.int .i64 0)]⟩
 (.node (.node .leaf 178 ⟨.struct [(0,22),(1,29)],3,40,[.v (.slice none 0 0),.v (.int .i64 0),.v (.int .i64 0)]⟩
 .leaf) 179 ⟨.scalar,1,8,[.v .nilFunc]⟩
 (.node .leaf 180 ⟨.scalar,1,8,[.v .nilFunc]⟩
 .leaf))) 181 ⟨.scalar,1,8,[.v .nilFunc]⟩
 (.node (.node (.node .leaf 182 ⟨.ptr 185,1,8,[.v (.pointer none)]⟩
 .leaf) 183 ⟨.scalar,1,8,[.v .nilFunc]⟩
 (.node .leaf 184 ⟨.struct [(0,182),(1,61),(2,61),(3,61),(4,37)],5,56,[.v (.pointer none),.v (.map none),.v (.map none),.v (.map none),.v (.slice none 0 0)]⟩
 .leaf)) 185 ⟨.struct [(0,182),(1,61),(2,61),(3,61),(4,37)],5,56,[.v (.pointer none),.v (.map none),.v (.map none),.v (.map none),.v (.slice none 0 0)]⟩
 (.node (.node .leaf 186 ⟨.scalar,1,8,[.v .nilFunc]⟩
 .leaf) 187 ⟨.scalar,1,8,[.v .nilFunc]⟩
 (.node .leaf 188 ⟨.scalar,1,8,[.v .nilFunc]⟩
 .leaf)))) 189 ⟨.scalar,1,8,[.v .nilFunc]⟩
 (.node (.node (.node (.node .leaf 190 ⟨.scalar,1,8,[.v .nilFunc]⟩
 .leaf) 191 ⟨.scalar,1,8,[.v .nilFunc]⟩
 (.node .leaf 192 ⟨.scalar,1,8,[.v .nilFunc]⟩
 .leaf)) 193 ⟨.scalar,1,8,[.v .nilFunc]⟩
 (.node (.node .leaf 194 ⟨.scalar,1,8,[.v .nilFunc]⟩
 .leaf) 195 ⟨.scalar,1,8,[.v .nilFunc]⟩
 (.node .leaf 196 ⟨.scalar,1,8,[.v .nilFunc]⟩
 .leaf))) 197 ⟨.scalar,1,8,[.v .nilFunc]⟩
 (.node (.node (.node .leaf 198 ⟨.scalar,1,8,[.v .nilFunc]⟩
 .leaf) 199 ⟨.struct [(0,25),(2,3),(3,37),(4,37),(5,37)],6,128,[.v (.slice none 0 0),.v (.slice none 0 0),.v (.int .i64 0),.v (.slice none 0 0),.v (.slice none 0 0),.v (.slice none 0 0)]⟩
 (.node .leaf 200 ⟨.struct [(0,25),(2,3),(3,37),(4,37),(5,37)],6,128,[.v (.slice none 0 0),.v (.slice none 0 0),.v (.int .i64 0),.v (.slice none 0 0),.v (.slice none 0 0),.v (.slice none 0 0)]⟩
 .leaf)) 201 ⟨.scalar,1,8,[.v .nilFunc]⟩
 (.node (.node .leaf 202 ⟨.scalar,1,8,[.v .nilFunc]⟩
 .leaf) 203 ⟨.scalar,1,8,[.v .nilFunc]⟩
 (.node .leaf 204 ⟨.scalar,1,8,[.v .nilFunc]⟩
 .leaf)))))) 205 ⟨.scalar,1,8,[.v .nilFunc]⟩
 (.node (.node (.node (.node (.node (.node .leaf 206 ⟨.struct [(0,4),(1,4),(2,4),(3,4),(4,4)],5,5,[.v (.bool false),.v (.bool false),.v (.bool false),.v (.bool false),.v (.bool false)]⟩
 .leaf) 207 ⟨.struct [(0,4),(1,4),(2,4),(3,4),(4,4)],5,5,[.v (.bool false),.v (.bool false),.v (.bool false),.v (.bool false),.v (.bool false)]⟩
 (.node .leaf 208 ⟨.scalar,1,8,[.v .nilFunc]⟩
 .leaf)) 209 ⟨.slice 4,1,24,[.v (.slice none 0 0)]⟩
 (.node (.node .leaf 210 ⟨.struct [(0,209),(1,209)],2,48,[.v (.slice none 0 0),.v (.slice none 0 0)]⟩
 .leaf) 211 ⟨.struct [(0,209),(1,209)],2,48,[.v (.slice none 0 0),.v (.slice none 0 0)]⟩
 (.node .leaf 213 ⟨.scalar,1,8,[.v .nilFunc]⟩
 .leaf))) 215 ⟨.scalar,1,8,[.v .nilFunc]⟩
 (.node (.node (.node .leaf 216 ⟨.scalar,1,8,[.v .nilFunc]⟩
 .leaf) 217 ⟨.scalar,1,8,[.v .nilFunc]⟩
 (.node .leaf 218 ⟨.scalar,1,8,[.v .nilFunc]⟩
 .leaf)) 219 ⟨.scalar,1,8,[.v .nilFunc]⟩
 (.node (.node .leaf 220 ⟨.scalar,1,8,[.v .nilFunc]⟩
 .leaf) 221 ⟨.scalar,1,8,[.v .nilFunc]⟩
 (.node .leaf 222 ⟨.scalar,1,8,[.v .nilFunc]⟩
 .leaf)))) 223 ⟨.scalar,1,8,[.v .nilFunc]⟩
 (.node (.node (.node (.node .leaf 224 ⟨.scalar,1,8,[.v .nilFunc]⟩
 .leaf) 225 ⟨.scalar,1,8,[.v .nilFunc]⟩
 (.node .leaf 226 ⟨.scalar,1,8,[.v .nilFunc]⟩
 .leaf)) 227 ⟨.scalar,1,8,[.v .nilFunc]⟩
 (.node (.node .leaf 228 ⟨.scalar,1,8,[.v .nilFunc]⟩
 .leaf) 229 ⟨.scalar,1,8,[.v .nilFunc]⟩
 (.node .leaf 230 ⟨.scalar,1,8,[.v .nilFunc]⟩
 .leaf))) 232 ⟨.scalar,1,8,[.v .nilFunc]⟩
 (.node (.node (.node .leaf 234 ⟨.scalar,1,8,[.v .nilFunc]⟩
 .leaf) 236 ⟨.scalar,1,8,[.v .nilFunc]⟩
 (.node .leaf 238 ⟨.scalar,1,8,[.v .nilFunc]⟩
 .leaf)) 239 ⟨.scalar,1,8,[.v .nilFunc]⟩
 (.node (.node .leaf 240 ⟨.scalar,1,8,[.v .nilFunc]⟩
 .leaf) 241 ⟨.scalar,1,8,[.v .nilFunc]⟩
 (.node .leaf 242 ⟨.scalar,1,8,[.v .nilFunc]⟩
 .leaf))))) 243 ⟨.scalar,1,8,[.v .nilFunc]⟩
 (.node (.node (.node (.node (.node .leaf 244 ⟨.scalar,1,8,[.v .nilFunc]⟩
 .leaf) 245 ⟨.scalar,1,8,[.v .nilFunc]⟩
 (.node .leaf 246 ⟨.scalar,1,8,[.v .nilFunc]⟩
 .leaf)) 247 ⟨.scalar,1,8,[.v .nilFunc]⟩
 (.node (.node .leaf 248 ⟨.scalar,1,8,[.v .nilFunc]⟩
 .leaf) 249 ⟨.scalar,1,8,[.v .nilFunc]⟩
 (.node .leaf 250 ⟨.scalar,1,8,[.v .nilFunc]⟩
 .leaf))) 251 ⟨.scalar,1,8,[.v .nilFunc]⟩
 (.node (.node (.node .leaf 252 ⟨.scalar,1,8,[.v .nilFunc]⟩
 .leaf) 253 ⟨.scalar,1,8,[.v .nilFunc]⟩
 (.node .leaf 254 ⟨.scalar,1,8,[.v .nilFunc]⟩
 .leaf)) 255 ⟨.scalar,1,8,[.v .nilFunc]⟩
 (.node (.node .leaf 256 ⟨.scalar,1,8,[.v .nilFunc]⟩
 .leaf) 257 ⟨.int .u64,1,8,[.v (.int .u64 0)]⟩
 (.node .leaf 258 ⟨.int .u32,1,4,[.v (.int .u32 0)]⟩
 .leaf)))) 260 ⟨.scalar,1,8,[.v .nilFunc]⟩
 (.node (.node (.node (.node .leaf 261 ⟨.scalar,1,8,[.v .nilFunc]⟩
 .leaf) 262 ⟨.struct [(0,17),(1,17),(2,17),(3,9)],4,40,[.v (.pointer none),.v (.pointer none),.v (.pointer none),.v (str [])]⟩
 (.node .leaf 263 ⟨.struct [(0,17),(1,17),(2,17),(3,9)],4,40,[.v (.pointer none),.v (.pointer none),.v (.pointer none),.v (str [])]⟩
 .leaf)) 264 ⟨.array 0 16,0,0,[]⟩
 (.node (.node .leaf 265 ⟨.struct [(0,264)],0,0,[]⟩
 .leaf) 266 ⟨.struct [(0,264)],0,0,[]⟩
 (.node .leaf 267 ⟨.scalar,1,8,[.v .nilFunc]⟩
 .leaf))) 268 ⟨.int .u8,1,1,[.v (.int .u8 0)]⟩
 (.node (.node (.node .leaf 269 ⟨.int .u8,1,1,[.v (.int .u8 0)]⟩
 .leaf) 270 ⟨.scalar,1,8,[.v .nilFunc]⟩
 (.node .leaf 271 ⟨.ptr 5,1,8,[.v (.pointer none)]⟩
 .leaf)) 272 ⟨.int .i32,1,4,[.v (.int .i32 0)]⟩
 (.node (.node .leaf 273 ⟨.int .i32,1,4,[.v (.int .i32 0)]⟩
 .leaf) 274 ⟨.struct [(0,12),(1,12),(2,258),(3,268),(4,5),(5,5),(6,269),(7,270),(8,271),(9,272),(10,273)],11,48,[.v (.int .u64 0),.v (.int .u64 0),.v (.int .u32 0),.v (.int .u8 0),.v (.int .u8 0),.v (.int .u8 0),.v (.int .u8 0),.v .nilFunc,.v (.pointer none),.v (.int .i32 0),.v (.int .i32 0)]⟩
 (.node .leaf 275 ⟨.struct [(0,12),(1,12),(2,258),(3,268),(4,5),(5,5),(6,269),(7,270),(8,271),(9,272),(10,273)],11,48,[.v (.int .u64 0),.v (.int .u64 0),.v (.int .u32 0),.v (.int .u8 0),.v (.int .u8 0),.v (.int .u8 0),.v (.int .u8 0),.v .nilFunc,.v (.pointer none),.v (.int .i32 0),.v (.int .i32 0)]⟩
 .leaf))))))))
theorem zam:zaB Tryz.prog tab:=zjc (by kernel_rfl)
theorem so{f:FuncId}{fn:Func}{c:Code}{args:List SV}{H:Heap}{R:Res->Heap->Prop}(hf:Tryz.prog.funcs[f]?=some fn)(h:TR Tryz.prog fn.ntmps c (zfh 0 args) H (RetK tab fn.results.toList H.length R))
  (hn:(fn.name == "runtime.NumGoroutine")=false:=by kernel_rfl)(hb:fn.body=some c:=by exact rfl)(ha:Nat.ble args.length fn.ntmps=true:=by exact rfl):Sound Tryz.prog f args H R:=Sound.of zam hf hn hb ha h
end Go.Proofs.YtcbhlhmebbkgnaaGreat
