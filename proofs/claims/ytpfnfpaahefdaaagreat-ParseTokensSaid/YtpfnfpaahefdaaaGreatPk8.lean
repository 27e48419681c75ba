import Derived.Lib.MinMax
import Derived.Lib.Bytealg
import Derived.Test.YtpfnfpaahefdaaaGreatProg
import Derived.Test.YtpfnfpaahefdaaaGreatPk7
set_option linter.all false
namespace Go.TL
open Go
def zaP(ops:Array Oper)(i:Nat):List Nat:=((ops[i]?).map fun o=>(o.after.toList.filter (Region.binds .any)).map (·.on)).getD []
def znl(ops:Array Oper)(l:List Nat):List Nat:=(List.range ops.size).filter fun i=>l.contains i || l.any fun j=>(zaP ops j).contains i
def cov(ops:Array Oper):Nat->List Nat->List Nat
 | 0,l=>l
 | f+1,l=>cov ops f (znl ops l)
def zmx(ops:Array Oper):Bool:=(List.range ops.size).all fun i=>(zaP ops i).all fun j=>Nat.blt j i
def zhG(ops:Array Oper)(k:Nat):Bool:=(List.range ops.size).all fun j=>Nat.blt j k || (List.range j).all fun i=>(cov ops 8 (zaP ops j)).contains i
def DC(ops:Array Oper)(L:Array Bool):Prop:=∀i,L[i]?=some true->∀j∈zaP ops i,L[j]?=some true
theorem gT{L:Array Bool}{i:Nat}:L.getD i false=true ↔ L[i]?=some true:=by
 rw[qa0];cases L[i]? <;> simp
theorem gF{L:Array Bool}{i:Nat}:L.getD i true=false ↔ L[i]?=some false:=by
 rw[qa0];cases L[i]? <;> simp
theorem zcc{ops:Array Oper}{L:Array Bool}(h:DC ops L):∀(f:Nat) (l:List Nat),(∀i∈l,L[i]?=some true)->∀i∈cov ops f l,L[i]?=some true
 | 0,l,hl=>hl
 | f+1,l,hl=>zcc h f _ fun i hi=>by
   simp only[znl,qbZ,qbX,List.any_eq_true,qbO]at hi
   rcases hi.2 with h1|⟨j,h1,h2⟩
   ·exact hl i h1
   ·exact h j (hl j h1) i h2
theorem zbw{ops:Array Oper}{L:Array Bool}{i:Nat}(hs:L.size=ops.size):i∈Region.ready .any ops L ↔ L[i]?=some false/\∀j∈zaP ops i,L[j]?=some true:=by
 rw[mem_ready,gF]
 constructor
 ·rintro⟨h1,o,ho,h2⟩
  refine⟨h1,fun j hj=>?_⟩
  simp only[zaP,ho,qaX,qbU,qa2,qbZ]at hj
  obtain⟨e,⟨he,hb⟩,rfl⟩:=hj
  exact gT.1 (h2 e (by simpa using he) hb)
 ·rintro⟨h1,h2⟩
  have hi:=(qaj.1 h1).1
  have ho:ops[i]?=some (ops[i]'(by omega)):=qak (by omega)
  refine⟨h1,_,ho,fun e he hb=>gT.2 (h2 _ ?_)⟩
  simp only[zaP,ho,qaX,qbU,qa2,qbZ]
  exact⟨e,⟨by simpa using he,hb⟩,rfl⟩
theorem least{p:Nat->Prop}[DecidablePred p]:∀n,¬p n->∃m,m≤n/\¬p m/\∀j,j<m->p j:=by
 intro n
 induction n using Nat.strongRecOn with
 | ind n ih=>
   intro h
   by_cases hx:∃j,j<n/\¬p j
   ·obtain⟨j,hj,hp⟩:=hx
    obtain⟨m,h1,h2,h3⟩:=ih j hj hp
    exact⟨m,by omega,h2,h3⟩
   ·exact⟨n,qae _,h,fun j hj=>qbC fun hp=>hx ⟨j,hj,hp⟩⟩
theorem zdw{ops:Array Oper}{L:Array Bool}(hs:L.size=ops.size)(hd:zmx ops=true){n:Nat}(hn:L[n]?=some false):∃m,m≤n/\m∈Region.ready .any ops L/\∀j,j<m->L[j]?=some true:=by
 obtain⟨m,h1,h2,h3⟩:=least (p:=fun j=>L[j]?=some true) n (by rw[hn];simp)
 have hnl:=(qaj.1 hn).1
 have hm:L[m]?=some false:=by
  have:L[m]?=some (L[m]'(by omega)):=qak (by omega)
  rw[this]at h2⊢
  cases h:L[m]'(by omega)
  ·rfl
  ·rw[h]at h2;exact absurd rfl h2
 refine⟨m,h1,(zbw hs).2 ⟨hm,fun j hj=>h3 j ?_⟩,h3⟩
 have:=qaw.1 hd m (by simp;omega)
 have:=qaw.1 this j hj
 simpa using this
theorem forced{ops:Array Oper}{L:Array Bool}{k j:Nat}(hs:L.size=ops.size)(hf:zhG ops k=true)(hdc:DC ops L)(hj:j∈Region.ready .any ops L)(hk:k≤j):∀i,i<j->L[i]?=some true:=by
 intro i hi
 obtain⟨h1,h2⟩:=(zbw hs).1 hj
 have hlt:=(qaj.1 h1).1
 have:=qaw.1 hf j (by simp;omega)
 simp only[qbX]at this
 rcases this with h|h
 ·simp at h;omega
 ·have:=qaw.1 h i (by simpa using hi)
  exact zcc hdc 8 _ h2 i (by simpa using this)
theorem zmu{ops:Array Oper}{L:Array Bool}{i:Nat}(hs:L.size=ops.size)(hdc:DC ops L)(hi:i∈Region.ready .any ops L):DC ops (L.setIfInBounds i true):=by
 have key:∀(j:Nat),L[j]?=some true->(L.setIfInBounds i true)[j]?=some true:=by
  intro j hj
  rw[qaE]
  have:=(qaj.1 hj).1
  split
  ·rw[if_pos (by omega)]
  ·exact hj
 intro x hx j hj
 rw[qaE]at hx
 split at hx
 ·rename_i e
  subst e
  exact key j (((zbw hs).1 hi).2 j hj)
 ·exact key j (hdc x hx j hj)
section rules
variable {P:Program}{all:Array Oper}
theorem zke{F:Fence}{N:Nat}{md:Region.Mode}{Q:Exit->Act->World->Prop}:∀(f:Nat) (L:Array Bool) (a:Act) (w:World),wpAnyIn F N P md all Q f L a w->wpAnyIn F N P md all Q (f+1) L a w
 | 0,L,a,w,h=>⟨fun _=>h.2,fun i hi=>by rw[h.1]at hi;cases hi⟩
 | f+1,L,a,w,h=>⟨h.1,fun i hi=>wpOpIn_mono (fun a w h2=>zke f _ a w h2) (h.2 i hi)⟩
theorem zia{F:Fence}{N:Nat}{md:Region.Mode}{Q:Exit->Act->World->Prop}(f:Nat)(L:Array Bool)(a:Act)(w:World)(h:wpAnyIn F N P md all Q f L a w):∀k,wpAnyIn F N P md all Q (k+f) L a w
 | 0=>by rw[qaM];exact h
 | k+1=>by rw[show k+1+f=(k+f)+1 from by omega];exact zke _ _ _ _ (zia f L a w h k)
theorem zpj{r:Option Nat}{C:World->Prop}{Q:Act->Prop}{Q':Exit->Act->World->Prop}{k n2:Nat}(hd:zmx all=true)(hf:zhG all k=true)(hp:∀(i:Nat) o,i<k->all[i]?=some o->Op.plain o.op=true)
  (hQ:∀(L:Array Bool) a w,L.size=all.size->(∀(i:Nat),i<k->i<all.size->L[i]?=some true)->(∀(i:Nat),k≤i->i<all.size->L[i]?=some false)->C w->Q a->wpAnyIn (Fr r) 0 P .any all Q' n2 L a w):
  ∀(u:Nat) (L M:Array Bool) (a:Act) (w:World),L.size=all.size->M.size=all.size->(∀(i:Nat),i<k->M[i]?=L[i]?)->(∀(i:Nat),k≤i->i<all.size->M[i]?=some true)->(∀(i:Nat),k≤i->i<all.size->L[i]?=some false)->
   DC all L->C w->wpAnyQIn (Fr r) 0 P .any all C Q u M a->wpAnyIn (Fr r) 0 P .any all Q' (u+n2) L a w:=by
 intro u
 have full:∀(L M:Array Bool),L.size=all.size->M.size=all.size->(∀(i:Nat),i<k->M[i]?=L[i]?)->(∀(i:Nat),k≤i->i<all.size->M[i]?=some true)->DC all L->Region.ready .any all M=[]->∀(i:Nat),i<k->i<all.size->L[i]?=some true:=by
  intro L M hL hM h1 h2 hdc hr i hi hia
  refine qbC fun hne=>?_
  have hMi:M[i]?=some false:=by
   rw[h1 i hi]
   have:L[i]?=some (L[i]'(by omega)):=qak (by omega)
   rw[this]at hne⊢
   cases h:L[i]'(by omega)
   ·rfl
   ·rw[h]at hne;exact absurd rfl hne
  obtain⟨m,_,hm,_⟩:=zdw hM hd hMi
  rw[hr]at hm;cases hm
 induction u with
 | zero=>
   intro L M a w hL hM h1 h2 h3 hdc hC h
   rw[qaM]
   exact hQ L a w hL (full L M hL hM h1 h2 hdc h.1) h3 hC h.2
 | succ u ih=>
   intro L M a w hL hM h1 h2 h3 hdc hC h
   by_cases hr:Region.ready .any all M=[]
   ·exact zia _ _ _ _ (hQ L a w hL (full L M hL hM h1 h2 hdc hr) h3 hC (h.1 hr)) (u+1)
   ·
    obtain⟨x,hx⟩:=List.exists_mem_of_ne_nil _ hr
    have hx1:=((zbw hM).1 hx).1
    have hxl:=(qaj.1 hx1).1
    have hxk:x<k:=qbT fun hle=>by rw[h2 x hle (by omega)]at hx1;cases hx1
    have hLx:L[x]?=some false:=by rw[<-h1 x hxk];exact hx1
    rw[show u+1+n2=(u+n2)+1 from by omega]
    refine⟨fun h0=>?_,fun i hi=>?_⟩
    ·obtain⟨m,_,hm,_⟩:=zdw hL hd hLx
     rw[h0]at hm;cases hm
    ·have hik:i<k:=qbT fun hle=>by
      have:=forced hL hf hdc hi hle x (by omega)
      rw[this]at hLx;cases hLx
     obtain⟨g1,g2⟩:=(zbw hL).1 hi
     have hiM:i∈Region.ready .any all M:=by
      refine(zbw hM).2 ⟨by rw[h1 i hik];exact g1,fun j hj=>?_⟩
      have hjl:=(qaj.1 (g2 j hj)).1
      by_cases hjk:j<k
      ·rw[h1 j hjk];exact g2 j hj
      ·exact h2 j (by omega) (by omega)
     have hnext:∀a' w',C w'->wpAnyQIn (Fr r) 0 P .any all C Q u (M.setIfInBounds i true) a'->wpAnyIn (Fr r) 0 P .any all Q' (u+n2) (L.setIfInBounds i true) a' w':=by
      intro a' w' hC' hk'
      refine ih (L.setIfInBounds i true) (M.setIfInBounds i true) a' w' (by simpa using hL) (by simpa using hM) ?_ ?_ ?_ (zmu hL hdc hi) hC' hk'
      ·intro j hj
       rw[qaE,qaE,h1 j hj,hL,hM]
      ·intro j hj hja
       rw[qaE,if_neg (by omega)]
       exact h2 j hj hja
      ·intro j hj hja
       rw[qaE,if_neg (by omega)]
       exact h3 j hj hja
     have h4:=h.2 i hiM
     unfold qOpIn at h4
     unfold wpOpIn
     cases ho:all[i]? with
     | none=>simp only[ho]at h4⊢;exact hnext _ _ hC h4
     | some o=>
       simp only[ho]at h4⊢
       obtain⟨_,h4⟩:=h4
       split
       ·rename_i hwt
        rw[if_pos hwt]at h4
        exact zgm (hp i o hik ho) hC (fun a' w' hw' hk=>hnext a' w' hw' hk) h4
       ·rename_i hwt
        rw[if_neg hwt]at h4
        exact⟨fun _ _=>trivial,hnext _ _ hC h4⟩
theorem zl8{r:Option Nat}{Q':Exit->Act->World->Prop}{k:Nat}(hd:zmx all=true)(hf:zhG all k=true):∀(l:List Oper) (p:Nat) (L:Array Bool) (a:Act) (w:World),k≤p->(∀j,l[j]?=all[p+j]?)->L.size=all.size->
   (∀(i:Nat),i<p->i<all.size->L[i]?=some true)->(∀(i:Nat),p≤i->i<all.size->L[i]?=some false)->wpListIn (Fr r) 0 P all Q' l a w->wpAnyIn (Fr r) 0 P .any all Q' l.length L a w
 | [],p,L,a,w,hk,hl,hL,h1,h2,h=>by
   have hsz:all.size≤p:=qbm fun hlt=>by
    have:=hl 0
    rw[qcj,qak hlt]at this
    cases this
   refine⟨?_,h⟩
   refine qby.2 fun i hi=>?_
   have:=((zbw hL).1 hi).1
   have hlt:=(qaj.1 this).1
   rw[h1 i (by omega) (by omega)]at this
   cases this
 | o::l,p,L,a,w,hk,hl,hL,h1,h2,h=>by
   have hpo:all[p]?=some o:=by simpa using (hl 0).symm
   have hpl:=(qaj.1 hpo).1
   have hLp:=h2 p (qae _) hpl
   have hdc:DC all L:=by
    intro i hi j hj
    have hil:=(qaj.1 hi).1
    have hip:i<p:=qbT fun hle=>by rw[h2 i hle (by omega)]at hi;cases hi
    have:=qaw.1 hd i (by simp;omega)
    have:=qaw.1 this j hj
    have hji:j<i:=by simpa using this
    exact h1 j (by omega) (by omega)
   refine⟨fun h0=>?_,fun i hi=>?_⟩
   ·obtain⟨m,_,hm,_⟩:=zdw hL hd hLp
    rw[h0]at hm;cases hm
   ·have hi1:=((zbw hL).1 hi).1
    have hil:=(qaj.1 hi1).1
    have hip:p≤i:=qbm fun hlt=>by rw[h1 i hlt (by omega)]at hi1;cases hi1
    have hipe:i=p:=by
     refine qbC fun hne=>?_
     have:=forced hL hf hdc hi (by omega) p (by omega)
     rw[this]at hLp;cases hLp
    subst hipe
    have hnext:∀a' w',wpListIn (Fr r) 0 P all Q' l a' w'->wpAnyIn (Fr r) 0 P .any all Q' l.length (L.setIfInBounds i true) a' w':=by
     intro a' w' h'
     refine zl8 hd hf l (i+1) (L.setIfInBounds i true) a' w' (by omega) (fun j=>?_) (by simpa using hL) (fun j hj hja=>?_) (fun j hj hja=>?_) h'
     ·have:=hl (j+1)
      simp only[qaR]at this
      rw[this];congr 1;omega
     ·rw[qaE]
      split
      ·first|rfl|rw[if_pos (by omega)]
      ·exact h1 j (by omega) hja
     ·rw[qaE,if_neg (by omega)]
      exact h2 j (by omega) hja
    unfold wpListIn at h
    unfold wpOpIn
    simp only[hpo]
    split
    ·rename_i hw
     rw[if_pos hw]at h
     exact Oper.wpIn_mono (fun a w h=>hnext a w h) h
    ·rename_i hw
     rw[if_neg hw]at h
     exact⟨h.1,hnext _ _ h.2⟩
theorem zkc{F:Fence}{N:Nat}{C:World->Prop}{md:Region.Mode}{Q:Act->Prop}(hs:Region.noSelect all=true):∀(l:List Oper) (k:Nat) (listed:Array Bool) (a:Act),(∀j,j<l.length->l[j]?=all[k+j]?)->
  Region.lexFrom md all l.length k listed=true->wpQuietIn F N P all C Q l a->wpAnyQIn F N P md all C Q l.length listed a
 | [],_,_,_,_,hB,h=>⟨by simpa [Region.lexFrom]using hB,h⟩
 | o::l,k,listed,a,hl,hB,h=>by
   have h0:all[k]?=some o:=by simpa using (hl 0 (by simp)).symm
   simp only[qac,Region.lexFrom,qat]at hB
   obtain⟨⟨hr,hf⟩,hB'⟩:=hB
   have hst:qOpIn F N P all C k (wpQuietIn F N P all C Q l) a:=by unfold qOpIn;simp only[h0];exact h
   obtain⟨v,hy,hK⟩:=yieldsQuiet_of_qOpIn h0 hst
   exact wpAnyQIn_first h0 (Region.noSelect_spec hs) l.length listed a (Region.free_spec h0 hf) (by simpa using hr) hy
    (zkc hs l (k+1) _ _ (fun j hj=>by have:=hl (j+1) (by simpa using hj);simpa [qaY,qcf 1 j]using this) hB' hK)
def zn9(ops:Array Oper)(k:Nat):Bool:=
 Region.noSelect ops && (Nat.ble k ops.size && (zmx ops && (zhG ops k && Region.lexFrom .any ops k 0 (Array.replicate k false++Array.replicate (ops.size-k) true))))
def za2(P:Program)(n:Nat)(all:Array Oper)(l2:List Oper)(H:Heap)(K:TK):TK
 | .normal,env,_=>TO false P n all l2 env H K
 | _,_,_=>False
theorem TR.zna{n:Nat}{env:Env}{H:Heap}{K:TK}(k:Nat){id:Nat}{l:List Oper}(hm:P.follows .mixedOrders=true)(hB:zn9 l.toArray k=true)(hp:(l.take k).all (fun o=>Op.plain o.op)=true)
  (h:TO true P n l.toArray (l.take k) env H (za2 P n l.toArray (l.drop k) H K)):TR P n (.region id l.toArray true) env H K:=by
 simp only[zn9,qat]at hB
 obtain⟨hB1,hB2,hB3,hB4,hB5⟩:=hB
 have hk:k≤l.length:=by simpa using qag hB2
 intro φ m a h1 h2 h3 h4
 have hq:=h φ m a h1 h2 h3 h4
 simp only at hq
 refine zbz (wpIn_region_any hm ?_)
 have hlt:(l.take k).length=k:=by simp;omega
 have:=zpj (P:=P) (all:=l.toArray) (r:=φ.r) (C:=Keeps m.w) (Q:=fun a'=>∀w',Keeps m.w w'->wpListIn (Fr φ.r) 0 P l.toArray (Post φ m n K) (l.drop k) a' w')
  (Q':=Post φ m n K) (k:=k) (n2:=(l.drop k).length) hB3 hB4 (fun i o hi ho=>qaw.1 hp o (qaB (i:=i) (by rw[qaN,if_pos hi];simpa using ho)))
  (fun L a' w' hL g1 g2 hC hQ=>zl8 hB3 hB4 (l.drop k) k L a' w' (qae _) (fun j=>by simp) hL g1 g2 (hQ w' hC))
  k (Array.replicate l.toArray.size false) (Array.replicate k false++Array.replicate (l.toArray.size-k) true) a { m.w with drawn:=m.w.drawn+1 } (by simp) (by simp;omega)
  (fun i hi=>by
    rw[qaT (by simpa using hi),qaP,qaP,if_pos hi,if_pos (by simp;omega)])
  (fun i hi hia=>by
    rw[qa1 (by simpa using hi),qaP,if_pos (by simp at hia⊢;omega)])
  (fun i hi hia=>by rw[qaP,if_pos hia])
  (fun i hi=>by rw[qaP]at hi;split at hi <;> cases hi)
  ⟨rfl,rfl,rfl,qae _,fun _ _=>rfl⟩ ?_
 ·have e:k+(l.drop k).length=l.toArray.size:=by simp;omega
  rw[e]at this
  exact this
 ·have hx:=zkc (F:=Fr φ.r) (N:=0) (P:=P) (C:=Keeps m.w) (md:=.any) (Q:=fun a'=>∀w',Keeps m.w w'->wpListIn (Fr φ.r) 0 P l.toArray (Post φ m n K) (l.drop k) a' w') hB1 (l.take k) 0
   (Array.replicate k false++Array.replicate (l.toArray.size-k) true) a (fun j hj=>by rw[qaN,if_pos (by omega)];simp) (by rw[hlt];exact hB5) (zfJ _ a (zc6 ?_ _ a hq))
  ·rw[hlt]at hx;exact hx
  ·rintro a' ⟨env',g1,g2,g3⟩ w' hw'
   obtain⟨s,hm'⟩:=zcN h2 hw'
   have:=g3 φ ⟨m.A,m.β,m.H,w'⟩ a' h1 hm' (g1.step h2 s) (g2.step h2 s)
   exact TO.ze6 s this
theorem za2.go{n:Nat}{l2:List Oper}{env:Env}{H:Heap}{K:TK}(h:TO false P n all l2 env H K):za2 P n all l2 H K .normal env H:=h
theorem TR.zos{n:Nat}{env:Env}{H:Heap}{K:TK}{id:Nat}{l:List Oper}(hm:P.follows .mixedOrders=true)(hB:zn9 l.toArray (l.length-1)=true)(hp:(l.take (l.length-1)).all (fun o=>Op.plain o.op)=true)
  (h:TO true P n l.toArray (l.take (l.length-1)) env H (za2 P n l.toArray (l.drop (l.length-1)) H K)):TR P n (.region id l.toArray true) env H K:=TR.zna _ hm hB hp h
theorem TR.zot{n:Nat}{env:Env}{H:Heap}{K:TK}{id:Nat}{l:List Oper}(hm:P.follows .mixedOrders=true)(hB:zn9 l.toArray (l.length-2)=true)(hp:(l.take (l.length-2)).all (fun o=>Op.plain o.op)=true)
  (h:TO true P n l.toArray (l.take (l.length-2)) env H (za2 P n l.toArray (l.drop (l.length-2)) H K)):TR P n (.region id l.toArray true) env H K:=TR.zna _ hm hB hp h
end rules
section rules
variable {P:Program}{n:Nat}{K:TK}
theorem zac.zmW{env:Env}{H:Heap}{len k:Nat}{I:Nat->Prop}{E:Nat->Env}{G:Nat->Heap}(j:Nat)(hk:k<len)(hI:I (k+1))(h1:Nat.ble (G k).length j=true)(h2:Nat.ble j H.length=true)
  (hH:H.take j=G (k+1))(h3:zad j (G (k+1))=true)(h4:(E (k+1)).under j=true)
  (h0:env.sub (E (k+1)):=by repeat' (first|exact trivial|refine qai rfl ?_|fail)):
  zac (fun k=>k≤len/\I k) (fun k=>len-k) E G k K .normal env H:=
 zac.cut j (k+1) ⟨hk,hI⟩ (by omega) h0 h1 h2 hH h3 h4
end rules
section rules
variable {P:Program}{n:Nat}{env:Env}{H:Heap}{K:TK}{all:Array Oper}{rest:List Oper}{q:Bool}
variable {d:Nat}{ty:TypeId}{pos:String}{aft:Array Edge}
theorem TO.maxi{x y:Operand}{a b:Int}{ts:Array TypeId}(hd:Nat.ble (d+1) n=true)(hx:env.val x=some (.t (.v (.int .i64 a))))(hy:env.val y=some (.t (.v (.int .i64 b))))
  (k:TO q P n all rest ((d,.t (.v (.int .i64 (max a b))))::env) H K):TO q P n all (⟨some d,.call { callee:=.builtin .max,args:=#[x,y],argTypes:=ts },ty,pos,aft,none⟩::rest) env H K:=
 TO.op hd (fun m ac h1 h2 h3=>⟨.int .i64 (max a b),fun w' hw'=>by
  simp[execOp,resolve,invoke,builtin,(h3.val hx).v_eq,(h3.val hy).v_eq,Go.Lib.run_max_ints],.t _ _ (.v _)⟩) k
theorem TO.zfw{f:FuncId}{fn:Func}{x y:Operand}{ts:Array TypeId}{l:Str}{c:Int}(hd:Nat.ble (d+1) n=true)(hf:P.funcs[f]?=some fn)(hname:(fn.name == "runtime.NumGoroutine")=false)(hb:fn.body.isNone=true)(hn:Extern.findNext fn=none)
  (he:Extern.find fn=some Extern.BytealgIndexByte.indexByte)(hx:env.val x=some (.t (.v (str l))))(hy:env.val y=some (.t (.v (.int .u8 c))))(k:TO q P n all rest ((d,.t (.v (.int .i64 (Lib.indexByte l c.toNat.toUInt8))))::env) H K):
  TO q P n all (⟨some d,.call { callee:=.value (.func f),args:=#[x,y],argTypes:=ts },ty,pos,aft,none⟩::rest) env H K:=
 TO.op hd (fun m ac h1 h2 h3=>⟨.int .i64 (Lib.indexByte l c.toNat.toUInt8),fun w' hw'=>by
  have:=run_callFunc_extern hf hname hb hn he #[ac.eval x,ac.eval y] w'
  rw[(h3.val hx).v_eq,(h3.val hy).v_eq,Lib.run_indexByteString]at this
  simp only[Result.andThen]at this
  simp[execOp,resolve,eval_func,Deferred.ofValue,invoke,(h3.val hx).v_eq,(h3.val hy).v_eq,this],.t _ _ (.v _)⟩) k
end rules
section rules
variable {P:Program}{n:Nat}{env:Env}{H:Heap}{K:TK}{all:Array Oper}{rest:List Oper}
variable {d:Nat}{ty:TypeId}{pos:String}{aft:Array Edge}
theorem TO.znR(N:Nat){Hc Hc1 H':Heap}{cargs:List SV}{v:SV}{f:Operand}{fid:FuncId}{caps:List SV}{args:Array Operand}{ts:Array TypeId}{vs:List SV}
  (hs:Sound P fid cargs Hc fun r H'=>r= .ret v/\H'=Hc1)(hd:Nat.ble (d+1) n=true)(hf:env.val f=some (.fn fid caps))(ha:env.vals args.toList=some vs)(hl:Les (vs++caps) cargs)
  (hN:Nat.ble N H.length=true)(hc:H.take N=Hc)(hu:unders N cargs=true)(hb:zad N Hc=true)(hv:v.under N=true)(h1:Hc1.length=N)(h2:zad N Hc1=true)
  (hH:zbF (Hc1++H.drop N)=some H')(k:TO false P n all rest ((d,v)::env) H' K):
  TO false P n all (⟨some d,.call { callee:=.value f,args:=args,argTypes:=ts },ty,pos,aft,none⟩::rest) env H K:=by
 refine TO.zpo N hs ⟨fun u G hr=>?_,fun u G hr=>?_⟩ hd hf ha hl hu (qag hN) hc hb (fun u G hr=>?_) (fun u G hr=>?_)
 ·obtain⟨h,rfl⟩:=hr;cases h;exact⟨hv,h1,h2⟩
 ·cases hr.1
 ·obtain⟨h,rfl⟩:=hr;cases h;rw[<-zbf hH];exact k
 ·cases hr.1
end rules
end Go.TL
namespace Go.Proofs.YtpfnfpaahefdaaaGreat
open Go Go.TL
def tab:Tab:=(.node (.node (.node (.node (.node (.node (.node (.node .leaf 1 ⟨.scalar,1,8,[.v .nilFunc]⟩
 .leaf) 2 ⟨.int .i64,1,8,[.v (.int .i64 0)]⟩
 .leaf) 3 ⟨.int .i64,1,8,[.v (.int .i64 0)]⟩
 (.node (.node .leaf 4 ⟨.bool,1,1,[.v (.bool false)]⟩
 .leaf) 5 ⟨.int .u8,1,1,[.v (.int .u8 0)]⟩
 .leaf)) 6 ⟨.int .u8,1,1,[.v (.int .u8 0)]⟩
 (.node (.node (.node .leaf 7 ⟨.struct [(0,2),(1,3),(2,4),(3,6)],4,24,[.v (.int .i64 0),.v (.int .i64 0),.v (.bool false),.v (.int .u8 0)]⟩
 .leaf) 8 ⟨.struct [(0,2),(1,3),(2,4),(3,6)],4,24,[.v (.int .i64 0),.v (.int .i64 0),.v (.bool false),.v (.int .u8 0)]⟩
 .leaf) 9 ⟨.str,1,16,[.v (str [])]⟩
 (.node (.node .leaf 10 ⟨.str,1,16,[.v (str [])]⟩
 .leaf) 11 ⟨.str,1,16,[.v (str [])]⟩
 .leaf))) 12 ⟨.int .u64,1,8,[.v (.int .u64 0)]⟩
 (.node (.node (.node (.node .leaf 13 ⟨.struct [(0,9),(1,12)],2,24,[.v (str []),.v (.int .u64 0)]⟩
 .leaf) 14 ⟨.struct [(0,9),(1,12)],2,24,[.v (str []),.v (.int .u64 0)]⟩
 .leaf) 15 ⟨.ptr 201,1,8,[.v (.pointer none)]⟩
 (.node (.node .leaf 16 ⟨.ptr 204,1,8,[.v (.pointer none)]⟩
 .leaf) 17 ⟨.ptr 212,1,8,[.v (.pointer none)]⟩
 .leaf)) 18 ⟨.struct [(0,17)],1,8,[.v (.pointer none)]⟩
 (.node (.node (.node .leaf 19 ⟨.struct [(0,17)],1,8,[.v (.pointer none)]⟩
 .leaf) 20 ⟨.iface,1,16,[.v .nilIface]⟩
 .leaf) 21 ⟨.int .i32,1,4,[.v (.int .i32 0)]⟩
 (.node (.node .leaf 22 ⟨.scalar,1,8,[.v .nilFunc]⟩
 .leaf) 23 ⟨.scalar,1,8,[.v .nilFunc]⟩
 .leaf)))) 24 ⟨.slice 68,1,24,[.v (.slice none 0 0)]⟩
 (.node (.node (.node (.node (.node .leaf 25 ⟨.slice 49,1,24,[.v (.slice none 0 0)]⟩
 .leaf) 26 ⟨.struct [(0,24),(1,25)],2,48,[.v (.slice none 0 0),.v (.slice none 0 0)]⟩
 .leaf) 27 ⟨.struct [(0,24),(1,25)],2,48,[.v (.slice none 0 0),.v (.slice none 0 0)]⟩
 (.node (.node .leaf 28 ⟨.int .i64,1,8,[.v (.int .i64 0)]⟩
 .leaf) 30 ⟨.scalar,1,8,[.v .nilFunc]⟩
 .leaf)) 31 ⟨.struct [(0,3),(1,3)],2,16,[.v (.int .i64 0),.v (.int .i64 0)]⟩
 (.node (.node (.node .leaf 32 ⟨.struct [(0,3),(1,3)],2,16,[.v (.int .i64 0),.v (.int .i64 0)]⟩
 .leaf) 34 ⟨.scalar,1,8,[.v .nilFunc]⟩
 .leaf) 35 ⟨.slice 75,1,24,[.v (.slice none 0 0)]⟩
 (.node (.node .leaf 37 ⟨.scalar,1,8,[.v .nilFunc]⟩
 .leaf) 38 ⟨.scalar,1,8,[.v .nilFunc]⟩
 .leaf))) 39 ⟨.scalar,1,8,[.v .nilFunc]⟩
 (.node (.node (.node (.node .leaf 40 ⟨.slice 42,1,24,[.v (.slice none 0 0)]⟩
 .leaf) 41 ⟨.struct [(0,3),(1,3),(2,3),(3,3),(4,9),(5,40)],6,72,[.v (.int .i64 0),.v (.int .i64 0),.v (.int .i64 0),.v (.int .i64 0),.v (str []),.v (.slice none 0 0)]⟩
 .leaf) 42 ⟨.struct [(0,3),(1,3),(2,3),(3,3),(4,9),(5,40)],6,72,[.v (.int .i64 0),.v (.int .i64 0),.v (.int .i64 0),.v (.int .i64 0),.v (str []),.v (.slice none 0 0)]⟩
 (.node (.node .leaf 44 ⟨.scalar,1,8,[.v .nilFunc]⟩
 .leaf) 45 ⟨.slice 120,1,24,[.v (.slice none 0 0)]⟩
 .leaf)) 46 ⟨.slice 53,1,24,[.v (.slice none 0 0)]⟩
 (.node (.node (.node .leaf 47 ⟨.slice 110,1,24,[.v (.slice none 0 0)]⟩
 .leaf) 48 ⟨.struct [(0,9),(1,45),(2,45),(3,45),(4,46),(5,47),(6,40),(7,40)],8,184,[.v (str []),.v (.slice none 0 0),.v (.slice none 0 0),.v (.slice none 0 0),.v (.slice none 0 0),.v (.slice none 0 0),.v (.slice none 0 0),.v (.slice none 0 0)]⟩
 .leaf) 49 ⟨.struct [(0,9),(1,45),(2,45),(3,45),(4,46),(5,47),(6,40),(7,40)],8,184,[.v (str []),.v (.slice none 0 0),.v (.slice none 0 0),.v (.slice none 0 0),.v (.slice none 0 0),.v (.slice none 0 0),.v (.slice none 0 0),.v (.slice none 0 0)]⟩
 (.node (.node .leaf 50 ⟨.scalar,1,8,[.v .nilFunc]⟩
 .leaf) 51 ⟨.slice 9,1,24,[.v (.slice none 0 0)]⟩
 .leaf))))) 52 ⟨.struct [(0,51),(1,42)],7,96,[.v (.slice none 0 0),.v (.int .i64 0),.v (.int .i64 0),.v (.int .i64 0),.v (.int .i64 0),.v (str []),.v (.slice none 0 0)]⟩
 (.node (.node (.node (.node (.node (.node .leaf 53 ⟨.struct [(0,51),(1,42)],7,96,[.v (.slice none 0 0),.v (.int .i64 0),.v (.int .i64 0),.v (.int .i64 0),.v (.int .i64 0),.v (str []),.v (.slice none 0 0)]⟩
 .leaf) 54 ⟨.ptr 96,1,8,[.v (.pointer none)]⟩
 .leaf) 56 ⟨.scalar,1,8,[.v .nilFunc]⟩
 (.node (.node .leaf 58 ⟨.scalar,1,8,[.v .nilFunc]⟩
 .leaf) 59 ⟨.scalar,1,8,[.v .nilFunc]⟩
 .leaf)) 60 ⟨.struct [(0,32),(2,28)],3,24,[.v (.int .i64 0),.v (.int .i64 0),.v (.int .i64 0)]⟩
 (.node (.node (.node .leaf 61 ⟨.struct [(0,32),(2,28)],3,24,[.v (.int .i64 0),.v (.int .i64 0),.v (.int .i64 0)]⟩
 .leaf) 63 ⟨.ptr 65,1,8,[.v (.pointer none)]⟩
 .leaf) 64 ⟨.struct [(0,24),(1,32)],3,40,[.v (.slice none 0 0),.v (.int .i64 0),.v (.int .i64 0)]⟩
 (.node (.node .leaf 65 ⟨.struct [(0,24),(1,32)],3,40,[.v (.slice none 0 0),.v (.int .i64 0),.v (.int .i64 0)]⟩
 .leaf) 66 ⟨.scalar,1,8,[.v .nilFunc]⟩
 .leaf))) 67 ⟨.struct [(0,9),(1,51)],2,40,[.v (str []),.v (.slice none 0 0)]⟩
 (.node (.node (.node (.node .leaf 68 ⟨.struct [(0,9),(1,51)],2,40,[.v (str []),.v (.slice none 0 0)]⟩
 .leaf) 69 ⟨.scalar,1,8,[.v .nilFunc]⟩
 .leaf) 70 ⟨.scalar,1,8,[.v .nilFunc]⟩
 (.node (.node .leaf 71 ⟨.ptr 73,1,8,[.v (.pointer none)]⟩
 .leaf) 72 ⟨.struct [(0,9),(1,3)],2,24,[.v (str []),.v (.int .i64 0)]⟩
 .leaf)) 73 ⟨.struct [(0,9),(1,3)],2,24,[.v (str []),.v (.int .i64 0)]⟩
 (.node (.node (.node .leaf 74 ⟨.struct [(0,3),(1,9),(2,3)],3,32,[.v (.int .i64 0),.v (str []),.v (.int .i64 0)]⟩
 .leaf) 75 ⟨.struct [(0,3),(1,9),(2,3)],3,32,[.v (.int .i64 0),.v (str []),.v (.int .i64 0)]⟩
 .leaf) 77 ⟨.scalar,1,8,[.v .nilFunc]⟩
 (.node (.node .leaf 78 ⟨.ptr 81,1,8,[.v (.pointer none)]⟩
 .leaf) 79 ⟨.slice 5,1,24,[.v (.slice none 0 0)]⟩
 .leaf)))) 80 ⟨.struct [(0,78),(1,79)],2,32,[.v (.pointer none),.v (.slice none 0 0)]⟩
 (.node (.node (.node (.node (.node .leaf 81 ⟨.struct [(0,78),(1,79)],2,32,[.v (.pointer none),.v (.slice none 0 0)]⟩
 .leaf) 82 ⟨.iface,1,16,[.v .nilIface]⟩
 .leaf) 83 ⟨.iface,1,16,[.v .nilIface]⟩
 (.node (.node .leaf 84 ⟨.scalar,1,8,[.v .nilFunc]⟩
 .leaf) 86 ⟨.scalar,1,8,[.v .nilFunc]⟩
 .leaf)) 87 ⟨.scalar,1,8,[.v .nilFunc]⟩
 (.node (.node (.node .leaf 88 ⟨.scalar,1,8,[.v .nilFunc]⟩
 .leaf) 89 ⟨.scalar,1,8,[.v .nilFunc]⟩
 .leaf) 90 ⟨.scalar,1,8,[.v .nilFunc]⟩
 (.node (.node .leaf 91 ⟨.scalar,1,8,[.v .nilFunc]⟩
 .leaf) 92 ⟨.scalar,1,8,[.v .nilFunc]⟩
 .leaf))) 93 ⟨.scalar,1,8,[.v .nilFunc]⟩
 (.node (.node (.node (.node .leaf 94 ⟨.scalar,1,8,[.v .nilFunc]⟩
 .leaf) 95 ⟨.struct [(0,35),(1,3),(2,3),(3,24)],4,64,[.v (.slice none 0 0),.v (.int .i64 0),.v (.int .i64 0),.v (.slice none 0 0)]⟩
 .leaf) 96 ⟨.struct [(0,35),(1,3),(2,3),(3,24)],4,64,[.v (.slice none 0 0),.v (.int .i64 0),.v (.int .i64 0),.v (.slice none 0 0)]⟩
 (.node (.node .leaf 97 ⟨.struct [(0,3),(1,28)],2,16,[.v (.int .i64 0),.v (.int .i64 0)]⟩
 .leaf) 98 ⟨.struct [(0,3),(1,28)],2,16,[.v (.int .i64 0),.v (.int .i64 0)]⟩
 .leaf)) 100 ⟨.scalar,1,8,[.v .nilFunc]⟩
 (.node (.node (.node .leaf 101 ⟨.scalar,1,8,[.v .nilFunc]⟩
 .leaf) 102 ⟨.scalar,1,8,[.v .nilFunc]⟩
 .leaf) 103 ⟨.scalar,1,8,[.v .nilFunc]⟩
 (.node (.node .leaf 104 ⟨.scalar,1,8,[.v .nilFunc]⟩
 .leaf) 105 ⟨.scalar,1,8,[.v .nilFunc]⟩
 .leaf)))))) 106 ⟨.scalar,1,8,[.v .nilFunc]⟩
 (.node (.node (.node (.node (.node (.node (.node .leaf 107 ⟨.scalar,1,8,[.v .nilFunc]⟩
 .leaf) 108 ⟨.slice 124,1,24,[.v (.slice none 0 0)]⟩
 .leaf) 109 ⟨.struct [(0,108)],1,24,[.v (.slice none 0 0)]⟩
 (.node (.node .leaf 110 ⟨.struct [(0,108)],1,24,[.v (.slice none 0 0)]⟩
 .leaf) 111 ⟨.scalar,1,8,[.v .nilFunc]⟩
 .leaf)) 112 ⟨.scalar,1,8,[.v .nilFunc]⟩
 (.node (.node (.node .leaf 113 ⟨.scalar,1,8,[.v .nilFunc]⟩
 .leaf) 114 ⟨.scalar,1,8,[.v .nilFunc]⟩
 .leaf) 115 ⟨.scalar,1,8,[.v .nilFunc]⟩
 (.node (.node .leaf 116 ⟨.scalar,1,8,[.v .nilFunc]⟩
 .leaf) 117 ⟨.ptr 5,1,8,[.v (.pointer none)]⟩
 .leaf))) 118 ⟨.slice 140,1,24,[.v (.slice none 0 0)]⟩
 (.node (.node (.node (.node .leaf 119 ⟨.struct [(0,9),(1,3),(2,118)],3,48,[.v (str []),.v (.int .i64 0),.v (.slice none 0 0)]⟩
 .leaf) 120 ⟨.struct [(0,9),(1,3),(2,118)],3,48,[.v (str []),.v (.int .i64 0),.v (.slice none 0 0)]⟩
 .leaf) 121 ⟨.scalar,1,8,[.v .nilFunc]⟩
 (.node (.node .leaf 122 ⟨.slice 146,1,24,[.v (.slice none 0 0)]⟩
 .leaf) 123 ⟨.struct [(0,9),(1,45),(2,46),(3,47),(4,122),(5,122)],6,136,[.v (str []),.v (.slice none 0 0),.v (.slice none 0 0),.v (.slice none 0 0),.v (.slice none 0 0),.v (.slice none 0 0)]⟩
 .leaf)) 124 ⟨.struct [(0,9),(1,45),(2,46),(3,47),(4,122),(5,122)],6,136,[.v (str []),.v (.slice none 0 0),.v (.slice none 0 0),.v (.slice none 0 0),.v (.slice none 0 0),.v (.slice none 0 0)]⟩
 (.node (.node (.node .leaf 125 ⟨.scalar,1,8,[.v .nilFunc]⟩
 .leaf) 126 ⟨.scalar,1,8,[.v .nilFunc]⟩
 .leaf) 127 ⟨.scalar,1,8,[.v .nilFunc]⟩
 (.node (.node .leaf 128 ⟨.scalar,1,8,[.v .nilFunc]⟩
 .leaf) 129 ⟨.scalar,1,8,[.v .nilFunc]⟩
 .leaf)))) 130 ⟨.scalar,1,8,[.v .nilFunc]⟩
 (.node (.node (.node (.node (.node .leaf 131 ⟨.scalar,1,8,[.v .nilFunc]⟩
 .leaf) 132 ⟨.scalar,1,8,[.v .nilFunc]⟩
 .leaf) 133 ⟨.scalar,1,8,[.v .nilFunc]⟩
 (.node (.node .leaf 134 ⟨.ptr 40,1,8,[.v (.pointer none)]⟩
 .leaf) 136 ⟨.scalar,1,8,[.v .nilFunc]⟩
 .leaf)) 137 ⟨.scalar,1,8,[.v .nilFunc]⟩
 (.node (.node (.node .leaf 138 ⟨.scalar,1,8,[.v .nilFunc]⟩
 .leaf) 139 ⟨.struct [(0,9),(1,3),(2,3)],3,32,[.v (str []),.v (.int .i64 0),.v (.int .i64 0)]⟩
 .leaf) 140 ⟨.struct [(0,9),(1,3),(2,3)],3,32,[.v (str []),.v (.int .i64 0),.v (.int .i64 0)]⟩
 (.node (.node .leaf 141 ⟨.scalar,1,8,[.v .nilFunc]⟩
 .leaf) 142 ⟨.scalar,1,8,[.v .nilFunc]⟩
 .leaf))) 144 ⟨.scalar,1,8,[.v .nilFunc]⟩
 (.node (.node (.node (.node .leaf 145 ⟨.struct [(0,42),(6,3),(7,4)],8,88,[.v (.int .i64 0),.v (.int .i64 0),.v (.int .i64 0),.v (.int .i64 0),.v (str []),.v (.slice none 0 0),.v (.int .i64 0),.v (.bool false)]⟩
 .leaf) 146 ⟨.struct [(0,42),(6,3),(7,4)],8,88,[.v (.int .i64 0),.v (.int .i64 0),.v (.int .i64 0),.v (.int .i64 0),.v (str []),.v (.slice none 0 0),.v (.int .i64 0),.v (.bool false)]⟩
 .leaf) 148 ⟨.scalar,1,8,[.v .nilFunc]⟩
 (.node (.node .leaf 149 ⟨.scalar,1,8,[.v .nilFunc]⟩
 .leaf) 150 ⟨.scalar,1,8,[.v .nilFunc]⟩
 .leaf)) 151 ⟨.scalar,1,8,[.v .nilFunc]⟩
 (.node (.node (.node .leaf 152 ⟨.scalar,1,8,[.v .nilFunc]⟩
 .leaf) 153 ⟨.scalar,1,8,[.v .nilFunc]⟩
 .leaf) 154 ⟨.scalar,1,8,[.v .nilFunc]⟩
 (.node (.node .leaf 156 ⟨.scalar,1,8,[.v .nilFunc]⟩
 .leaf) 157 ⟨.scalar,1,8,[.v .nilFunc]⟩
 .leaf))))) 158 ⟨.map 9 3,1,8,[.v (.map none)]⟩
 (.node (.node (.node (.node (.node (.node .leaf 159 ⟨.scalar,1,8,[.v .nilFunc]⟩
 .leaf) 160 ⟨.struct [(0,4),(1,4),(2,4),(3,4),(4,4)],5,5,[.v (.bool false),.v (.bool false),.v (.bool false),.v (.bool false),.v (.bool false)]⟩
 .leaf) 161 ⟨.struct [(0,4),(1,4),(2,4),(3,4),(4,4)],5,5,[.v (.bool false),.v (.bool false),.v (.bool false),.v (.bool false),.v (.bool false)]⟩
 (.node (.node .leaf 162 ⟨.scalar,1,8,[.v .nilFunc]⟩
 .leaf) 163 ⟨.slice 4,1,24,[.v (.slice none 0 0)]⟩
 .leaf)) 164 ⟨.struct [(0,163),(1,163)],2,48,[.v (.slice none 0 0),.v (.slice none 0 0)]⟩
 (.node (.node (.node .leaf 165 ⟨.struct [(0,163),(1,163)],2,48,[.v (.slice none 0 0),.v (.slice none 0 0)]⟩
 .leaf) 167 ⟨.scalar,1,8,[.v .nilFunc]⟩
 .leaf) 168 ⟨.scalar,1,8,[.v .nilFunc]⟩
 (.node (.node .leaf 169 ⟨.scalar,1,8,[.v .nilFunc]⟩
 .leaf) 170 ⟨.slice 171,1,24,[.v (.slice none 0 0)]⟩
 .leaf))) 171 ⟨.slice 175,1,24,[.v (.slice none 0 0)]⟩
 (.node (.node (.node (.node .leaf 173 ⟨.scalar,1,8,[.v .nilFunc]⟩
 .leaf) 174 ⟨.struct [(0,9),(1,3)],2,24,[.v (str []),.v (.int .i64 0)]⟩
 .leaf) 175 ⟨.struct [(0,9),(1,3)],2,24,[.v (str []),.v (.int .i64 0)]⟩
 (.node (.node .leaf 176 ⟨.scalar,1,8,[.v .nilFunc]⟩
 .leaf) 177 ⟨.scalar,1,8,[.v .nilFunc]⟩
 .leaf)) 178 ⟨.scalar,1,8,[.v .nilFunc]⟩
 (.node (.node (.node .leaf 179 ⟨.scalar,1,8,[.v .nilFunc]⟩
 .leaf) 181 ⟨.scalar,1,8,[.v .nilFunc]⟩
 .leaf) 183 ⟨.scalar,1,8,[.v .nilFunc]⟩
 (.node (.node .leaf 184 ⟨.scalar,1,8,[.v .nilFunc]⟩
 .leaf) 186 ⟨.scalar,1,8,[.v .nilFunc]⟩
 .leaf)))) 188 ⟨.scalar,1,8,[.v .nilFunc]⟩
 (.node (.node (.node (.node (.node .leaf 190 ⟨.scalar,1,8,[.v .nilFunc]⟩
 .leaf) 191 ⟨.scalar,1,8,[.v .nilFunc]⟩
 .leaf) 192 ⟨.scalar,1,8,[.v .nilFunc]⟩
 (.node (.node .leaf 193 ⟨.scalar,1,8,[.v .nilFunc]⟩
 .leaf) 194 ⟨.scalar,1,8,[.v .nilFunc]⟩
 .leaf)) 195 ⟨.scalar,1,8,[.v .nilFunc]⟩
 (.node (.node (.node .leaf 196 ⟨.int .u64,1,8,[.v (.int .u64 0)]⟩
 .leaf) 197 ⟨.int .u32,1,4,[.v (.int .u32 0)]⟩
 .leaf) 199 ⟨.scalar,1,8,[.v .nilFunc]⟩
 (.node (.node .leaf 200 ⟨.struct [(0,17),(1,17),(2,17),(3,9)],4,40,[.v (.pointer none),.v (.pointer none),.v (.pointer none),.v (str [])]⟩
 .leaf) 201 ⟨.struct [(0,17),(1,17),(2,17),(3,9)],4,40,[.v (.pointer none),.v (.pointer none),.v (.pointer none),.v (str [])]⟩
 .leaf))) 202 ⟨.array 0 16,0,0,[]⟩
 (.node (.node (.node (.node .leaf 203 ⟨.struct [(0,202)],0,0,[]⟩
 .leaf) 204 ⟨.struct [(0,202)],0,0,[]⟩
 .leaf) 205 ⟨.scalar,1,8,[.v .nilFunc]⟩
 (.node (.node .leaf 206 ⟨.int .u8,1,1,[.v (.int .u8 0)]⟩
 .leaf) 207 ⟨.int .u8,1,1,[.v (.int .u8 0)]⟩
 .leaf)) 208 ⟨.scalar,1,8,[.v .nilFunc]⟩
 (.node (.node (.node .leaf 209 ⟨.int .i32,1,4,[.v (.int .i32 0)]⟩
 .leaf) 210 ⟨.int .i32,1,4,[.v (.int .i32 0)]⟩
 .leaf) 211 ⟨.struct [(0,12),(1,12),(2,197),(3,206),(4,5),(5,5),(6,207),(7,208),(8,117),(9,209),(10,210)],11,48,[.v (.int .u64 0),.v (.int .u64 0),.v (.int .u32 0),.v (.int .u8 0),.v (.int .u8 0),.v (.int .u8 0),.v (.int .u8 0),.v .nilFunc,.v (.pointer none),.v (.int .i32 0),.v (.int .i32 0)]⟩
 (.node .leaf 212 ⟨.struct [(0,12),(1,12),(2,197),(3,206),(4,5),(5,5),(6,207),(7,208),(8,117),(9,209),(10,210)],11,48,[.v (.int .u64 0),.v (.int .u64 0),.v (.int .u32 0),.v (.int .u8 0),.v (.int .u8 0),.v (.int .u8 0),.v (.int .u8 0),.v .nilFunc,.v (.pointer none),.v (.int .i32 0),.v (.int .i32 0)]⟩
 .leaf)))))))
theorem zaa:zaF Tryz.prog tab:=zgU (by kernel_rfl)
theorem so{f:FuncId}{fn:Func}{c:Code}{args:List SV}{H:Heap}{R:Res->Heap->Prop}(hf:Tryz.prog.funcs[f]?=some fn)(h:TR Tryz.prog fn.ntmps c (zeb 0 args) H (RetK tab fn.results.toList H.length R))
  (hn:(fn.name == "runtime.NumGoroutine")=false:=by kernel_rfl)(hb:fn.body=some c:=by exact rfl)(ha:Nat.ble args.length fn.ntmps=true:=by exact rfl):Sound Tryz.prog f args H R:=Sound.of zaa hf hn hb ha h
end Go.Proofs.YtpfnfpaahefdaaaGreat
