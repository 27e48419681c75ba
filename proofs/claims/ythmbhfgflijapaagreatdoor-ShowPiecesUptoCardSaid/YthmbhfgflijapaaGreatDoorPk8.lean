import Derived.Lib.MinMax
import Derived.Lib.Bytealg
import Derived.Test.YthmbhfgflijapaaGreatDoorProg
import Derived.Test.YthmbhfgflijapaaGreatDoorPk7
set_option linter.all false
namespace Go.TL
open Go
def zbe(ops:Array Oper)(i:Nat):List Nat:=((ops[i]?).map fun o=>(o.after.toList.filter (Region.binds .any)).map (·.on)).getD []
def zqL(ops:Array Oper)(l:List Nat):List Nat:=(List.range ops.size).filter fun i=>l.contains i || l.any fun j=>(zbe ops j).contains i
def cov(ops:Array Oper):Nat->List Nat->List Nat
 | 0,l=>l
 | f+1,l=>cov ops f (zqL ops l)
def zko(ops:Array Oper):Bool:=(List.range ops.size).all fun i=>(zbe ops i).all fun j=>Nat.blt j i
def zjo(ops:Array Oper)(k:Nat):Bool:=(List.range ops.size).all fun j=>Nat.blt j k || (List.range j).all fun i=>(cov ops 8 (zbe ops j)).contains i
def DC(ops:Array Oper)(L:Array Bool):Prop:=∀i,L[i]?=some true->∀j∈zbe ops i,L[j]?=some true
theorem gT{L:Array Bool}{i:Nat}:L.getD i false=true ↔ L[i]?=some true:=by
 rw[qbh];cases L[i]? <;> simp
theorem gF{L:Array Bool}{i:Nat}:L.getD i true=false ↔ L[i]?=some false:=by
 rw[qbh];cases L[i]? <;> simp
theorem zcT{ops:Array Oper}{L:Array Bool}(h:DC ops L):∀(f:Nat) (l:List Nat),(∀i∈l,L[i]?=some true)->∀i∈cov ops f l,L[i]?=some true
 | 0,l,hl=>hl
 | f+1,l,hl=>zcT h f _ fun i hi=>by
   simp only[zqL,qb6,qbv,qcz,qbT]at hi
   rcases hi.2 with h1|⟨j,h1,h2⟩
   ·exact hl i h1
   ·exact h j (hl j h1) i h2
theorem zbo{ops:Array Oper}{L:Array Bool}{i:Nat}(hs:L.size=ops.size):i∈Region.ready .any ops L ↔ L[i]?=some false/\∀j∈zbe ops i,L[j]?=some true:=by
 rw[mem_ready,gF]
 constructor
 ·rintro⟨h1,o,ho,h2⟩
  refine⟨h1,fun j hj=>?_⟩
  simp only[zbe,ho,qaW,qbm,qaP,qb6]at hj
  obtain⟨e,⟨he,hb⟩,rfl⟩:=hj
  exact gT.1 (h2 e (by simpa using he) hb)
 ·rintro⟨h1,h2⟩
  have hi:=(qaj.1 h1).1
  have ho:ops[i]?=some (ops[i]'(by omega)):=qam (by omega)
  refine⟨h1,_,ho,fun e he hb=>gT.2 (h2 _ ?_)⟩
  simp only[zbe,ho,qaW,qbm,qaP,qb6]
  exact⟨e,⟨by simpa using he,hb⟩,rfl⟩
theorem least{p:Nat->Prop}[DecidablePred p]:∀n,¬p n->∃m,m≤n/\¬p m/\∀j,j<m->p j:=by
 intro n
 induction n using Nat.strongRecOn with
 | ind n ih=>
   intro h
   by_cases hx:∃j,j<n/\¬p j
   ·obtain⟨j,hj,hp⟩:=hx
    obtain⟨m,h1,h2,h3⟩:=ih j hj hp
    exact⟨m,by omega,h2,h3⟩
   ·exact⟨n,qae _,h,fun j hj=>qaB fun hp=>hx ⟨j,hj,hp⟩⟩
theorem zdQ{ops:Array Oper}{L:Array Bool}(hs:L.size=ops.size)(hd:zko ops=true){n:Nat}(hn:L[n]?=some false):∃m,m≤n/\m∈Region.ready .any ops L/\∀j,j<m->L[j]?=some true:=by
 obtain⟨m,h1,h2,h3⟩:=least (p:=fun j=>L[j]?=some true) n (by rw[hn];simp)
 have hnl:=(qaj.1 hn).1
 have hm:L[m]?=some false:=by
  have:L[m]?=some (L[m]'(by omega)):=qam (by omega)
  rw[this]at h2⊢
  cases h:L[m]'(by omega)
  ·rfl
  ·rw[h]at h2;exact absurd rfl h2
 refine⟨m,h1,(zbo hs).2 ⟨hm,fun j hj=>h3 j ?_⟩,h3⟩
 have:=qaw.1 hd m (by simp;omega)
 have:=qaw.1 this j hj
 simpa using this
theorem forced{ops:Array Oper}{L:Array Bool}{k j:Nat}(hs:L.size=ops.size)(hf:zjo ops k=true)(hdc:DC ops L)(hj:j∈Region.ready .any ops L)(hk:k≤j):∀i,i<j->L[i]?=some true:=by
 intro i hi
 obtain⟨h1,h2⟩:=(zbo hs).1 hj
 have hlt:=(qaj.1 h1).1
 have:=qaw.1 hf j (by simp;omega)
 simp only[qbv]at this
 rcases this with h|h
 ·simp at h;omega
 ·have:=qaw.1 h i (by simpa using hi)
  exact zcT hdc 8 _ h2 i (by simpa using this)
theorem zsR{ops:Array Oper}{L:Array Bool}{i:Nat}(hs:L.size=ops.size)(hdc:DC ops L)(hi:i∈Region.ready .any ops L):DC ops (L.setIfInBounds i true):=by
 have key:∀(j:Nat),L[j]?=some true->(L.setIfInBounds i true)[j]?=some true:=by
  intro j hj
  rw[qaK]
  have:=(qaj.1 hj).1
  split
  ·rw[if_pos (by omega)]
  ·exact hj
 intro x hx j hj
 rw[qaK]at hx
 split at hx
 ·rename_i e
  subst e
  exact key j (((zbo hs).1 hi).2 j hj)
 ·exact key j (hdc x hx j hj)
section rules
variable {P:Program}{all:Array Oper}
theorem zmR{F:Fence}{N:Nat}{md:Region.Mode}{Q:Exit->Act->World->Prop}:∀(f:Nat) (L:Array Bool) (a:Act) (w:World),wpAnyIn F N P md all Q f L a w->wpAnyIn F N P md all Q (f+1) L a w
 | 0,L,a,w,h=>⟨fun _=>h.2,fun i hi=>by rw[h.1]at hi;cases hi⟩
 | f+1,L,a,w,h=>⟨h.1,fun i hi=>wpOpIn_mono (fun a w h2=>zmR f _ a w h2) (h.2 i hi)⟩
theorem zj1{F:Fence}{N:Nat}{md:Region.Mode}{Q:Exit->Act->World->Prop}(f:Nat)(L:Array Bool)(a:Act)(w:World)(h:wpAnyIn F N P md all Q f L a w):∀k,wpAnyIn F N P md all Q (k+f) L a w
 | 0=>by rw[qaU];exact h
 | k+1=>by rw[show k+1+f=(k+f)+1 from by omega];exact zmR _ _ _ _ (zj1 f L a w h k)
theorem ztB{r:Option Nat}{C:World->Prop}{Q:Act->Prop}{Q':Exit->Act->World->Prop}{k n2:Nat}(hd:zko all=true)(hf:zjo all k=true)(hp:∀(i:Nat) o,i<k->all[i]?=some o->Op.plain o.op=true)
  (hQ:∀(L:Array Bool) a w,L.size=all.size->(∀(i:Nat),i<k->i<all.size->L[i]?=some true)->(∀(i:Nat),k≤i->i<all.size->L[i]?=some false)->C w->Q a->wpAnyIn (Fr r) 0 P .any all Q' n2 L a w):
  ∀(u:Nat) (L M:Array Bool) (a:Act) (w:World),L.size=all.size->M.size=all.size->(∀(i:Nat),i<k->M[i]?=L[i]?)->(∀(i:Nat),k≤i->i<all.size->M[i]?=some true)->(∀(i:Nat),k≤i->i<all.size->L[i]?=some false)->
   DC all L->C w->wpAnyQIn (Fr r) 0 P .any all C Q u M a->wpAnyIn (Fr r) 0 P .any all Q' (u+n2) L a w:=by
 intro u
 have full:∀(L M:Array Bool),L.size=all.size->M.size=all.size->(∀(i:Nat),i<k->M[i]?=L[i]?)->(∀(i:Nat),k≤i->i<all.size->M[i]?=some true)->DC all L->Region.ready .any all M=[]->∀(i:Nat),i<k->i<all.size->L[i]?=some true:=by
  exact zwp
 induction u with
 | zero=>
   intro L M a w hL hM h1 h2 h3 hdc hC h
   rw[qaU]
   exact hQ L a w hL (full L M hL hM h1 h2 hdc h.1) h3 hC h.2
 | succ u ih=>
   intro L M a w hL hM h1 h2 h3 hdc hC h
   by_cases hr:Region.ready .any all M=[]
   ·exact zwdy
   ·
    obtain⟨x,hx⟩:=qcs _ hr
    have hx1:=((zbo hM).1 hx).1
    have hxl:=(qaj.1 hx1).1
    have hxk:x<k:=qbO fun hle=>by rw[h2 x hle (by omega)]at hx1;cases hx1
    have hLx:L[x]?=some false:=by rw[<-h1 x hxk];exact hx1
    rw[show u+1+n2=(u+n2)+1 from by omega]
    refine⟨fun h0=>?_,fun i hi=>?_⟩
    ·exact zwfy
    ·have hik:i<k:=qbO fun hle=>by
      have:=forced hL hf hdc hi hle x (by omega)
      rw[this]at hLx;cases hLx
     exact zwb
theorem zoY{r:Option Nat}{Q':Exit->Act->World->Prop}{k:Nat}(hd:zko all=true)(hf:zjo all k=true):∀(l:List Oper) (p:Nat) (L:Array Bool) (a:Act) (w:World),k≤p->(∀j,l[j]?=all[p+j]?)->L.size=all.size->
   (∀(i:Nat),i<p->i<all.size->L[i]?=some true)->(∀(i:Nat),p≤i->i<all.size->L[i]?=some false)->wpListIn (Fr r) 0 P all Q' l a w->wpAnyIn (Fr r) 0 P .any all Q' l.length L a w
 | [],p,L,a,w,hk,hl,hL,h1,h2,h=>by
   exact zwq
 | o::l,p,L,a,w,hk,hl,hL,h1,h2,h=>by
   have hpo:all[p]?=some o:=by simpa using (hl 0).symm
   have hpl:=(qaj.1 hpo).1
   have hLp:=h2 p (qae _) hpl
   have hdc:DC all L:=by
    exact zwt
   refine⟨fun h0=>?_,fun i hi=>?_⟩
   ·exact zwfx
   ·have hi1:=((zbo hL).1 hi).1
    have hil:=(qaj.1 hi1).1
    have hip:p≤i:=qby fun hlt=>by rw[h1 i hlt (by omega)]at hi1;cases hi1
    have hipe:i=p:=by
     refine qaB fun hne=>?_
     have:=forced hL hf hdc hi (by omega) p (by omega)
     rw[this]at hLp;cases hLp
    subst hipe
    have hnext:∀a' w',wpListIn (Fr r) 0 P all Q' l a' w'->wpAnyIn (Fr r) 0 P .any all Q' l.length (L.setIfInBounds i true) a' w':=by
     intro a' w' h'
     refine zoY hd hf l (i+1) (L.setIfInBounds i true) a' w' (by omega) (fun j=>?_) (by simpa using hL) (fun j hj hja=>?_) (fun j hj hja=>?_) h'
     ·exact zwem
     ·exact zwdn
     ·exact zwep
    exact zwbn
theorem zmQ{F:Fence}{N:Nat}{C:World->Prop}{md:Region.Mode}{Q:Act->Prop}(hs:Region.noSelect all=true):∀(l:List Oper) (k:Nat) (listed:Array Bool) (a:Act),(∀j,j<l.length->l[j]?=all[k+j]?)->
  Region.lexFrom md all l.length k listed=true->wpQuietIn F N P all C Q l a->wpAnyQIn F N P md all C Q l.length listed a
 | [],_,_,_,_,hB,h=>⟨by simpa [Region.lexFrom]using hB,h⟩
 | o::l,k,listed,a,hl,hB,h=>by
   have h0:all[k]?=some o:=by simpa using (hl 0 (by simp)).symm
   simp only[qal,Region.lexFrom,qau]at hB
   obtain⟨⟨hr,hf⟩,hB'⟩:=hB
   have hst:qOpIn F N P all C k (wpQuietIn F N P all C Q l) a:=by unfold qOpIn;simp only[h0];exact h
   obtain⟨v,hy,hK⟩:=yieldsQuiet_of_qOpIn h0 hst
   exact wpAnyQIn_first h0 (Region.noSelect_spec hs) l.length listed a (Region.free_spec h0 hf) (by simpa using hr) hy
    (zmQ hs l (k+1) _ _ (fun j hj=>by have:=hl (j+1) (by simpa using hj);simpa [qa4,qcG 1 j]using this) hB' hK)
def zrU(ops:Array Oper)(k:Nat):Bool:=
 Region.noSelect ops && (Nat.ble k ops.size && (zko ops && (zjo ops k && Region.lexFrom .any ops k 0 (Array.replicate k false++Array.replicate (ops.size-k) true))))
def zaK(P:Program)(n:Nat)(all:Array Oper)(l2:List Oper)(H:Heap)(K:TK):TK
 | .normal,env,_=>TO false P n all l2 env H K
 | _,_,_=>False
theorem TR.zqr{n:Nat}{env:Env}{H:Heap}{K:TK}(k:Nat){id:Nat}{l:List Oper}(hm:P.follows .mixedOrders=true)(hB:zrU l.toArray k=true)(hp:(l.take k).all (fun o=>Op.plain o.op)=true)
  (h:TO true P n l.toArray (l.take k) env H (zaK P n l.toArray (l.drop k) H K)):TR P n (.region id l.toArray true) env H K:=by
 simp only[zrU,qau]at hB
 obtain⟨hB1,hB2,hB3,hB4,hB5⟩:=hB
 have hk:k≤l.length:=by simpa using qag hB2
 intro φ m a h1 h2 h3 h4
 have hq:=h φ m a h1 h2 h3 h4
 simp only at hq
 refine zbs (wpIn_region_any hm ?_)
 have hlt:(l.take k).length=k:=by simp;omega
 have:=ztB (P:=P) (all:=l.toArray) (r:=φ.r) (C:=Keeps m.w) (Q:=fun a'=>∀w',Keeps m.w w'->wpListIn (Fr φ.r) 0 P l.toArray (Post φ m n K) (l.drop k) a' w')
  (Q':=Post φ m n K) (k:=k) (n2:=(l.drop k).length) hB3 hB4 (fun i o hi ho=>qaw.1 hp o (qas (i:=i) (by rw[qaS,if_pos hi];simpa using ho)))
  (fun L a' w' hL g1 g2 hC hQ=>zoY hB3 hB4 (l.drop k) k L a' w' (qae _) (fun j=>by simp) hL g1 g2 (hQ w' hC))
  k (Array.replicate l.toArray.size false) (Array.replicate k false++Array.replicate (l.toArray.size-k) true) a { m.w with drawn:=m.w.drawn+1 } (by simp) (by simp;omega)
  (fun i hi=>by
    rw[qa1 (by simpa using hi),qaR,qaR,if_pos hi,if_pos (by simp;omega)])
  (fun i hi hia=>by
    rw[qbd (by simpa using hi),qaR,if_pos (by simp at hia⊢;omega)])
  (fun i hi hia=>by rw[qaR,if_pos hia])
  (fun i hi=>by rw[qaR]at hi;split at hi <;> cases hi)
  ⟨rfl,rfl,rfl,qae _,fun _ _=>rfl⟩ ?_
 ·exact zwel
 ·exact zwh
theorem zaK.go{n:Nat}{l2:List Oper}{env:Env}{H:Heap}{K:TK}(h:TO false P n all l2 env H K):zaK P n all l2 H K .normal env H:=h
theorem TR.zsh{n:Nat}{env:Env}{H:Heap}{K:TK}{id:Nat}{l:List Oper}(hm:P.follows .mixedOrders=true)(hB:zrU l.toArray (l.length-1)=true)(hp:(l.take (l.length-1)).all (fun o=>Op.plain o.op)=true)
  (h:TO true P n l.toArray (l.take (l.length-1)) env H (zaK P n l.toArray (l.drop (l.length-1)) H K)):TR P n (.region id l.toArray true) env H K:=TR.zqr _ hm hB hp h
theorem TR.zsi{n:Nat}{env:Env}{H:Heap}{K:TK}{id:Nat}{l:List Oper}(hm:P.follows .mixedOrders=true)(hB:zrU l.toArray (l.length-2)=true)(hp:(l.take (l.length-2)).all (fun o=>Op.plain o.op)=true)
  (h:TO true P n l.toArray (l.take (l.length-2)) env H (zaK P n l.toArray (l.drop (l.length-2)) H K)):TR P n (.region id l.toArray true) env H K:=TR.zqr _ hm hB hp h
end rules
section rules
variable {P:Program}{n:Nat}{K:TK}
theorem zab.zvx{env:Env}{H:Heap}{len k:Nat}{I:Nat->Prop}{E:Nat->Env}{G:Nat->Heap}(j:Nat)(hk:k<len)(hI:I (k+1))(h1:Nat.ble (G k).length j=true)(h2:Nat.ble j H.length=true)
  (hH:H.take j=G (k+1))(h3:zaa j (G (k+1))=true)(h4:(E (k+1)).under j=true)
  (h0:env.sub (E (k+1)):=by repeat' (first|exact trivial|refine qai rfl ?_|fail)):
  zab (fun k=>k≤len/\I k) (fun k=>len-k) E G k K .normal env H:=
 zab.cut j (k+1) ⟨hk,hI⟩ (by omega) h0 h1 h2 hH h3 h4
end rules
section rules
variable {P:Program}{n:Nat}{env:Env}{H:Heap}{K:TK}{all:Array Oper}{rest:List Oper}{q:Bool}
variable {d:Nat}{ty:TypeId}{pos:String}{aft:Array Edge}
theorem TO.maxi{x y:Operand}{a b:Int}{ts:Array TypeId}(hd:Nat.ble (d+1) n=true)(hx:env.val x=some (.t (.v (.int .i64 a))))(hy:env.val y=some (.t (.v (.int .i64 b))))
  (k:TO q P n all rest ((d,.t (.v (.int .i64 (max a b))))::env) H K):TO q P n all (⟨some d,.call { callee:=.builtin .max,args:=#[x,y],argTypes:=ts },ty,pos,aft,none⟩::rest) env H K:=
 TO.op hd (fun m ac h1 h2 h3=>⟨.int .i64 (max a b),fun w' hw'=>by
  simp[execOp,resolve,invoke,builtin,(h3.val hx).v_eq,(h3.val hy).v_eq,Go.Lib.run_max_ints],.t _ _ (.v _)⟩) k
theorem TO.mini{x y:Operand}{a b:Int}{ts:Array TypeId}(hd:Nat.ble (d+1) n=true)(hx:env.val x=some (.t (.v (.int .i64 a))))(hy:env.val y=some (.t (.v (.int .i64 b))))
  (k:TO q P n all rest ((d,.t (.v (.int .i64 (min a b))))::env) H K):TO q P n all (⟨some d,.call { callee:=.builtin .min,args:=#[x,y],argTypes:=ts },ty,pos,aft,none⟩::rest) env H K:=
 TO.op hd (fun m ac h1 h2 h3=>⟨.int .i64 (min a b),fun w' hw'=>by
  simp[execOp,resolve,invoke,builtin,(h3.val hx).v_eq,(h3.val hy).v_eq,Go.Lib.run_min_ints],.t _ _ (.v _)⟩) k
theorem TO.zgB{f:FuncId}{fn:Func}{x y:Operand}{ts:Array TypeId}{l:Str}{c:Int}(hd:Nat.ble (d+1) n=true)(hf:P.funcs[f]?=some fn)(hname:(fn.name == "runtime.NumGoroutine")=false)(hb:fn.body.isNone=true)(hn:Extern.findNext fn=none)
  (he:Extern.find fn=some Extern.BytealgIndexByte.indexByte)(hx:env.val x=some (.t (.v (str l))))(hy:env.val y=some (.t (.v (.int .u8 c))))(k:TO q P n all rest ((d,.t (.v (.int .i64 (Lib.indexByte l c.toNat.toUInt8))))::env) H K):
  TO q P n all (⟨some d,.call { callee:=.value (.func f),args:=#[x,y],argTypes:=ts },ty,pos,aft,none⟩::rest) env H K:=
 TO.op hd (fun m ac h1 h2 h3=>⟨.int .i64 (Lib.indexByte l c.toNat.toUInt8),fun w' hw'=>by
  have:=run_callFunc_extern hf hname hb hn he #[ac.eval x,ac.eval y] w'
  rw[(h3.val hx).v_eq,(h3.val hy).v_eq,Lib.run_indexByteString]at this
  simp only[Result.andThen]at this
  simp[execOp,resolve,eval_func,Deferred.ofValue,invoke,(h3.val hx).v_eq,(h3.val hy).v_eq,this],.t _ _ (.v _)⟩) k
end rules
section rules
variable {P:Program}{n:Nat}{env:Env}{H:Heap}{K:TK}{all:Array Oper}{rest:List Oper}
variable {d:Nat}{ty:TypeId}{pos:String}{aft:Array Edge}
theorem TO.zbH(N:Nat){Hc Hc1 H':Heap}{cargs:List SV}{v:SV}{f:Operand}{fid:FuncId}{caps:List SV}{args:Array Operand}{ts:Array TypeId}{vs:List SV}
  (hs:Sound P fid cargs Hc fun r H'=>r= .ret v/\H'=Hc1)(hd:Nat.ble (d+1) n=true)(hf:env.val f=some (.fn fid caps))(ha:env.vals args.toList=some vs)(hl:Les (vs++caps) cargs)
  (hN:Nat.ble N H.length=true)(hc:H.take N=Hc)(hu:unders N cargs=true)(hb:zaa N Hc=true)(hv:v.under N=true)(h1:Hc1.length=N)(h2:zaa N Hc1=true)
  (hH:zbK (Hc1++H.drop N)=some H')(k:TO false P n all rest ((d,v)::env) H' K):
  TO false P n all (⟨some d,.call { callee:=.value f,args:=args,argTypes:=ts },ty,pos,aft,none⟩::rest) env H K:=by
 refine TO.ztG N hs ⟨fun u G hr=>?_,fun u G hr=>?_⟩ hd hf ha hl hu (qag hN) hc hb (fun u G hr=>?_) (fun u G hr=>?_)
 ·obtain⟨h,rfl⟩:=hr;cases h;exact⟨hv,h1,h2⟩
 ·cases hr.1
 ·obtain⟨h,rfl⟩:=hr;cases h;rw[<-zba hH];exact k
 ·cases hr.1
end rules
end Go.TL
namespace Go.Proofs.YthmbhfgflijapaaGreatDoor
open Go Go.TL
def tab:Tab:=(.node (.node (.node (.node (.node (.node (.node (.node .leaf 1 ⟨.scalar,1,8,[.v .nilFunc]⟩
 .leaf) 2 ⟨.int .i64,1,8,[.v (.int .i64 0)]⟩
 (.node .leaf 3 ⟨.int .i64,1,8,[.v (.int .i64 0)]⟩
 .leaf)) 4 ⟨.bool,1,1,[.v (.bool false)]⟩
 (.node (.node .leaf 5 ⟨.int .u8,1,1,[.v (.int .u8 0)]⟩
 .leaf) 6 ⟨.int .u8,1,1,[.v (.int .u8 0)]⟩
 (.node .leaf 7 ⟨.struct [(0,2),(1,3),(2,4),(3,6)],4,24,[.v (.int .i64 0),.v (.int .i64 0),.v (.bool false),.v (.int .u8 0)]⟩
 .leaf))) 8 ⟨.struct [(0,2),(1,3),(2,4),(3,6)],4,24,[.v (.int .i64 0),.v (.int .i64 0),.v (.bool false),.v (.int .u8 0)]⟩
 (.node (.node (.node .leaf 9 ⟨.str,1,16,[.v (str [])]⟩
 .leaf) 10 ⟨.str,1,16,[.v (str [])]⟩
 (.node .leaf 11 ⟨.str,1,16,[.v (str [])]⟩
 .leaf)) 12 ⟨.int .u64,1,8,[.v (.int .u64 0)]⟩
 (.node (.node .leaf 13 ⟨.struct [(0,9),(1,12)],2,24,[.v (str []),.v (.int .u64 0)]⟩
 .leaf) 14 ⟨.struct [(0,9),(1,12)],2,24,[.v (str []),.v (.int .u64 0)]⟩
 (.node .leaf 15 ⟨.ptr 264,1,8,[.v (.pointer none)]⟩
 .leaf)))) 16 ⟨.ptr 267,1,8,[.v (.pointer none)]⟩
 (.node (.node (.node (.node .leaf 17 ⟨.ptr 274,1,8,[.v (.pointer none)]⟩
 .leaf) 18 ⟨.struct [(0,17)],1,8,[.v (.pointer none)]⟩
 (.node .leaf 19 ⟨.struct [(0,17)],1,8,[.v (.pointer none)]⟩
 .leaf)) 20 ⟨.iface,1,16,[.v .nilIface]⟩
 (.node (.node .leaf 21 ⟨.int .i32,1,4,[.v (.int .i32 0)]⟩
 .leaf) 22 ⟨.slice 74,1,24,[.v (.slice none 0 0)]⟩
 (.node .leaf 23 ⟨.slice 35,1,24,[.v (.slice none 0 0)]⟩
 .leaf))) 24 ⟨.struct [(0,22),(1,23)],2,48,[.v (.slice none 0 0),.v (.slice none 0 0)]⟩
 (.node (.node (.node .leaf 25 ⟨.struct [(0,22),(1,23)],2,48,[.v (.slice none 0 0),.v (.slice none 0 0)]⟩
 .leaf) 26 ⟨.scalar,1,8,[.v .nilFunc]⟩
 (.node .leaf 27 ⟨.scalar,1,8,[.v .nilFunc]⟩
 .leaf)) 29 ⟨.scalar,1,8,[.v .nilFunc]⟩
 (.node (.node .leaf 30 ⟨.slice 50,1,24,[.v (.slice none 0 0)]⟩
 .leaf) 31 ⟨.slice 40,1,24,[.v (.slice none 0 0)]⟩
 (.node .leaf 32 ⟨.slice 122,1,24,[.v (.slice none 0 0)]⟩
 .leaf))))) 33 ⟨.slice 38,1,24,[.v (.slice none 0 0)]⟩
 (.node (.node (.node (.node (.node .leaf 34 ⟨.struct [(0,9),(1,30),(2,30),(3,30),(4,31),(5,32),(6,33),(7,33)],8,184,[.v (str []),.v (.slice none 0 0),.v (.slice none 0 0),.v (.slice none 0 0),.v (.slice none 0 0),.v (.slice none 0 0),.v (.slice none 0 0),.v (.slice none 0 0)]⟩
 .leaf) 35 ⟨.struct [(0,9),(1,30),(2,30),(3,30),(4,31),(5,32),(6,33),(7,33)],8,184,[.v (str []),.v (.slice none 0 0),.v (.slice none 0 0),.v (.slice none 0 0),.v (.slice none 0 0),.v (.slice none 0 0),.v (.slice none 0 0),.v (.slice none 0 0)]⟩
 (.node .leaf 36 ⟨.slice 9,1,24,[.v (.slice none 0 0)]⟩
 .leaf)) 37 ⟨.struct [(0,3),(1,3),(2,3),(3,3),(4,9),(5,33)],6,72,[.v (.int .i64 0),.v (.int .i64 0),.v (.int .i64 0),.v (.int .i64 0),.v (str []),.v (.slice none 0 0)]⟩
 (.node (.node .leaf 38 ⟨.struct [(0,3),(1,3),(2,3),(3,3),(4,9),(5,33)],6,72,[.v (.int .i64 0),.v (.int .i64 0),.v (.int .i64 0),.v (.int .i64 0),.v (str []),.v (.slice none 0 0)]⟩
 .leaf) 39 ⟨.struct [(0,36),(1,38)],7,96,[.v (.slice none 0 0),.v (.int .i64 0),.v (.int .i64 0),.v (.int .i64 0),.v (.int .i64 0),.v (str []),.v (.slice none 0 0)]⟩
 (.node .leaf 40 ⟨.struct [(0,36),(1,38)],7,96,[.v (.slice none 0 0),.v (.int .i64 0),.v (.int .i64 0),.v (.int .i64 0),.v (.int .i64 0),.v (str []),.v (.slice none 0 0)]⟩
 .leaf))) 41 ⟨.int .i64,1,8,[.v (.int .i64 0)]⟩
 (.node (.node (.node .leaf 43 ⟨.scalar,1,8,[.v .nilFunc]⟩
 .leaf) 45 ⟨.scalar,1,8,[.v .nilFunc]⟩
 (.node .leaf 46 ⟨.scalar,1,8,[.v .nilFunc]⟩
 .leaf)) 47 ⟨.scalar,1,8,[.v .nilFunc]⟩
 (.node (.node .leaf 48 ⟨.slice 56,1,24,[.v (.slice none 0 0)]⟩
 .leaf) 49 ⟨.struct [(0,9),(1,3),(2,48)],3,48,[.v (str []),.v (.int .i64 0),.v (.slice none 0 0)]⟩
 (.node .leaf 50 ⟨.struct [(0,9),(1,3),(2,48)],3,48,[.v (str []),.v (.int .i64 0),.v (.slice none 0 0)]⟩
 .leaf)))) 51 ⟨.scalar,1,8,[.v .nilFunc]⟩
 (.node (.node (.node (.node .leaf 52 ⟨.scalar,1,8,[.v .nilFunc]⟩
 .leaf) 53 ⟨.scalar,1,8,[.v .nilFunc]⟩
 (.node .leaf 54 ⟨.scalar,1,8,[.v .nilFunc]⟩
 .leaf)) 55 ⟨.struct [(0,9),(1,3),(2,3)],3,32,[.v (str []),.v (.int .i64 0),.v (.int .i64 0)]⟩
 (.node (.node .leaf 56 ⟨.struct [(0,9),(1,3),(2,3)],3,32,[.v (str []),.v (.int .i64 0),.v (.int .i64 0)]⟩
 .leaf) 57 ⟨.struct [(0,3),(1,3)],2,16,[.v (.int .i64 0),.v (.int .i64 0)]⟩
 (.node .leaf 58 ⟨.struct [(0,3),(1,3)],2,16,[.v (.int .i64 0),.v (.int .i64 0)]⟩
 .leaf))) 60 ⟨.scalar,1,8,[.v .nilFunc]⟩
 (.node (.node (.node .leaf 61 ⟨.scalar,1,8,[.v .nilFunc]⟩
 .leaf) 62 ⟨.map 3 9,1,8,[.v (.map none)]⟩
 (.node .leaf 63 ⟨.struct [(0,22),(1,62)],2,32,[.v (.slice none 0 0),.v (.map none)]⟩
 .leaf)) 64 ⟨.struct [(0,22),(1,62)],2,32,[.v (.slice none 0 0),.v (.map none)]⟩
 (.node (.node .leaf 65 ⟨.scalar,1,8,[.v .nilFunc]⟩
 .leaf) 66 ⟨.scalar,1,8,[.v .nilFunc]⟩
 .leaf))))) 67 ⟨.ptr 113,1,8,[.v (.pointer none)]⟩
 (.node (.node (.node (.node (.node (.node .leaf 69 ⟨.scalar,1,8,[.v .nilFunc]⟩
 .leaf) 71 ⟨.scalar,1,8,[.v .nilFunc]⟩
 (.node .leaf 72 ⟨.scalar,1,8,[.v .nilFunc]⟩
 .leaf)) 73 ⟨.struct [(0,9),(1,36)],2,40,[.v (str []),.v (.slice none 0 0)]⟩
 (.node (.node .leaf 74 ⟨.struct [(0,9),(1,36)],2,40,[.v (str []),.v (.slice none 0 0)]⟩
 .leaf) 75 ⟨.scalar,1,8,[.v .nilFunc]⟩
 (.node .leaf 76 ⟨.scalar,1,8,[.v .nilFunc]⟩
 .leaf))) 77 ⟨.scalar,1,8,[.v .nilFunc]⟩
 (.node (.node (.node .leaf 78 ⟨.scalar,1,8,[.v .nilFunc]⟩
 .leaf) 79 ⟨.ptr 85,1,8,[.v (.pointer none)]⟩
 (.node .leaf 80 ⟨.ptr 83,1,8,[.v (.pointer none)]⟩
 .leaf)) 81 ⟨.slice 5,1,24,[.v (.slice none 0 0)]⟩
 (.node (.node .leaf 82 ⟨.struct [(0,80),(1,81)],2,32,[.v (.pointer none),.v (.slice none 0 0)]⟩
 .leaf) 83 ⟨.struct [(0,80),(1,81)],2,32,[.v (.pointer none),.v (.slice none 0 0)]⟩
 (.node .leaf 84 ⟨.struct [(0,64),(2,83)],4,64,[.v (.slice none 0 0),.v (.map none),.v (.pointer none),.v (.slice none 0 0)]⟩
 .leaf)))) 85 ⟨.struct [(0,64),(2,83)],4,64,[.v (.slice none 0 0),.v (.map none),.v (.pointer none),.v (.slice none 0 0)]⟩
 (.node (.node (.node (.node .leaf 86 ⟨.scalar,1,8,[.v .nilFunc]⟩
 .leaf) 87 ⟨.scalar,1,8,[.v .nilFunc]⟩
 (.node .leaf 88 ⟨.scalar,1,8,[.v .nilFunc]⟩
 .leaf)) 89 ⟨.scalar,1,8,[.v .nilFunc]⟩
 (.node (.node .leaf 90 ⟨.scalar,1,8,[.v .nilFunc]⟩
 .leaf) 91 ⟨.scalar,1,8,[.v .nilFunc]⟩
 (.node .leaf 92 ⟨.struct [(0,58),(2,41)],3,24,[.v (.int .i64 0),.v (.int .i64 0),.v (.int .i64 0)]⟩
 .leaf))) 93 ⟨.struct [(0,58),(2,41)],3,24,[.v (.int .i64 0),.v (.int .i64 0),.v (.int .i64 0)]⟩
 (.node (.node (.node .leaf 95 ⟨.ptr 98,1,8,[.v (.pointer none)]⟩
 .leaf) 96 ⟨.map 101 3,1,8,[.v (.map none)]⟩
 (.node .leaf 97 ⟨.struct [(0,25),(2,58),(4,96)],5,72,[.v (.slice none 0 0),.v (.slice none 0 0),.v (.int .i64 0),.v (.int .i64 0),.v (.map none)]⟩
 .leaf)) 98 ⟨.struct [(0,25),(2,58),(4,96)],5,72,[.v (.slice none 0 0),.v (.slice none 0 0),.v (.int .i64 0),.v (.int .i64 0),.v (.map none)]⟩
 (.node (.node .leaf 99 ⟨.scalar,1,8,[.v .nilFunc]⟩
 .leaf) 100 ⟨.struct [(0,3),(1,9)],2,24,[.v (.int .i64 0),.v (str [])]⟩
 (.node .leaf 101 ⟨.struct [(0,3),(1,9)],2,24,[.v (.int .i64 0),.v (str [])]⟩
 .leaf))))) 102 ⟨.scalar,1,8,[.v .nilFunc]⟩
 (.node (.node (.node (.node (.node .leaf 103 ⟨.scalar,1,8,[.v .nilFunc]⟩
 .leaf) 104 ⟨.scalar,1,8,[.v .nilFunc]⟩
 (.node .leaf 105 ⟨.scalar,1,8,[.v .nilFunc]⟩
 .leaf)) 106 ⟨.scalar,1,8,[.v .nilFunc]⟩
 (.node (.node .leaf 107 ⟨.scalar,1,8,[.v .nilFunc]⟩
 .leaf) 108 ⟨.scalar,1,8,[.v .nilFunc]⟩
 (.node .leaf 109 ⟨.slice 166,1,24,[.v (.slice none 0 0)]⟩
 .leaf))) 111 ⟨.scalar,1,8,[.v .nilFunc]⟩
 (.node (.node (.node .leaf 112 ⟨.struct [(0,109),(1,3),(2,3),(3,22)],4,64,[.v (.slice none 0 0),.v (.int .i64 0),.v (.int .i64 0),.v (.slice none 0 0)]⟩
 .leaf) 113 ⟨.struct [(0,109),(1,3),(2,3),(3,22)],4,64,[.v (.slice none 0 0),.v (.int .i64 0),.v (.int .i64 0),.v (.slice none 0 0)]⟩
 (.node .leaf 114 ⟨.struct [(0,3),(1,41)],2,16,[.v (.int .i64 0),.v (.int .i64 0)]⟩
 .leaf)) 115 ⟨.struct [(0,3),(1,41)],2,16,[.v (.int .i64 0),.v (.int .i64 0)]⟩
 (.node (.node .leaf 117 ⟨.scalar,1,8,[.v .nilFunc]⟩
 .leaf) 118 ⟨.scalar,1,8,[.v .nilFunc]⟩
 (.node .leaf 119 ⟨.scalar,1,8,[.v .nilFunc]⟩
 .leaf)))) 120 ⟨.slice 125,1,24,[.v (.slice none 0 0)]⟩
 (.node (.node (.node (.node .leaf 121 ⟨.struct [(0,120)],1,24,[.v (.slice none 0 0)]⟩
 .leaf) 122 ⟨.struct [(0,120)],1,24,[.v (.slice none 0 0)]⟩
 (.node .leaf 123 ⟨.slice 172,1,24,[.v (.slice none 0 0)]⟩
 .leaf)) 124 ⟨.struct [(0,9),(1,30),(2,31),(3,32),(4,123),(5,123)],6,136,[.v (str []),.v (.slice none 0 0),.v (.slice none 0 0),.v (.slice none 0 0),.v (.slice none 0 0),.v (.slice none 0 0)]⟩
 (.node (.node .leaf 125 ⟨.struct [(0,9),(1,30),(2,31),(3,32),(4,123),(5,123)],6,136,[.v (str []),.v (.slice none 0 0),.v (.slice none 0 0),.v (.slice none 0 0),.v (.slice none 0 0),.v (.slice none 0 0)]⟩
 .leaf) 126 ⟨.scalar,1,8,[.v .nilFunc]⟩
 (.node .leaf 127 ⟨.struct [(0,58),(2,41)],3,24,[.v (.int .i64 0),.v (.int .i64 0),.v (.int .i64 0)]⟩
 .leaf))) 128 ⟨.struct [(0,58),(2,41)],3,24,[.v (.int .i64 0),.v (.int .i64 0),.v (.int .i64 0)]⟩
 (.node (.node (.node .leaf 130 ⟨.ptr 132,1,8,[.v (.pointer none)]⟩
 .leaf) 131 ⟨.struct [(0,22),(1,58)],3,40,[.v (.slice none 0 0),.v (.int .i64 0),.v (.int .i64 0)]⟩
 (.node .leaf 132 ⟨.struct [(0,22),(1,58)],3,40,[.v (.slice none 0 0),.v (.int .i64 0),.v (.int .i64 0)]⟩
 .leaf)) 133 ⟨.scalar,1,8,[.v .nilFunc]⟩
 (.node (.node .leaf 134 ⟨.scalar,1,8,[.v .nilFunc]⟩
 .leaf) 135 ⟨.scalar,1,8,[.v .nilFunc]⟩
 .leaf)))))) 136 ⟨.iface,1,16,[.v .nilIface]⟩
 (.node (.node (.node (.node (.node (.node (.node .leaf 137 ⟨.iface,1,16,[.v .nilIface]⟩
 .leaf) 139 ⟨.scalar,1,8,[.v .nilFunc]⟩
 (.node .leaf 140 ⟨.scalar,1,8,[.v .nilFunc]⟩
 .leaf)) 141 ⟨.scalar,1,8,[.v .nilFunc]⟩
 (.node (.node .leaf 142 ⟨.scalar,1,8,[.v .nilFunc]⟩
 .leaf) 143 ⟨.scalar,1,8,[.v .nilFunc]⟩
 (.node .leaf 144 ⟨.ptr 5,1,8,[.v (.pointer none)]⟩
 .leaf))) 145 ⟨.scalar,1,8,[.v .nilFunc]⟩
 (.node (.node (.node .leaf 146 ⟨.scalar,1,8,[.v .nilFunc]⟩
 .leaf) 148 ⟨.ptr 152,1,8,[.v (.pointer none)]⟩
 (.node .leaf 149 ⟨.scalar,1,8,[.v .nilFunc]⟩
 .leaf)) 150 ⟨.map 9 4,1,8,[.v (.map none)]⟩
 (.node (.node .leaf 151 ⟨.struct [(0,148),(1,150),(2,150),(3,150),(4,36)],5,56,[.v (.pointer none),.v (.map none),.v (.map none),.v (.map none),.v (.slice none 0 0)]⟩
 .leaf) 152 ⟨.struct [(0,148),(1,150),(2,150),(3,150),(4,36)],5,56,[.v (.pointer none),.v (.map none),.v (.map none),.v (.map none),.v (.slice none 0 0)]⟩
 (.node .leaf 153 ⟨.scalar,1,8,[.v .nilFunc]⟩
 .leaf)))) 154 ⟨.scalar,1,8,[.v .nilFunc]⟩
 (.node (.node (.node (.node .leaf 155 ⟨.scalar,1,8,[.v .nilFunc]⟩
 .leaf) 156 ⟨.scalar,1,8,[.v .nilFunc]⟩
 (.node .leaf 157 ⟨.scalar,1,8,[.v .nilFunc]⟩
 .leaf)) 158 ⟨.scalar,1,8,[.v .nilFunc]⟩
 (.node (.node .leaf 159 ⟨.scalar,1,8,[.v .nilFunc]⟩
 .leaf) 160 ⟨.scalar,1,8,[.v .nilFunc]⟩
 (.node .leaf 161 ⟨.scalar,1,8,[.v .nilFunc]⟩
 .leaf))) 162 ⟨.ptr 164,1,8,[.v (.pointer none)]⟩
 (.node (.node (.node .leaf 163 ⟨.struct [(0,9),(1,3)],2,24,[.v (str []),.v (.int .i64 0)]⟩
 .leaf) 164 ⟨.struct [(0,9),(1,3)],2,24,[.v (str []),.v (.int .i64 0)]⟩
 (.node .leaf 165 ⟨.struct [(0,3),(1,9),(2,3)],3,32,[.v (.int .i64 0),.v (str []),.v (.int .i64 0)]⟩
 .leaf)) 166 ⟨.struct [(0,3),(1,9),(2,3)],3,32,[.v (.int .i64 0),.v (str []),.v (.int .i64 0)]⟩
 (.node (.node .leaf 168 ⟨.scalar,1,8,[.v .nilFunc]⟩
 .leaf) 169 ⟨.scalar,1,8,[.v .nilFunc]⟩
 (.node .leaf 170 ⟨.scalar,1,8,[.v .nilFunc]⟩
 .leaf))))) 171 ⟨.struct [(0,38),(6,3),(7,4)],8,88,[.v (.int .i64 0),.v (.int .i64 0),.v (.int .i64 0),.v (.int .i64 0),.v (str []),.v (.slice none 0 0),.v (.int .i64 0),.v (.bool false)]⟩
 (.node (.node (.node (.node (.node .leaf 172 ⟨.struct [(0,38),(6,3),(7,4)],8,88,[.v (.int .i64 0),.v (.int .i64 0),.v (.int .i64 0),.v (.int .i64 0),.v (str []),.v (.slice none 0 0),.v (.int .i64 0),.v (.bool false)]⟩
 .leaf) 173 ⟨.scalar,1,8,[.v .nilFunc]⟩
 (.node .leaf 174 ⟨.scalar,1,8,[.v .nilFunc]⟩
 .leaf)) 175 ⟨.scalar,1,8,[.v .nilFunc]⟩
 (.node (.node .leaf 176 ⟨.scalar,1,8,[.v .nilFunc]⟩
 .leaf) 177 ⟨.scalar,1,8,[.v .nilFunc]⟩
 (.node .leaf 178 ⟨.int .u64,1,8,[.v (.int .u64 0)]⟩
 .leaf))) 180 ⟨.scalar,1,8,[.v .nilFunc]⟩
 (.node (.node (.node .leaf 181 ⟨.scalar,1,8,[.v .nilFunc]⟩
 .leaf) 182 ⟨.scalar,1,8,[.v .nilFunc]⟩
 (.node .leaf 183 ⟨.scalar,1,8,[.v .nilFunc]⟩
 .leaf)) 184 ⟨.scalar,1,8,[.v .nilFunc]⟩
 (.node (.node .leaf 186 ⟨.scalar,1,8,[.v .nilFunc]⟩
 .leaf) 187 ⟨.scalar,1,8,[.v .nilFunc]⟩
 (.node .leaf 188 ⟨.scalar,1,8,[.v .nilFunc]⟩
 .leaf)))) 189 ⟨.scalar,1,8,[.v .nilFunc]⟩
 (.node (.node (.node (.node .leaf 190 ⟨.scalar,1,8,[.v .nilFunc]⟩
 .leaf) 191 ⟨.scalar,1,8,[.v .nilFunc]⟩
 (.node .leaf 192 ⟨.scalar,1,8,[.v .nilFunc]⟩
 .leaf)) 193 ⟨.scalar,1,8,[.v .nilFunc]⟩
 (.node (.node .leaf 194 ⟨.slice 30,1,24,[.v (.slice none 0 0)]⟩
 .leaf) 195 ⟨.struct [(0,4),(1,4),(2,4),(3,4),(4,4)],5,5,[.v (.bool false),.v (.bool false),.v (.bool false),.v (.bool false),.v (.bool false)]⟩
 (.node .leaf 196 ⟨.struct [(0,4),(1,4),(2,4),(3,4),(4,4)],5,5,[.v (.bool false),.v (.bool false),.v (.bool false),.v (.bool false),.v (.bool false)]⟩
 .leaf))) 197 ⟨.scalar,1,8,[.v .nilFunc]⟩
 (.node (.node (.node .leaf 198 ⟨.slice 4,1,24,[.v (.slice none 0 0)]⟩
 .leaf) 199 ⟨.struct [(0,198),(1,198)],2,48,[.v (.slice none 0 0),.v (.slice none 0 0)]⟩
 (.node .leaf 200 ⟨.struct [(0,198),(1,198)],2,48,[.v (.slice none 0 0),.v (.slice none 0 0)]⟩
 .leaf)) 202 ⟨.scalar,1,8,[.v .nilFunc]⟩
 (.node (.node .leaf 203 ⟨.scalar,1,8,[.v .nilFunc]⟩
 .leaf) 204 ⟨.scalar,1,8,[.v .nilFunc]⟩
 .leaf))))) 205 ⟨.scalar,1,8,[.v .nilFunc]⟩
 (.node (.node (.node (.node (.node (.node .leaf 206 ⟨.scalar,1,8,[.v .nilFunc]⟩
 .leaf) 207 ⟨.scalar,1,8,[.v .nilFunc]⟩
 (.node .leaf 208 ⟨.scalar,1,8,[.v .nilFunc]⟩
 .leaf)) 209 ⟨.scalar,1,8,[.v .nilFunc]⟩
 (.node (.node .leaf 210 ⟨.map 9 3,1,8,[.v (.map none)]⟩
 .leaf) 211 ⟨.scalar,1,8,[.v .nilFunc]⟩
 (.node .leaf 212 ⟨.scalar,1,8,[.v .nilFunc]⟩
 .leaf))) 213 ⟨.scalar,1,8,[.v .nilFunc]⟩
 (.node (.node (.node .leaf 215 ⟨.scalar,1,8,[.v .nilFunc]⟩
 .leaf) 216 ⟨.int .u32,1,4,[.v (.int .u32 0)]⟩
 (.node .leaf 218 ⟨.scalar,1,8,[.v .nilFunc]⟩
 .leaf)) 219 ⟨.int .u64,1,8,[.v (.int .u64 0)]⟩
 (.node (.node .leaf 221 ⟨.scalar,1,8,[.v .nilFunc]⟩
 .leaf) 222 ⟨.scalar,1,8,[.v .nilFunc]⟩
 (.node .leaf 223 ⟨.scalar,1,8,[.v .nilFunc]⟩
 .leaf)))) 224 ⟨.scalar,1,8,[.v .nilFunc]⟩
 (.node (.node (.node (.node .leaf 225 ⟨.scalar,1,8,[.v .nilFunc]⟩
 .leaf) 226 ⟨.scalar,1,8,[.v .nilFunc]⟩
 (.node .leaf 227 ⟨.scalar,1,8,[.v .nilFunc]⟩
 .leaf)) 228 ⟨.scalar,1,8,[.v .nilFunc]⟩
 (.node (.node .leaf 229 ⟨.scalar,1,8,[.v .nilFunc]⟩
 .leaf) 230 ⟨.scalar,1,8,[.v .nilFunc]⟩
 (.node .leaf 231 ⟨.scalar,1,8,[.v .nilFunc]⟩
 .leaf))) 233 ⟨.scalar,1,8,[.v .nilFunc]⟩
 (.node (.node (.node .leaf 234 ⟨.scalar,1,8,[.v .nilFunc]⟩
 .leaf) 236 ⟨.scalar,1,8,[.v .nilFunc]⟩
 (.node .leaf 237 ⟨.scalar,1,8,[.v .nilFunc]⟩
 .leaf)) 238 ⟨.scalar,1,8,[.v .nilFunc]⟩
 (.node (.node .leaf 239 ⟨.scalar,1,8,[.v .nilFunc]⟩
 .leaf) 241 ⟨.scalar,1,8,[.v .nilFunc]⟩
 .leaf)))) 243 ⟨.scalar,1,8,[.v .nilFunc]⟩
 (.node (.node (.node (.node (.node .leaf 244 ⟨.scalar,1,8,[.v .nilFunc]⟩
 .leaf) 245 ⟨.scalar,1,8,[.v .nilFunc]⟩
 (.node .leaf 246 ⟨.scalar,1,8,[.v .nilFunc]⟩
 .leaf)) 247 ⟨.scalar,1,8,[.v .nilFunc]⟩
 (.node (.node .leaf 248 ⟨.scalar,1,8,[.v .nilFunc]⟩
 .leaf) 249 ⟨.array 24 5,24,24,[.v (.int .u8 0),.v (.int .u8 0),.v (.int .u8 0),.v (.int .u8 0),.v (.int .u8 0),.v (.int .u8 0),.v (.int .u8 0),.v (.int .u8 0),.v (.int .u8 0),.v (.int .u8 0),.v (.int .u8 0),.v (.int .u8 0),.v (.int .u8 0),.v (.int .u8 0),.v (.int .u8 0),.v (.int .u8 0),.v (.int .u8 0),.v (.int .u8 0),.v (.int .u8 0),.v (.int .u8 0),.v (.int .u8 0),.v (.int .u8 0),.v (.int .u8 0),.v (.int .u8 0)]⟩
 (.node .leaf 250 ⟨.scalar,1,8,[.v .nilFunc]⟩
 .leaf))) 251 ⟨.scalar,1,8,[.v .nilFunc]⟩
 (.node (.node (.node .leaf 253 ⟨.scalar,1,8,[.v .nilFunc]⟩
 .leaf) 254 ⟨.scalar,1,8,[.v .nilFunc]⟩
 (.node .leaf 255 ⟨.scalar,1,8,[.v .nilFunc]⟩
 .leaf)) 256 ⟨.array 20 219,20,160,[.v (.int .u64 0),.v (.int .u64 0),.v (.int .u64 0),.v (.int .u64 0),.v (.int .u64 0),.v (.int .u64 0),.v (.int .u64 0),.v (.int .u64 0),.v (.int .u64 0),.v (.int .u64 0),.v (.int .u64 0),.v (.int .u64 0),.v (.int .u64 0),.v (.int .u64 0),.v (.int .u64 0),.v (.int .u64 0),.v (.int .u64 0),.v (.int .u64 0),.v (.int .u64 0),.v (.int .u64 0)]⟩
 (.node (.node .leaf 257 ⟨.array 65 5,65,65,[.v (.int .u8 0),.v (.int .u8 0),.v (.int .u8 0),.v (.int .u8 0),.v (.int .u8 0),.v (.int .u8 0),.v (.int .u8 0),.v (.int .u8 0),.v (.int .u8 0),.v (.int .u8 0),.v (.int .u8 0),.v (.int .u8 0),.v (.int .u8 0),.v (.int .u8 0),.v (.int .u8 0),.v (.int .u8 0),.v (.int .u8 0),.v (.int .u8 0),.v (.int .u8 0),.v (.int .u8 0),.v (.int .u8 0),.v (.int .u8 0),.v (.int .u8 0),.v (.int .u8 0),.v (.int .u8 0),.v (.int .u8 0),.v (.int .u8 0),.v (.int .u8 0),.v (.int .u8 0),.v (.int .u8 0),.v (.int .u8 0),.v (.int .u8 0),.v (.int .u8 0),.v (.int .u8 0),.v (.int .u8 0),.v (.int .u8 0),.v (.int .u8 0),.v (.int .u8 0),.v (.int .u8 0),.v (.int .u8 0),.v (.int .u8 0),.v (.int .u8 0),.v (.int .u8 0),.v (.int .u8 0),.v (.int .u8 0),.v (.int .u8 0),.v (.int .u8 0),.v (.int .u8 0),.v (.int .u8 0),.v (.int .u8 0),.v (.int .u8 0),.v (.int .u8 0),.v (.int .u8 0),.v (.int .u8 0),.v (.int .u8 0),.v (.int .u8 0),.v (.int .u8 0),.v (.int .u8 0),.v (.int .u8 0),.v (.int .u8 0),.v (.int .u8 0),.v (.int .u8 0),.v (.int .u8 0),.v (.int .u8 0),.v (.int .u8 0)]⟩
 .leaf) 258 ⟨.scalar,1,8,[.v .nilFunc]⟩
 (.node .leaf 259 ⟨.scalar,1,8,[.v .nilFunc]⟩
 .leaf)))) 260 ⟨.scalar,1,8,[.v .nilFunc]⟩
 (.node (.node (.node (.node .leaf 261 ⟨.array 32 5,32,32,[.v (.int .u8 0),.v (.int .u8 0),.v (.int .u8 0),.v (.int .u8 0),.v (.int .u8 0),.v (.int .u8 0),.v (.int .u8 0),.v (.int .u8 0),.v (.int .u8 0),.v (.int .u8 0),.v (.int .u8 0),.v (.int .u8 0),.v (.int .u8 0),.v (.int .u8 0),.v (.int .u8 0),.v (.int .u8 0),.v (.int .u8 0),.v (.int .u8 0),.v (.int .u8 0),.v (.int .u8 0),.v (.int .u8 0),.v (.int .u8 0),.v (.int .u8 0),.v (.int .u8 0),.v (.int .u8 0),.v (.int .u8 0),.v (.int .u8 0),.v (.int .u8 0),.v (.int .u8 0),.v (.int .u8 0),.v (.int .u8 0),.v (.int .u8 0)]⟩
 .leaf) 262 ⟨.array 64 5,64,64,[.v (.int .u8 0),.v (.int .u8 0),.v (.int .u8 0),.v (.int .u8 0),.v (.int .u8 0),.v (.int .u8 0),.v (.int .u8 0),.v (.int .u8 0),.v (.int .u8 0),.v (.int .u8 0),.v (.int .u8 0),.v (.int .u8 0),.v (.int .u8 0),.v (.int .u8 0),.v (.int .u8 0),.v (.int .u8 0),.v (.int .u8 0),.v (.int .u8 0),.v (.int .u8 0),.v (.int .u8 0),.v (.int .u8 0),.v (.int .u8 0),.v (.int .u8 0),.v (.int .u8 0),.v (.int .u8 0),.v (.int .u8 0),.v (.int .u8 0),.v (.int .u8 0),.v (.int .u8 0),.v (.int .u8 0),.v (.int .u8 0),.v (.int .u8 0),.v (.int .u8 0),.v (.int .u8 0),.v (.int .u8 0),.v (.int .u8 0),.v (.int .u8 0),.v (.int .u8 0),.v (.int .u8 0),.v (.int .u8 0),.v (.int .u8 0),.v (.int .u8 0),.v (.int .u8 0),.v (.int .u8 0),.v (.int .u8 0),.v (.int .u8 0),.v (.int .u8 0),.v (.int .u8 0),.v (.int .u8 0),.v (.int .u8 0),.v (.int .u8 0),.v (.int .u8 0),.v (.int .u8 0),.v (.int .u8 0),.v (.int .u8 0),.v (.int .u8 0),.v (.int .u8 0),.v (.int .u8 0),.v (.int .u8 0),.v (.int .u8 0),.v (.int .u8 0),.v (.int .u8 0),.v (.int .u8 0),.v (.int .u8 0)]⟩
 (.node .leaf 263 ⟨.struct [(0,17),(1,17),(2,17),(3,9)],4,40,[.v (.pointer none),.v (.pointer none),.v (.pointer none),.v (str [])]⟩
 .leaf)) 264 ⟨.struct [(0,17),(1,17),(2,17),(3,9)],4,40,[.v (.pointer none),.v (.pointer none),.v (.pointer none),.v (str [])]⟩
 (.node (.node .leaf 265 ⟨.array 0 16,0,0,[]⟩
 .leaf) 266 ⟨.struct [(0,265)],0,0,[]⟩
 (.node .leaf 267 ⟨.struct [(0,265)],0,0,[]⟩
 .leaf))) 268 ⟨.int .u8,1,1,[.v (.int .u8 0)]⟩
 (.node (.node (.node .leaf 269 ⟨.int .u8,1,1,[.v (.int .u8 0)]⟩
 .leaf) 270 ⟨.scalar,1,8,[.v .nilFunc]⟩
 (.node .leaf 271 ⟨.int .i32,1,4,[.v (.int .i32 0)]⟩
 .leaf)) 272 ⟨.int .i32,1,4,[.v (.int .i32 0)]⟩
 (.node (.node .leaf 273 ⟨.struct [(0,12),(1,12),(2,216),(3,268),(4,5),(5,5),(6,269),(7,270),(8,144),(9,271),(10,272)],11,48,[.v (.int .u64 0),.v (.int .u64 0),.v (.int .u32 0),.v (.int .u8 0),.v (.int .u8 0),.v (.int .u8 0),.v (.int .u8 0),.v .nilFunc,.v (.pointer none),.v (.int .i32 0),.v (.int .i32 0)]⟩
 .leaf) 274 ⟨.struct [(0,12),(1,12),(2,216),(3,268),(4,5),(5,5),(6,269),(7,270),(8,144),(9,271),(10,272)],11,48,[.v (.int .u64 0),.v (.int .u64 0),.v (.int .u32 0),.v (.int .u8 0),.v (.int .u8 0),.v (.int .u8 0),.v (.int .u8 0),.v .nilFunc,.v (.pointer none),.v (.int .i32 0),.v (.int .i32 0)]⟩
 .leaf)))))))
theorem zaf:zaw Tryz.prog tab:=ziu (by kernel_rfl)
theorem so{f:FuncId}{fn:Func}{c:Code}{args:List SV}{H:Heap}{R:Res->Heap->Prop}(hf:Tryz.prog.funcs[f]?=some fn)(h:TR Tryz.prog fn.ntmps c (zeN 0 args) H (RetK tab fn.results.toList H.length R))
  (hn:(fn.name == "runtime.NumGoroutine")=false:=by kernel_rfl)(hb:fn.body=some c:=by exact rfl)(ha:Nat.ble args.length fn.ntmps=true:=by exact rfl):Sound Tryz.prog f args H R:=Sound.of zaf hf hn hb ha h
end Go.Proofs.YthmbhfgflijapaaGreatDoor
