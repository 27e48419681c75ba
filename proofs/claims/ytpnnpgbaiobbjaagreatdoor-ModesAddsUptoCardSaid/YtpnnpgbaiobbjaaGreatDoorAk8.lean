import Derived.Lib.MinMax
import Derived.Lib.Bytealg
import Derived.Test.YtpnnpgbaiobbjaaGreatDoorProg
import Derived.Test.YtpnnpgbaiobbjaaGreatDoorAk7
set_option linter.all false
namespace Go.TL
open Go
def zaI(ops:Array Oper)(i:Nat):List Nat:=((ops[i]?).map fun o=>(o.after.toList.filter (Region.binds .any)).map (·.on)).getD []
def zrM(ops:Array Oper)(l:List Nat):List Nat:=(List.range ops.size).filter fun i=>l.contains i || l.any fun j=>(zaI ops j).contains i
def cov(ops:Array Oper):Nat->List Nat->List Nat
 | 0,l=>l
 | f+1,l=>cov ops f (zrM ops l)
def zkX(ops:Array Oper):Bool:=(List.range ops.size).all fun i=>(zaI ops i).all fun j=>Nat.blt j i
def zjT(ops:Array Oper)(k:Nat):Bool:=(List.range ops.size).all fun j=>Nat.blt j k || (List.range j).all fun i=>(cov ops 8 (zaI ops j)).contains i
def DC(ops:Array Oper)(L:Array Bool):Prop:=∀i,L[i]?=some true->∀j∈zaI ops i,L[j]?=some true
theorem gT{L:Array Bool}{i:Nat}:L.getD i false=true ↔ L[i]?=some true:=by
 rw[qbf];cases L[i]? <;> simp
theorem gF{L:Array Bool}{i:Nat}:L.getD i true=false ↔ L[i]?=some false:=by
 rw[qbf];cases L[i]? <;> simp
theorem zb2{ops:Array Oper}{L:Array Bool}(h:DC ops L):∀(f:Nat) (l:List Nat),(∀i∈l,L[i]?=some true)->∀i∈cov ops f l,L[i]?=some true
 | 0,l,hl=>hl
 | f+1,l,hl=>zb2 h f _ fun i hi=>by
   simp only[zrM,qbW,qbS,qcy,qbU]at hi
   rcases hi.2 with h1|⟨j,h1,h2⟩
   ·exact hl i h1
   ·exact h j (hl j h1) i h2
theorem za7{ops:Array Oper}{L:Array Bool}{i:Nat}(hs:L.size=ops.size):i∈Region.ready .any ops L ↔ L[i]?=some false/\∀j∈zaI ops i,L[j]?=some true:=by
 rw[mem_ready,gF]
 constructor
 ·rintro⟨h1,o,ho,h2⟩
  refine⟨h1,fun j hj=>?_⟩
  simp only[zaI,ho,qa6,qch,qa4,qbW]at hj
  obtain⟨e,⟨he,hb⟩,rfl⟩:=hj
  exact gT.1 (h2 e (by simpa using he) hb)
 ·rintro⟨h1,h2⟩
  have hi:=(qak.1 h1).1
  have ho:ops[i]?=some (ops[i]'(by omega)):=qan (by omega)
  refine⟨h1,_,ho,fun e he hb=>gT.2 (h2 _ ?_)⟩
  simp only[zaI,ho,qa6,qch,qa4,qbW]
  exact⟨e,⟨by simpa using he,hb⟩,rfl⟩
theorem least{p:Nat->Prop}[DecidablePred p]:∀n,¬p n->∃m,m≤n/\¬p m/\∀j,j<m->p j:=by
 intro n
 induction n using Nat.strongRecOn with
 | ind n ih=>
   intro h
   by_cases hx:∃j,j<n/\¬p j
   ·obtain⟨j,hj,hp⟩:=hx
    obtain⟨m,h1,h2,h3⟩:=ih j hj hp
    exact⟨m,by omega,h2,h3⟩
   ·exact⟨n,qag _,h,fun j hj=>qav fun hp=>hx ⟨j,hj,hp⟩⟩
theorem zdS{ops:Array Oper}{L:Array Bool}(hs:L.size=ops.size)(hd:zkX ops=true){n:Nat}(hn:L[n]?=some false):∃m,m≤n/\m∈Region.ready .any ops L/\∀j,j<m->L[j]?=some true:=by
 obtain⟨m,h1,h2,h3⟩:=least (p:=fun j=>L[j]?=some true) n (by rw[hn];simp)
 have hnl:=(qak.1 hn).1
 have hm:L[m]?=some false:=by
  have:L[m]?=some (L[m]'(by omega)):=qan (by omega)
  rw[this]at h2⊢
  cases h:L[m]'(by omega)
  ·rfl
  ·rw[h]at h2;exact absurd rfl h2
 refine⟨m,h1,(za7 hs).2 ⟨hm,fun j hj=>h3 j ?_⟩,h3⟩
 have:=qaB.1 hd m (by simp;omega)
 have:=qaB.1 this j hj
 simpa using this
theorem forced{ops:Array Oper}{L:Array Bool}{k j:Nat}(hs:L.size=ops.size)(hf:zjT ops k=true)(hdc:DC ops L)(hj:j∈Region.ready .any ops L)(hk:k≤j):∀i,i<j->L[i]?=some true:=by
 intro i hi
 obtain⟨h1,h2⟩:=(za7 hs).1 hj
 have hlt:=(qak.1 h1).1
 have:=qaB.1 hf j (by simp;omega)
 simp only[qbS]at this
 rcases this with h|h
 ·simp at h;omega
 ·have:=qaB.1 h i (by simpa using hi)
  exact zb2 hdc 8 _ h2 i (by simpa using this)
theorem zp2{ops:Array Oper}{L:Array Bool}{i:Nat}(hs:L.size=ops.size)(hdc:DC ops L)(hi:i∈Region.ready .any ops L):DC ops (L.setIfInBounds i true):=by
 have key:∀(j:Nat),L[j]?=some true->(L.setIfInBounds i true)[j]?=some true:=by
  intro j hj
  rw[qaL]
  have:=(qak.1 hj).1
  split
  ·rw[if_pos (by omega)]
  ·exact hj
 intro x hx j hj
 rw[qaL]at hx
 split at hx
 ·rename_i e
  subst e
  exact key j (((za7 hs).1 hi).2 j hj)
 ·exact key j (hdc x hx j hj)
section rules
variable {P:Program}{all:Array Oper}
theorem znA{F:Fence}{N:Nat}{md:Region.Mode}{Q:Exit->Act->World->Prop}:∀(f:Nat) (L:Array Bool) (a:Act) (w:World),wpAnyIn F N P md all Q f L a w->wpAnyIn F N P md all Q (f+1) L a w
 | 0,L,a,w,h=>⟨fun _=>h.2,fun i hi=>by rw[h.1]at hi;cases hi⟩
 | f+1,L,a,w,h=>⟨h.1,fun i hi=>wpOpIn_mono (fun a w h2=>znA f _ a w h2) (h.2 i hi)⟩
theorem zkx{F:Fence}{N:Nat}{md:Region.Mode}{Q:Exit->Act->World->Prop}(f:Nat)(L:Array Bool)(a:Act)(w:World)(h:wpAnyIn F N P md all Q f L a w):∀k,wpAnyIn F N P md all Q (k+f) L a w
 | 0=>by rw[qaO];exact h
 | k+1=>by rw[show k+1+f=(k+f)+1 from by omega];exact znA _ _ _ _ (zkx f L a w h k)
theorem zub{r:Option Nat}{C:World->Prop}{Q:Act->Prop}{Q':Exit->Act->World->Prop}{k n2:Nat}(hd:zkX all=true)(hf:zjT all k=true)(hp:∀(i:Nat) o,i<k->all[i]?=some o->Op.plain o.op=true)
  (hQ:∀(L:Array Bool) a w,L.size=all.size->(∀(i:Nat),i<k->i<all.size->L[i]?=some true)->(∀(i:Nat),k≤i->i<all.size->L[i]?=some false)->C w->Q a->wpAnyIn (Fr r) 0 P .any all Q' n2 L a w):
  ∀(u:Nat) (L M:Array Bool) (a:Act) (w:World),L.size=all.size->M.size=all.size->(∀(i:Nat),i<k->M[i]?=L[i]?)->(∀(i:Nat),k≤i->i<all.size->M[i]?=some true)->(∀(i:Nat),k≤i->i<all.size->L[i]?=some false)->
   DC all L->C w->wpAnyQIn (Fr r) 0 P .any all C Q u M a->wpAnyIn (Fr r) 0 P .any all Q' (u+n2) L a w:=by
 intro u
 have full:∀(L M:Array Bool),L.size=all.size->M.size=all.size->(∀(i:Nat),i<k->M[i]?=L[i]?)->(∀(i:Nat),k≤i->i<all.size->M[i]?=some true)->DC all L->Region.ready .any all M=[]->∀(i:Nat),i<k->i<all.size->L[i]?=some true:=by
  exact zwo
 induction u with
 | zero=>
   intro L M a w hL hM h1 h2 h3 hdc hC h
   rw[qaO]
   exact hQ L a w hL (full L M hL hM h1 h2 hdc h.1) h3 hC h.2
 | succ u ih=>
   intro L M a w hL hM h1 h2 h3 hdc hC h
   by_cases hr:Region.ready .any all M=[]
   ·exact zwdz
   ·
    obtain⟨x,hx⟩:=qcu _ hr
    have hx1:=((za7 hM).1 hx).1
    have hxl:=(qak.1 hx1).1
    have hxk:x<k:=qbP fun hle=>by rw[h2 x hle (by omega)]at hx1;cases hx1
    have hLx:L[x]?=some false:=by rw[<-h1 x hxk];exact hx1
    rw[show u+1+n2=(u+n2)+1 from by omega]
    refine⟨fun h0=>?_,fun i hi=>?_⟩
    ·exact zwfz
    ·have hik:i<k:=qbP fun hle=>by
      have:=forced hL hf hdc hi hle x (by omega)
      rw[this]at hLx;cases hLx
     exact zwc
theorem zpD{r:Option Nat}{Q':Exit->Act->World->Prop}{k:Nat}(hd:zkX all=true)(hf:zjT all k=true):∀(l:List Oper) (p:Nat) (L:Array Bool) (a:Act) (w:World),k≤p->(∀j,l[j]?=all[p+j]?)->L.size=all.size->
   (∀(i:Nat),i<p->i<all.size->L[i]?=some true)->(∀(i:Nat),p≤i->i<all.size->L[i]?=some false)->wpListIn (Fr r) 0 P all Q' l a w->wpAnyIn (Fr r) 0 P .any all Q' l.length L a w
 | [],p,L,a,w,hk,hl,hL,h1,h2,h=>by
   exact zwq
 | o::l,p,L,a,w,hk,hl,hL,h1,h2,h=>by
   have hpo:all[p]?=some o:=by simpa using (hl 0).symm
   have hpl:=(qak.1 hpo).1
   have hLp:=h2 p (qag _) hpl
   have hdc:DC all L:=by
    exact zwt
   refine⟨fun h0=>?_,fun i hi=>?_⟩
   ·exact zwfy
   ·have hi1:=((za7 hL).1 hi).1
    have hil:=(qak.1 hi1).1
    have hip:p≤i:=qbD fun hlt=>by rw[h1 i hlt (by omega)]at hi1;cases hi1
    have hipe:i=p:=by
     refine qav fun hne=>?_
     have:=forced hL hf hdc hi (by omega) p (by omega)
     rw[this]at hLp;cases hLp
    subst hipe
    have hnext:∀a' w',wpListIn (Fr r) 0 P all Q' l a' w'->wpAnyIn (Fr r) 0 P .any all Q' l.length (L.setIfInBounds i true) a' w':=by
     intro a' w' h'
     refine zpD hd hf l (i+1) (L.setIfInBounds i true) a' w' (by omega) (fun j=>?_) (by simpa using hL) (fun j hj hja=>?_) (fun j hj hja=>?_) h'
     ·exact zweq
     ·exact zwdl
     ·exact zwet
    exact zwbq
theorem zny{F:Fence}{N:Nat}{C:World->Prop}{md:Region.Mode}{Q:Act->Prop}(hs:Region.noSelect all=true):∀(l:List Oper) (k:Nat) (listed:Array Bool) (a:Act),(∀j,j<l.length->l[j]?=all[k+j]?)->
  Region.lexFrom md all l.length k listed=true->wpQuietIn F N P all C Q l a->wpAnyQIn F N P md all C Q l.length listed a
 | [],_,_,_,_,hB,h=>⟨by simpa [Region.lexFrom]using hB,h⟩
 | o::l,k,listed,a,hl,hB,h=>by
   have h0:all[k]?=some o:=by simpa using (hl 0 (by simp)).symm
   simp only[qam,Region.lexFrom,qaz]at hB
   obtain⟨⟨hr,hf⟩,hB'⟩:=hB
   have hst:qOpIn F N P all C k (wpQuietIn F N P all C Q l) a:=by unfold qOpIn;simp only[h0];exact h
   obtain⟨v,hy,hK⟩:=yieldsQuiet_of_qOpIn h0 hst
   exact wpAnyQIn_first h0 (Region.noSelect_spec hs) l.length listed a (Region.free_spec h0 hf) (by simpa using hr) hy
    (zny hs l (k+1) _ _ (fun j hj=>by have:=hl (j+1) (by simpa using hj);simpa [qaZ,qcP 1 j]using this) hB' hK)
def zsT(ops:Array Oper)(k:Nat):Bool:=
 Region.noSelect ops && (Nat.ble k ops.size && (zkX ops && (zjT ops k && Region.lexFrom .any ops k 0 (Array.replicate k false++Array.replicate (ops.size-k) true))))
def zaZ(P:Program)(n:Nat)(all:Array Oper)(l2:List Oper)(H:Heap)(K:TK):TK
 | .normal,env,_=>TO false P n all l2 env H K
 | _,_,_=>False
theorem TR.zru{n:Nat}{env:Env}{H:Heap}{K:TK}(k:Nat){id:Nat}{l:List Oper}(hm:P.follows .mixedOrders=true)(hB:zsT l.toArray k=true)(hp:(l.take k).all (fun o=>Op.plain o.op)=true)
  (h:TO true P n l.toArray (l.take k) env H (zaZ P n l.toArray (l.drop k) H K)):TR P n (.region id l.toArray true) env H K:=by
 simp only[zsT,qaz]at hB
 obtain⟨hB1,hB2,hB3,hB4,hB5⟩:=hB
 have hk:k≤l.length:=by simpa using qai hB2
 intro φ m a h1 h2 h3 h4
 have hq:=h φ m a h1 h2 h3 h4
 simp only at hq
 refine zbp (wpIn_region_any hm ?_)
 have hlt:(l.take k).length=k:=by simp;omega
 have:=zub (P:=P) (all:=l.toArray) (r:=φ.r) (C:=Keeps m.w) (Q:=fun a'=>∀w',Keeps m.w w'->wpListIn (Fr φ.r) 0 P l.toArray (Post φ m n K) (l.drop k) a' w')
  (Q':=Post φ m n K) (k:=k) (n2:=(l.drop k).length) hB3 hB4 (fun i o hi ho=>qaB.1 hp o (qat (i:=i) (by rw[qaW,if_pos hi];simpa using ho)))
  (fun L a' w' hL g1 g2 hC hQ=>zpD hB3 hB4 (l.drop k) k L a' w' (qag _) (fun j=>by simp) hL g1 g2 (hQ w' hC))
  k (Array.replicate l.toArray.size false) (Array.replicate k false++Array.replicate (l.toArray.size-k) true) a { m.w with drawn:=m.w.drawn+1 } (by simp) (by simp;omega)
  (fun i hi=>by
    rw[qaY (by simpa using hi),qaN,qaN,if_pos hi,if_pos (by simp;omega)])
  (fun i hi hia=>by
    rw[qa5 (by simpa using hi),qaN,if_pos (by simp at hia⊢;omega)])
  (fun i hi hia=>by rw[qaN,if_pos hia])
  (fun i hi=>by rw[qaN]at hi;split at hi <;> cases hi)
  ⟨rfl,rfl,rfl,qag _,fun _ _=>rfl⟩ ?_
 ·exact zwep
 ·exact zwg
theorem zaZ.go{n:Nat}{l2:List Oper}{env:Env}{H:Heap}{K:TK}(h:TO false P n all l2 env H K):zaZ P n all l2 H K .normal env H:=h
theorem TR.zs6{n:Nat}{env:Env}{H:Heap}{K:TK}{id:Nat}{l:List Oper}(hm:P.follows .mixedOrders=true)(hB:zsT l.toArray (l.length-1)=true)(hp:(l.take (l.length-1)).all (fun o=>Op.plain o.op)=true)
  (h:TO true P n l.toArray (l.take (l.length-1)) env H (zaZ P n l.toArray (l.drop (l.length-1)) H K)):TR P n (.region id l.toArray true) env H K:=TR.zru _ hm hB hp h
theorem TR.zs7{n:Nat}{env:Env}{H:Heap}{K:TK}{id:Nat}{l:List Oper}(hm:P.follows .mixedOrders=true)(hB:zsT l.toArray (l.length-2)=true)(hp:(l.take (l.length-2)).all (fun o=>Op.plain o.op)=true)
  (h:TO true P n l.toArray (l.take (l.length-2)) env H (zaZ P n l.toArray (l.drop (l.length-2)) H K)):TR P n (.region id l.toArray true) env H K:=TR.zru _ hm hB hp h
end rules
section rules
variable {P:Program}{n:Nat}{K:TK}
theorem zab.ziJ{env:Env}{H:Heap}{len k:Nat}{I:Nat->Prop}{E:Nat->Env}{G:Nat->Heap}(j:Nat)(hk:k<len)(hI:I (k+1))(h1:Nat.ble (G k).length j=true)(h2:Nat.ble j H.length=true)
  (hH:H.take j=G (k+1))(h3:zad j (G (k+1))=true)(h4:(E (k+1)).under j=true)
  (h0:env.sub (E (k+1)):=by repeat' (first|exact trivial|refine qaf rfl ?_|fail)):
  zab (fun k=>k≤len/\I k) (fun k=>len-k) E G k K .normal env H:=
 zab.cut j (k+1) ⟨hk,hI⟩ (by omega) h0 h1 h2 hH h3 h4
end rules
section rules
variable {P:Program}{n:Nat}{env:Env}{H:Heap}{K:TK}{all:Array Oper}{rest:List Oper}{q:Bool}
variable {d:Nat}{ty:TypeId}{pos:String}{aft:Array Edge}
theorem TO.maxi{x y:Operand}{a b:Int}{ts:Array TypeId}(hd:Nat.ble (d+1) n=true)(hx:env.val x=some (.t (.v (.int .i64 a))))(hy:env.val y=some (.t (.v (.int .i64 b))))
  (k:TO q P n all rest ((d,.t (.v (.int .i64 (max a b))))::env) H K):TO q P n all (⟨some d,.call { callee:=.builtin .max,args:=#[x,y],argTypes:=ts },ty,pos,aft,none⟩::rest) env H K:=
 TO.op hd (fun m ac h1 h2 h3=>⟨.int .i64 (max a b),fun w' hw'=>by
  simp[execOp,resolve,invoke,builtin,(h3.val hx).v_eq,(h3.val hy).v_eq,Go.Lib.run_max_ints],.t _ _ (.v _)⟩) k
theorem TO.mini{x y:Operand}{a b:Int}{ts:Array TypeId}(hd:Nat.ble (d+1) n=true)(hx:env.val x=some (.t (.v (.int .i64 a))))(hy:env.val y=some (.t (.v (.int .i64 b))))
  (k:TO q P n all rest ((d,.t (.v (.int .i64 (min a b))))::env) H K):TO q P n all (⟨some d,.call { callee:=.builtin .min,args:=#[x,y],argTypes:=ts },ty,pos,aft,none⟩::rest) env H K:=
 TO.op hd (fun m ac h1 h2 h3=>⟨.int .i64 (min a b),fun w' hw'=>by
  simp[execOp,resolve,invoke,builtin,(h3.val hx).v_eq,(h3.val hy).v_eq,Go.Lib.run_min_ints],.t _ _ (.v _)⟩) k
theorem TO.zgT{f:FuncId}{fn:Func}{x y:Operand}{ts:Array TypeId}{l:Str}{c:Int}(hd:Nat.ble (d+1) n=true)(hf:P.funcs[f]?=some fn)(hname:(fn.name == "runtime.NumGoroutine")=false)(hb:fn.body.isNone=true)(hn:Extern.findNext fn=none)
  (he:Extern.find fn=some Extern.BytealgIndexByte.indexByte)(hx:env.val x=some (.t (.v (str l))))(hy:env.val y=some (.t (.v (.int .u8 c))))(k:TO q P n all rest ((d,.t (.v (.int .i64 (Lib.indexByte l c.toNat.toUInt8))))::env) H K):
  TO q P n all (⟨some d,.call { callee:=.value (.func f),args:=#[x,y],argTypes:=ts },ty,pos,aft,none⟩::rest) env H K:=
 TO.op hd (fun m ac h1 h2 h3=>⟨.int .i64 (Lib.indexByte l c.toNat.toUInt8),fun w' hw'=>by
  have:=run_callFunc_extern hf hname hb hn he #[ac.eval x,ac.eval y] w'
  rw[(h3.val hx).v_eq,(h3.val hy).v_eq,Lib.run_indexByteString]at this
  simp only[Result.andThen]at this
  simp[execOp,resolve,eval_func,Deferred.ofValue,invoke,(h3.val hx).v_eq,(h3.val hy).v_eq,this],.t _ _ (.v _)⟩) k
end rules
theorem Sound.fresh{P:Program}{f:FuncId}{pre post:List SV}{sz:Nat}{R:Res->Heap->Prop}(h:Sound P f (pre++ .sl sz [] 0::post) [.tail 0] R):Sound P f (pre++ .t (.v (.slice none 0 0))::post) [] R:=by
 refine⟨h.1,fun m vs h1 h2 h3=>?_⟩
 obtain⟨s,hm1⟩:=zhL h2
 have hl:m.H.length=0:=by rw[h1];rfl
 refine Calls.mono (h.2 ⟨m.A,m.β++[⟨0,0,0⟩],m.H++[.tail 0],m.w⟩ vs (by simp[h1]) hm1 ⟨by simpa using h3.1,fun i c x hc hx=>?_⟩) ?_
 ·by_cases hi:i=pre.length
  ·subst hi
   simp at hc
   subst hc
   have hx':=h3.2 pre.length (.t (.v (.slice none 0 0))) x (by simp) hx
   have:=hx'.v_eq
   subst this
   have:=zj7 h2 sz
   rw[hl]at this
   exact this
  ·refine s.srel h2 (h3.2 i c x ?_ hx)
   rcases Nat.lt_or_gt_of_ne hi with h'|h'
   ·rw[qaq h']at hc⊢;exact hc
   ·rw[qax (by omega)]at hc⊢
    rw[List.getElem?_cons,if_neg (by omega)]at hc⊢
    exact hc
 ·rintro e w' ⟨m',r,g1,g2,g3,g4,g5⟩
  exact⟨m',r,g1,s.trans g2,g3,g4,g5⟩
theorem Sound.own{P:Program}{f:FuncId}{args:List SV}{sz n:Nat}{es:List T}(h:Sound P f args [] (fun r H'=>r= .ret (.sl sz es 0)/\H'=[.tail n])):Pure P f args (.t (.sl sz es)):=by
 refine⟨h.1,fun m vs h1 h2 h3=>Calls.mono (h.2 m vs h1 h2 h3) ?_⟩
 rintro e w' ⟨m',r,g1,g2,g3,g4,rfl,g5⟩
 have hb:m.β.length=0:=by rw[h2.len,h1];rfl
 obtain⟨s,hm,hs⟩:=zfm (k:=0) g3 g2 (qaK _) (by omega) rfl
 refine⟨m'.cut 0,.ret (.t (.sl sz es)),by rw[<-g1];rfl,s,hm,?_,rfl,by simp[M.cut]⟩
 cases e with
 | returned x=>exact hs _ _ rfl (Le.own _ _ _ _ _ g4)
 | _=>simp[zbO]at g4
section rules
variable {P:Program}{n:Nat}{env:Env}{H:Heap}{K:TK}{all:Array Oper}{rest:List Oper}
variable {d:Nat}{ty:TypeId}{pos:String}{aft:Array Edge}
theorem TO.zaE(N:Nat){Hc Hc1 H':Heap}{cargs:List SV}{v:SV}{f:Operand}{fid:FuncId}{caps:List SV}{args:Array Operand}{ts:Array TypeId}{vs:List SV}
  (hs:Sound P fid cargs Hc fun r H'=>r= .ret v/\H'=Hc1)(hd:Nat.ble (d+1) n=true)(hf:env.val f=some (.fn fid caps))(ha:env.vals args.toList=some vs)(hl:Les (vs++caps) cargs)
  (hN:Nat.ble N H.length=true)(hc:H.take N=Hc)(hu:unders N cargs=true)(hb:zad N Hc=true)(hv:v.under N=true)(h1:Hc1.length=N)(h2:zad N Hc1=true)
  (hH:zbx (Hc1++H.drop N)=some H')(k:TO false P n all rest ((d,v)::env) H' K):
  TO false P n all (⟨some d,.call { callee:=.value f,args:=args,argTypes:=ts },ty,pos,aft,none⟩::rest) env H K:=by
 refine TO.zgR N hs ⟨fun u G hr=>?_,fun u G hr=>?_⟩ hd hf ha hl hu (qai hN) hc hb (fun u G hr=>?_) (fun u G hr=>?_)
 ·obtain⟨h,rfl⟩:=hr;cases h;exact⟨hv,h1,h2⟩
 ·cases hr.1
 ·obtain⟨h,rfl⟩:=hr;cases h;rw[<-zaV hH];exact k
 ·cases hr.1
end rules
end Go.TL
namespace Go.Proofs.YtpnnpgbaiobbjaaGreatDoor
open Go Go.TL
def tab:Tab:=(.node (.node (.node (.node (.node (.node (.node (.node (.node .leaf 1 ⟨.scalar,1,8,[.v .nilFunc]⟩
 .leaf) 2 ⟨.int .i64,1,8,[.v (.int .i64 0)]⟩
 .leaf) 3 ⟨.int .i64,1,8,[.v (.int .i64 0)]⟩
 (.node (.node .leaf 4 ⟨.bool,1,1,[.v (.bool false)]⟩
 .leaf) 5 ⟨.int .u8,1,1,[.v (.int .u8 0)]⟩
 .leaf)) 6 ⟨.int .u8,1,1,[.v (.int .u8 0)]⟩
 (.node (.node (.node .leaf 7 ⟨.struct [(0,2),(1,3),(2,4),(3,6)],4,24,[.v (.int .i64 0),.v (.int .i64 0),.v (.bool false),.v (.int .u8 0)]⟩
 .leaf) 8 ⟨.struct [(0,2),(1,3),(2,4),(3,6)],4,24,[.v (.int .i64 0),.v (.int .i64 0),.v (.bool false),.v (.int .u8 0)]⟩
 .leaf) 9 ⟨.str,1,16,[.v (str [])]⟩
 (.node (.node .leaf 10 ⟨.str,1,16,[.v (str [])]⟩
 .leaf) 11 ⟨.str,1,16,[.v (str [])]⟩
 .leaf))) 12 ⟨.int .u64,1,8,[.v (.int .u64 0)]⟩
 (.node (.node (.node (.node .leaf 13 ⟨.struct [(0,9),(1,12)],2,24,[.v (str []),.v (.int .u64 0)]⟩
 .leaf) 14 ⟨.struct [(0,9),(1,12)],2,24,[.v (str []),.v (.int .u64 0)]⟩
 .leaf) 15 ⟨.ptr 364,1,8,[.v (.pointer none)]⟩
 (.node (.node .leaf 16 ⟨.ptr 367,1,8,[.v (.pointer none)]⟩
 .leaf) 17 ⟨.ptr 376,1,8,[.v (.pointer none)]⟩
 .leaf)) 18 ⟨.struct [(0,17)],1,8,[.v (.pointer none)]⟩
 (.node (.node (.node .leaf 19 ⟨.struct [(0,17)],1,8,[.v (.pointer none)]⟩
 .leaf) 20 ⟨.iface,1,16,[.v .nilIface]⟩
 .leaf) 21 ⟨.int .i32,1,4,[.v (.int .i32 0)]⟩
 (.node .leaf 22 ⟨.slice 45,1,24,[.v (.slice none 0 0)]⟩
 .leaf)))) 23 ⟨.slice 38,1,24,[.v (.slice none 0 0)]⟩
 (.node (.node (.node (.node (.node .leaf 24 ⟨.struct [(0,22),(1,23)],2,48,[.v (.slice none 0 0),.v (.slice none 0 0)]⟩
 .leaf) 25 ⟨.struct [(0,22),(1,23)],2,48,[.v (.slice none 0 0),.v (.slice none 0 0)]⟩
 .leaf) 26 ⟨.scalar,1,8,[.v .nilFunc]⟩
 (.node (.node .leaf 27 ⟨.scalar,1,8,[.v .nilFunc]⟩
 .leaf) 28 ⟨.int .i64,1,8,[.v (.int .i64 0)]⟩
 .leaf)) 30 ⟨.scalar,1,8,[.v .nilFunc]⟩
 (.node (.node (.node .leaf 31 ⟨.scalar,1,8,[.v .nilFunc]⟩
 .leaf) 32 ⟨.scalar,1,8,[.v .nilFunc]⟩
 .leaf) 33 ⟨.slice 51,1,24,[.v (.slice none 0 0)]⟩
 (.node .leaf 34 ⟨.slice 55,1,24,[.v (.slice none 0 0)]⟩
 .leaf))) 35 ⟨.slice 79,1,24,[.v (.slice none 0 0)]⟩
 (.node (.node (.node (.node .leaf 36 ⟨.slice 53,1,24,[.v (.slice none 0 0)]⟩
 .leaf) 37 ⟨.struct [(0,9),(1,33),(2,33),(3,33),(4,34),(5,35),(6,36),(7,36)],8,184,[.v (str []),.v (.slice none 0 0),.v (.slice none 0 0),.v (.slice none 0 0),.v (.slice none 0 0),.v (.slice none 0 0),.v (.slice none 0 0),.v (.slice none 0 0)]⟩
 .leaf) 38 ⟨.struct [(0,9),(1,33),(2,33),(3,33),(4,34),(5,35),(6,36),(7,36)],8,184,[.v (str []),.v (.slice none 0 0),.v (.slice none 0 0),.v (.slice none 0 0),.v (.slice none 0 0),.v (.slice none 0 0),.v (.slice none 0 0),.v (.slice none 0 0)]⟩
 (.node (.node .leaf 39 ⟨.scalar,1,8,[.v .nilFunc]⟩
 .leaf) 41 ⟨.scalar,1,8,[.v .nilFunc]⟩
 .leaf)) 42 ⟨.scalar,1,8,[.v .nilFunc]⟩
 (.node (.node (.node .leaf 43 ⟨.slice 9,1,24,[.v (.slice none 0 0)]⟩
 .leaf) 44 ⟨.struct [(0,9),(1,43)],2,40,[.v (str []),.v (.slice none 0 0)]⟩
 .leaf) 45 ⟨.struct [(0,9),(1,43)],2,40,[.v (str []),.v (.slice none 0 0)]⟩
 (.node .leaf 46 ⟨.scalar,1,8,[.v .nilFunc]⟩
 .leaf))))) 47 ⟨.scalar,1,8,[.v .nilFunc]⟩
 (.node (.node (.node (.node (.node (.node .leaf 48 ⟨.scalar,1,8,[.v .nilFunc]⟩
 .leaf) 49 ⟨.slice 170,1,24,[.v (.slice none 0 0)]⟩
 .leaf) 50 ⟨.struct [(0,9),(1,3),(2,49)],3,48,[.v (str []),.v (.int .i64 0),.v (.slice none 0 0)]⟩
 (.node (.node .leaf 51 ⟨.struct [(0,9),(1,3),(2,49)],3,48,[.v (str []),.v (.int .i64 0),.v (.slice none 0 0)]⟩
 .leaf) 52 ⟨.struct [(0,3),(1,3),(2,3),(3,3),(4,9),(5,36)],6,72,[.v (.int .i64 0),.v (.int .i64 0),.v (.int .i64 0),.v (.int .i64 0),.v (str []),.v (.slice none 0 0)]⟩
 .leaf)) 53 ⟨.struct [(0,3),(1,3),(2,3),(3,3),(4,9),(5,36)],6,72,[.v (.int .i64 0),.v (.int .i64 0),.v (.int .i64 0),.v (.int .i64 0),.v (str []),.v (.slice none 0 0)]⟩
 (.node (.node (.node .leaf 54 ⟨.struct [(0,43),(1,53)],7,96,[.v (.slice none 0 0),.v (.int .i64 0),.v (.int .i64 0),.v (.int .i64 0),.v (.int .i64 0),.v (str []),.v (.slice none 0 0)]⟩
 .leaf) 55 ⟨.struct [(0,43),(1,53)],7,96,[.v (.slice none 0 0),.v (.int .i64 0),.v (.int .i64 0),.v (.int .i64 0),.v (.int .i64 0),.v (str []),.v (.slice none 0 0)]⟩
 .leaf) 56 ⟨.struct [(0,3),(1,3)],2,16,[.v (.int .i64 0),.v (.int .i64 0)]⟩
 (.node (.node .leaf 57 ⟨.struct [(0,3),(1,3)],2,16,[.v (.int .i64 0),.v (.int .i64 0)]⟩
 .leaf) 59 ⟨.scalar,1,8,[.v .nilFunc]⟩
 .leaf))) 60 ⟨.ptr 65,1,8,[.v (.pointer none)]⟩
 (.node (.node (.node (.node .leaf 61 ⟨.ptr 109,1,8,[.v (.pointer none)]⟩
 .leaf) 62 ⟨.scalar,1,8,[.v .nilFunc]⟩
 .leaf) 63 ⟨.scalar,1,8,[.v .nilFunc]⟩
 (.node (.node .leaf 64 ⟨.struct [(0,61),(1,22)],2,32,[.v (.pointer none),.v (.slice none 0 0)]⟩
 .leaf) 65 ⟨.struct [(0,61),(1,22)],2,32,[.v (.pointer none),.v (.slice none 0 0)]⟩
 .leaf)) 66 ⟨.scalar,1,8,[.v .nilFunc]⟩
 (.node (.node (.node .leaf 67 ⟨.scalar,1,8,[.v .nilFunc]⟩
 .leaf) 68 ⟨.ptr 71,1,8,[.v (.pointer none)]⟩
 .leaf) 69 ⟨.scalar,1,8,[.v .nilFunc]⟩
 (.node .leaf 70 ⟨.struct [(0,25),(2,3),(3,22)],4,80,[.v (.slice none 0 0),.v (.slice none 0 0),.v (.int .i64 0),.v (.slice none 0 0)]⟩
 .leaf)))) 71 ⟨.struct [(0,25),(2,3),(3,22)],4,80,[.v (.slice none 0 0),.v (.slice none 0 0),.v (.int .i64 0),.v (.slice none 0 0)]⟩
 (.node (.node (.node (.node (.node .leaf 72 ⟨.scalar,1,8,[.v .nilFunc]⟩
 .leaf) 73 ⟨.scalar,1,8,[.v .nilFunc]⟩
 .leaf) 74 ⟨.scalar,1,8,[.v .nilFunc]⟩
 (.node (.node .leaf 75 ⟨.scalar,1,8,[.v .nilFunc]⟩
 .leaf) 76 ⟨.scalar,1,8,[.v .nilFunc]⟩
 .leaf)) 77 ⟨.slice 82,1,24,[.v (.slice none 0 0)]⟩
 (.node (.node (.node .leaf 78 ⟨.struct [(0,77)],1,24,[.v (.slice none 0 0)]⟩
 .leaf) 79 ⟨.struct [(0,77)],1,24,[.v (.slice none 0 0)]⟩
 .leaf) 80 ⟨.slice 98,1,24,[.v (.slice none 0 0)]⟩
 (.node .leaf 81 ⟨.struct [(0,9),(1,33),(2,34),(3,35),(4,80),(5,80)],6,136,[.v (str []),.v (.slice none 0 0),.v (.slice none 0 0),.v (.slice none 0 0),.v (.slice none 0 0),.v (.slice none 0 0)]⟩
 .leaf))) 82 ⟨.struct [(0,9),(1,33),(2,34),(3,35),(4,80),(5,80)],6,136,[.v (str []),.v (.slice none 0 0),.v (.slice none 0 0),.v (.slice none 0 0),.v (.slice none 0 0),.v (.slice none 0 0)]⟩
 (.node (.node (.node (.node .leaf 83 ⟨.scalar,1,8,[.v .nilFunc]⟩
 .leaf) 84 ⟨.scalar,1,8,[.v .nilFunc]⟩
 .leaf) 85 ⟨.scalar,1,8,[.v .nilFunc]⟩
 (.node (.node .leaf 86 ⟨.scalar,1,8,[.v .nilFunc]⟩
 .leaf) 87 ⟨.scalar,1,8,[.v .nilFunc]⟩
 .leaf)) 88 ⟨.map 9 4,1,8,[.v (.map none)]⟩
 (.node (.node (.node .leaf 89 ⟨.scalar,1,8,[.v .nilFunc]⟩
 .leaf) 90 ⟨.scalar,1,8,[.v .nilFunc]⟩
 .leaf) 91 ⟨.scalar,1,8,[.v .nilFunc]⟩
 (.node .leaf 92 ⟨.scalar,1,8,[.v .nilFunc]⟩
 .leaf)))))) 93 ⟨.scalar,1,8,[.v .nilFunc]⟩
 (.node (.node (.node (.node (.node (.node (.node .leaf 94 ⟨.scalar,1,8,[.v .nilFunc]⟩
 .leaf) 95 ⟨.scalar,1,8,[.v .nilFunc]⟩
 .leaf) 96 ⟨.scalar,1,8,[.v .nilFunc]⟩
 (.node (.node .leaf 97 ⟨.struct [(0,53),(6,3),(7,4)],8,88,[.v (.int .i64 0),.v (.int .i64 0),.v (.int .i64 0),.v (.int .i64 0),.v (str []),.v (.slice none 0 0),.v (.int .i64 0),.v (.bool false)]⟩
 .leaf) 98 ⟨.struct [(0,53),(6,3),(7,4)],8,88,[.v (.int .i64 0),.v (.int .i64 0),.v (.int .i64 0),.v (.int .i64 0),.v (str []),.v (.slice none 0 0),.v (.int .i64 0),.v (.bool false)]⟩
 .leaf)) 99 ⟨.scalar,1,8,[.v .nilFunc]⟩
 (.node (.node (.node .leaf 100 ⟨.struct [(0,25),(2,3),(3,33)],4,80,[.v (.slice none 0 0),.v (.slice none 0 0),.v (.int .i64 0),.v (.slice none 0 0)]⟩
 .leaf) 101 ⟨.struct [(0,25),(2,3),(3,33)],4,80,[.v (.slice none 0 0),.v (.slice none 0 0),.v (.int .i64 0),.v (.slice none 0 0)]⟩
 .leaf) 102 ⟨.scalar,1,8,[.v .nilFunc]⟩
 (.node (.node .leaf 103 ⟨.scalar,1,8,[.v .nilFunc]⟩
 .leaf) 104 ⟨.scalar,1,8,[.v .nilFunc]⟩
 .leaf))) 105 ⟨.scalar,1,8,[.v .nilFunc]⟩
 (.node (.node (.node (.node .leaf 106 ⟨.scalar,1,8,[.v .nilFunc]⟩
 .leaf) 107 ⟨.scalar,1,8,[.v .nilFunc]⟩
 .leaf) 108 ⟨.struct [(0,88),(1,107)],2,16,[.v (.map none),.v .nilFunc]⟩
 (.node (.node .leaf 109 ⟨.struct [(0,88),(1,107)],2,16,[.v (.map none),.v .nilFunc]⟩
 .leaf) 110 ⟨.scalar,1,8,[.v .nilFunc]⟩
 .leaf)) 111 ⟨.scalar,1,8,[.v .nilFunc]⟩
 (.node (.node (.node .leaf 112 ⟨.scalar,1,8,[.v .nilFunc]⟩
 .leaf) 113 ⟨.scalar,1,8,[.v .nilFunc]⟩
 .leaf) 114 ⟨.scalar,1,8,[.v .nilFunc]⟩
 (.node .leaf 115 ⟨.scalar,1,8,[.v .nilFunc]⟩
 .leaf)))) 116 ⟨.scalar,1,8,[.v .nilFunc]⟩
 (.node (.node (.node (.node (.node .leaf 117 ⟨.ptr 38,1,8,[.v (.pointer none)]⟩
 .leaf) 118 ⟨.struct [(0,57),(2,28)],3,24,[.v (.int .i64 0),.v (.int .i64 0),.v (.int .i64 0)]⟩
 .leaf) 119 ⟨.struct [(0,57),(2,28)],3,24,[.v (.int .i64 0),.v (.int .i64 0),.v (.int .i64 0)]⟩
 (.node (.node .leaf 121 ⟨.ptr 123,1,8,[.v (.pointer none)]⟩
 .leaf) 122 ⟨.struct [(0,22),(1,57)],3,40,[.v (.slice none 0 0),.v (.int .i64 0),.v (.int .i64 0)]⟩
 .leaf)) 123 ⟨.struct [(0,22),(1,57)],3,40,[.v (.slice none 0 0),.v (.int .i64 0),.v (.int .i64 0)]⟩
 (.node (.node (.node .leaf 124 ⟨.scalar,1,8,[.v .nilFunc]⟩
 .leaf) 125 ⟨.scalar,1,8,[.v .nilFunc]⟩
 .leaf) 126 ⟨.scalar,1,8,[.v .nilFunc]⟩
 (.node .leaf 127 ⟨.scalar,1,8,[.v .nilFunc]⟩
 .leaf))) 128 ⟨.scalar,1,8,[.v .nilFunc]⟩
 (.node (.node (.node (.node .leaf 129 ⟨.scalar,1,8,[.v .nilFunc]⟩
 .leaf) 130 ⟨.scalar,1,8,[.v .nilFunc]⟩
 .leaf) 131 ⟨.scalar,1,8,[.v .nilFunc]⟩
 (.node (.node .leaf 132 ⟨.scalar,1,8,[.v .nilFunc]⟩
 .leaf) 133 ⟨.scalar,1,8,[.v .nilFunc]⟩
 .leaf)) 134 ⟨.scalar,1,8,[.v .nilFunc]⟩
 (.node (.node (.node .leaf 136 ⟨.scalar,1,8,[.v .nilFunc]⟩
 .leaf) 137 ⟨.scalar,1,8,[.v .nilFunc]⟩
 .leaf) 138 ⟨.struct [(0,33),(1,34),(2,23)],3,72,[.v (.slice none 0 0),.v (.slice none 0 0),.v (.slice none 0 0)]⟩
 (.node .leaf 139 ⟨.struct [(0,33),(1,34),(2,23)],3,72,[.v (.slice none 0 0),.v (.slice none 0 0),.v (.slice none 0 0)]⟩
 .leaf))))) 140 ⟨.scalar,1,8,[.v .nilFunc]⟩
 (.node (.node (.node (.node (.node (.node .leaf 141 ⟨.scalar,1,8,[.v .nilFunc]⟩
 .leaf) 142 ⟨.scalar,1,8,[.v .nilFunc]⟩
 .leaf) 143 ⟨.scalar,1,8,[.v .nilFunc]⟩
 (.node (.node .leaf 144 ⟨.scalar,1,8,[.v .nilFunc]⟩
 .leaf) 145 ⟨.scalar,1,8,[.v .nilFunc]⟩
 .leaf)) 146 ⟨.scalar,1,8,[.v .nilFunc]⟩
 (.node (.node (.node .leaf 147 ⟨.scalar,1,8,[.v .nilFunc]⟩
 .leaf) 148 ⟨.scalar,1,8,[.v .nilFunc]⟩
 .leaf) 149 ⟨.scalar,1,8,[.v .nilFunc]⟩
 (.node (.node .leaf 150 ⟨.scalar,1,8,[.v .nilFunc]⟩
 .leaf) 151 ⟨.scalar,1,8,[.v .nilFunc]⟩
 .leaf))) 152 ⟨.scalar,1,8,[.v .nilFunc]⟩
 (.node (.node (.node (.node .leaf 153 ⟨.scalar,1,8,[.v .nilFunc]⟩
 .leaf) 154 ⟨.scalar,1,8,[.v .nilFunc]⟩
 .leaf) 155 ⟨.scalar,1,8,[.v .nilFunc]⟩
 (.node (.node .leaf 156 ⟨.struct [(0,57),(2,28)],3,24,[.v (.int .i64 0),.v (.int .i64 0),.v (.int .i64 0)]⟩
 .leaf) 157 ⟨.struct [(0,57),(2,28)],3,24,[.v (.int .i64 0),.v (.int .i64 0),.v (.int .i64 0)]⟩
 .leaf)) 159 ⟨.ptr 162,1,8,[.v (.pointer none)]⟩
 (.node (.node (.node .leaf 160 ⟨.map 165 3,1,8,[.v (.map none)]⟩
 .leaf) 161 ⟨.struct [(0,25),(2,57),(4,160)],5,72,[.v (.slice none 0 0),.v (.slice none 0 0),.v (.int .i64 0),.v (.int .i64 0),.v (.map none)]⟩
 .leaf) 162 ⟨.struct [(0,25),(2,57),(4,160)],5,72,[.v (.slice none 0 0),.v (.slice none 0 0),.v (.int .i64 0),.v (.int .i64 0),.v (.map none)]⟩
 (.node .leaf 163 ⟨.scalar,1,8,[.v .nilFunc]⟩
 .leaf)))) 164 ⟨.struct [(0,3),(1,9)],2,24,[.v (.int .i64 0),.v (str [])]⟩
 (.node (.node (.node (.node (.node .leaf 165 ⟨.struct [(0,3),(1,9)],2,24,[.v (.int .i64 0),.v (str [])]⟩
 .leaf) 166 ⟨.scalar,1,8,[.v .nilFunc]⟩
 .leaf) 167 ⟨.scalar,1,8,[.v .nilFunc]⟩
 (.node (.node .leaf 168 ⟨.scalar,1,8,[.v .nilFunc]⟩
 .leaf) 169 ⟨.struct [(0,9),(1,3),(2,3)],3,32,[.v (str []),.v (.int .i64 0),.v (.int .i64 0)]⟩
 .leaf)) 170 ⟨.struct [(0,9),(1,3),(2,3)],3,32,[.v (str []),.v (.int .i64 0),.v (.int .i64 0)]⟩
 (.node (.node (.node .leaf 171 ⟨.slice 3,1,24,[.v (.slice none 0 0)]⟩
 .leaf) 173 ⟨.scalar,1,8,[.v .nilFunc]⟩
 .leaf) 174 ⟨.scalar,1,8,[.v .nilFunc]⟩
 (.node .leaf 175 ⟨.scalar,1,8,[.v .nilFunc]⟩
 .leaf))) 176 ⟨.scalar,1,8,[.v .nilFunc]⟩
 (.node (.node (.node (.node .leaf 177 ⟨.scalar,1,8,[.v .nilFunc]⟩
 .leaf) 178 ⟨.ptr 181,1,8,[.v (.pointer none)]⟩
 .leaf) 179 ⟨.slice 43,1,24,[.v (.slice none 0 0)]⟩
 (.node (.node .leaf 180 ⟨.struct [(0,60),(1,117),(2,79),(3,3),(4,33),(5,9),(6,9),(7,179),(8,9),(9,9),(10,23),(11,179),(12,9),(13,9)],14,240,[.v (.pointer none),.v (.pointer none),.v (.slice none 0 0),.v (.int .i64 0),.v (.slice none 0 0),.v (str []),.v (str []),.v (.slice none 0 0),.v (str []),.v (str []),.v (.slice none 0 0),.v (.slice none 0 0),.v (str []),.v (str [])]⟩
 .leaf) 181 ⟨.struct [(0,60),(1,117),(2,79),(3,3),(4,33),(5,9),(6,9),(7,179),(8,9),(9,9),(10,23),(11,179),(12,9),(13,9)],14,240,[.v (.pointer none),.v (.pointer none),.v (.slice none 0 0),.v (.int .i64 0),.v (.slice none 0 0),.v (str []),.v (str []),.v (.slice none 0 0),.v (str []),.v (str []),.v (.slice none 0 0),.v (.slice none 0 0),.v (str []),.v (str [])]⟩
 .leaf)) 182 ⟨.scalar,1,8,[.v .nilFunc]⟩
 (.node (.node (.node .leaf 183 ⟨.scalar,1,8,[.v .nilFunc]⟩
 .leaf) 184 ⟨.scalar,1,8,[.v .nilFunc]⟩
 .leaf) 185 ⟨.scalar,1,8,[.v .nilFunc]⟩
 (.node .leaf 186 ⟨.scalar,1,8,[.v .nilFunc]⟩
 .leaf))))))) 187 ⟨.scalar,1,8,[.v .nilFunc]⟩
 (.node (.node (.node (.node (.node (.node (.node (.node .leaf 188 ⟨.scalar,1,8,[.v .nilFunc]⟩
 .leaf) 189 ⟨.scalar,1,8,[.v .nilFunc]⟩
 .leaf) 190 ⟨.scalar,1,8,[.v .nilFunc]⟩
 (.node (.node .leaf 191 ⟨.scalar,1,8,[.v .nilFunc]⟩
 .leaf) 192 ⟨.scalar,1,8,[.v .nilFunc]⟩
 .leaf)) 193 ⟨.scalar,1,8,[.v .nilFunc]⟩
 (.node (.node (.node .leaf 194 ⟨.scalar,1,8,[.v .nilFunc]⟩
 .leaf) 195 ⟨.scalar,1,8,[.v .nilFunc]⟩
 .leaf) 196 ⟨.scalar,1,8,[.v .nilFunc]⟩
 (.node (.node .leaf 197 ⟨.scalar,1,8,[.v .nilFunc]⟩
 .leaf) 198 ⟨.scalar,1,8,[.v .nilFunc]⟩
 .leaf))) 199 ⟨.scalar,1,8,[.v .nilFunc]⟩
 (.node (.node (.node (.node .leaf 200 ⟨.scalar,1,8,[.v .nilFunc]⟩
 .leaf) 201 ⟨.scalar,1,8,[.v .nilFunc]⟩
 .leaf) 202 ⟨.scalar,1,8,[.v .nilFunc]⟩
 (.node (.node .leaf 203 ⟨.scalar,1,8,[.v .nilFunc]⟩
 .leaf) 204 ⟨.scalar,1,8,[.v .nilFunc]⟩
 .leaf)) 205 ⟨.scalar,1,8,[.v .nilFunc]⟩
 (.node (.node (.node .leaf 206 ⟨.scalar,1,8,[.v .nilFunc]⟩
 .leaf) 207 ⟨.scalar,1,8,[.v .nilFunc]⟩
 .leaf) 208 ⟨.scalar,1,8,[.v .nilFunc]⟩
 (.node .leaf 209 ⟨.scalar,1,8,[.v .nilFunc]⟩
 .leaf)))) 210 ⟨.scalar,1,8,[.v .nilFunc]⟩
 (.node (.node (.node (.node (.node .leaf 211 ⟨.scalar,1,8,[.v .nilFunc]⟩
 .leaf) 212 ⟨.scalar,1,8,[.v .nilFunc]⟩
 .leaf) 213 ⟨.scalar,1,8,[.v .nilFunc]⟩
 (.node (.node .leaf 214 ⟨.scalar,1,8,[.v .nilFunc]⟩
 .leaf) 215 ⟨.scalar,1,8,[.v .nilFunc]⟩
 .leaf)) 216 ⟨.scalar,1,8,[.v .nilFunc]⟩
 (.node (.node (.node .leaf 217 ⟨.scalar,1,8,[.v .nilFunc]⟩
 .leaf) 218 ⟨.scalar,1,8,[.v .nilFunc]⟩
 .leaf) 219 ⟨.ptr 222,1,8,[.v (.pointer none)]⟩
 (.node .leaf 220 ⟨.scalar,1,8,[.v .nilFunc]⟩
 .leaf))) 221 ⟨.struct [(0,219),(1,88),(2,88),(3,88),(4,43)],5,56,[.v (.pointer none),.v (.map none),.v (.map none),.v (.map none),.v (.slice none 0 0)]⟩
 (.node (.node (.node (.node .leaf 222 ⟨.struct [(0,219),(1,88),(2,88),(3,88),(4,43)],5,56,[.v (.pointer none),.v (.map none),.v (.map none),.v (.map none),.v (.slice none 0 0)]⟩
 .leaf) 223 ⟨.scalar,1,8,[.v .nilFunc]⟩
 .leaf) 224 ⟨.scalar,1,8,[.v .nilFunc]⟩
 (.node (.node .leaf 225 ⟨.scalar,1,8,[.v .nilFunc]⟩
 .leaf) 226 ⟨.scalar,1,8,[.v .nilFunc]⟩
 .leaf)) 227 ⟨.slice 33,1,24,[.v (.slice none 0 0)]⟩
 (.node (.node (.node .leaf 228 ⟨.scalar,1,8,[.v .nilFunc]⟩
 .leaf) 229 ⟨.scalar,1,8,[.v .nilFunc]⟩
 .leaf) 230 ⟨.scalar,1,8,[.v .nilFunc]⟩
 (.node .leaf 231 ⟨.scalar,1,8,[.v .nilFunc]⟩
 .leaf))))) 232 ⟨.scalar,1,8,[.v .nilFunc]⟩
 (.node (.node (.node (.node (.node (.node .leaf 233 ⟨.scalar,1,8,[.v .nilFunc]⟩
 .leaf) 234 ⟨.scalar,1,8,[.v .nilFunc]⟩
 .leaf) 235 ⟨.scalar,1,8,[.v .nilFunc]⟩
 (.node (.node .leaf 236 ⟨.scalar,1,8,[.v .nilFunc]⟩
 .leaf) 237 ⟨.scalar,1,8,[.v .nilFunc]⟩
 .leaf)) 238 ⟨.scalar,1,8,[.v .nilFunc]⟩
 (.node (.node (.node .leaf 239 ⟨.scalar,1,8,[.v .nilFunc]⟩
 .leaf) 240 ⟨.scalar,1,8,[.v .nilFunc]⟩
 .leaf) 241 ⟨.scalar,1,8,[.v .nilFunc]⟩
 (.node (.node .leaf 242 ⟨.scalar,1,8,[.v .nilFunc]⟩
 .leaf) 243 ⟨.slice 245,1,24,[.v (.slice none 0 0)]⟩
 .leaf))) 244 ⟨.struct [(0,53),(6,53)],12,144,[.v (.int .i64 0),.v (.int .i64 0),.v (.int .i64 0),.v (.int .i64 0),.v (str []),.v (.slice none 0 0),.v (.int .i64 0),.v (.int .i64 0),.v (.int .i64 0),.v (.int .i64 0),.v (str []),.v (.slice none 0 0)]⟩
 (.node (.node (.node (.node .leaf 245 ⟨.struct [(0,53),(6,53)],12,144,[.v (.int .i64 0),.v (.int .i64 0),.v (.int .i64 0),.v (.int .i64 0),.v (str []),.v (.slice none 0 0),.v (.int .i64 0),.v (.int .i64 0),.v (.int .i64 0),.v (.int .i64 0),.v (str []),.v (.slice none 0 0)]⟩
 .leaf) 246 ⟨.scalar,1,8,[.v .nilFunc]⟩
 .leaf) 247 ⟨.scalar,1,8,[.v .nilFunc]⟩
 (.node (.node .leaf 248 ⟨.scalar,1,8,[.v .nilFunc]⟩
 .leaf) 249 ⟨.scalar,1,8,[.v .nilFunc]⟩
 .leaf)) 250 ⟨.scalar,1,8,[.v .nilFunc]⟩
 (.node (.node (.node .leaf 251 ⟨.scalar,1,8,[.v .nilFunc]⟩
 .leaf) 252 ⟨.scalar,1,8,[.v .nilFunc]⟩
 .leaf) 253 ⟨.scalar,1,8,[.v .nilFunc]⟩
 (.node .leaf 254 ⟨.scalar,1,8,[.v .nilFunc]⟩
 .leaf)))) 255 ⟨.scalar,1,8,[.v .nilFunc]⟩
 (.node (.node (.node (.node (.node .leaf 256 ⟨.scalar,1,8,[.v .nilFunc]⟩
 .leaf) 257 ⟨.scalar,1,8,[.v .nilFunc]⟩
 .leaf) 258 ⟨.scalar,1,8,[.v .nilFunc]⟩
 (.node (.node .leaf 259 ⟨.scalar,1,8,[.v .nilFunc]⟩
 .leaf) 260 ⟨.scalar,1,8,[.v .nilFunc]⟩
 .leaf)) 261 ⟨.scalar,1,8,[.v .nilFunc]⟩
 (.node (.node (.node .leaf 263 ⟨.scalar,1,8,[.v .nilFunc]⟩
 .leaf) 264 ⟨.scalar,1,8,[.v .nilFunc]⟩
 .leaf) 265 ⟨.struct [(0,25),(2,3),(3,43),(4,43),(5,43)],6,128,[.v (.slice none 0 0),.v (.slice none 0 0),.v (.int .i64 0),.v (.slice none 0 0),.v (.slice none 0 0),.v (.slice none 0 0)]⟩
 (.node .leaf 266 ⟨.struct [(0,25),(2,3),(3,43),(4,43),(5,43)],6,128,[.v (.slice none 0 0),.v (.slice none 0 0),.v (.int .i64 0),.v (.slice none 0 0),.v (.slice none 0 0),.v (.slice none 0 0)]⟩
 .leaf))) 267 ⟨.scalar,1,8,[.v .nilFunc]⟩
 (.node (.node (.node (.node .leaf 268 ⟨.scalar,1,8,[.v .nilFunc]⟩
 .leaf) 269 ⟨.scalar,1,8,[.v .nilFunc]⟩
 .leaf) 270 ⟨.scalar,1,8,[.v .nilFunc]⟩
 (.node (.node .leaf 271 ⟨.scalar,1,8,[.v .nilFunc]⟩
 .leaf) 272 ⟨.scalar,1,8,[.v .nilFunc]⟩
 .leaf)) 273 ⟨.scalar,1,8,[.v .nilFunc]⟩
 (.node (.node (.node .leaf 274 ⟨.scalar,1,8,[.v .nilFunc]⟩
 .leaf) 275 ⟨.scalar,1,8,[.v .nilFunc]⟩
 .leaf) 276 ⟨.scalar,1,8,[.v .nilFunc]⟩
 (.node .leaf 277 ⟨.scalar,1,8,[.v .nilFunc]⟩
 .leaf)))))) 278 ⟨.scalar,1,8,[.v .nilFunc]⟩
 (.node (.node (.node (.node (.node (.node (.node .leaf 279 ⟨.scalar,1,8,[.v .nilFunc]⟩
 .leaf) 280 ⟨.scalar,1,8,[.v .nilFunc]⟩
 .leaf) 281 ⟨.scalar,1,8,[.v .nilFunc]⟩
 (.node (.node .leaf 282 ⟨.slice 36,1,24,[.v (.slice none 0 0)]⟩
 .leaf) 283 ⟨.scalar,1,8,[.v .nilFunc]⟩
 .leaf)) 284 ⟨.array 24 5,24,24,[.v (.int .u8 0),.v (.int .u8 0),.v (.int .u8 0),.v (.int .u8 0),.v (.int .u8 0),.v (.int .u8 0),.v (.int .u8 0),.v (.int .u8 0),.v (.int .u8 0),.v (.int .u8 0),.v (.int .u8 0),.v (.int .u8 0),.v (.int .u8 0),.v (.int .u8 0),.v (.int .u8 0),.v (.int .u8 0),.v (.int .u8 0),.v (.int .u8 0),.v (.int .u8 0),.v (.int .u8 0),.v (.int .u8 0),.v (.int .u8 0),.v (.int .u8 0),.v (.int .u8 0)]⟩
 (.node (.node (.node .leaf 285 ⟨.int .u64,1,8,[.v (.int .u64 0)]⟩
 .leaf) 286 ⟨.scalar,1,8,[.v .nilFunc]⟩
 .leaf) 287 ⟨.scalar,1,8,[.v .nilFunc]⟩
 (.node (.node .leaf 288 ⟨.slice 5,1,24,[.v (.slice none 0 0)]⟩
 .leaf) 290 ⟨.scalar,1,8,[.v .nilFunc]⟩
 .leaf))) 291 ⟨.scalar,1,8,[.v .nilFunc]⟩
 (.node (.node (.node (.node .leaf 292 ⟨.scalar,1,8,[.v .nilFunc]⟩
 .leaf) 293 ⟨.scalar,1,8,[.v .nilFunc]⟩
 .leaf) 294 ⟨.scalar,1,8,[.v .nilFunc]⟩
 (.node (.node .leaf 296 ⟨.scalar,1,8,[.v .nilFunc]⟩
 .leaf) 297 ⟨.scalar,1,8,[.v .nilFunc]⟩
 .leaf)) 298 ⟨.scalar,1,8,[.v .nilFunc]⟩
 (.node (.node (.node .leaf 299 ⟨.scalar,1,8,[.v .nilFunc]⟩
 .leaf) 300 ⟨.scalar,1,8,[.v .nilFunc]⟩
 .leaf) 301 ⟨.scalar,1,8,[.v .nilFunc]⟩
 (.node .leaf 302 ⟨.scalar,1,8,[.v .nilFunc]⟩
 .leaf)))) 304 ⟨.scalar,1,8,[.v .nilFunc]⟩
 (.node (.node (.node (.node (.node .leaf 305 ⟨.scalar,1,8,[.v .nilFunc]⟩
 .leaf) 306 ⟨.scalar,1,8,[.v .nilFunc]⟩
 .leaf) 307 ⟨.scalar,1,8,[.v .nilFunc]⟩
 (.node (.node .leaf 309 ⟨.scalar,1,8,[.v .nilFunc]⟩
 .leaf) 310 ⟨.scalar,1,8,[.v .nilFunc]⟩
 .leaf)) 311 ⟨.scalar,1,8,[.v .nilFunc]⟩
 (.node (.node (.node .leaf 312 ⟨.scalar,1,8,[.v .nilFunc]⟩
 .leaf) 313 ⟨.scalar,1,8,[.v .nilFunc]⟩
 .leaf) 314 ⟨.scalar,1,8,[.v .nilFunc]⟩
 (.node .leaf 315 ⟨.slice 80,1,24,[.v (.slice none 0 0)]⟩
 .leaf))) 316 ⟨.scalar,1,8,[.v .nilFunc]⟩
 (.node (.node (.node (.node .leaf 317 ⟨.scalar,1,8,[.v .nilFunc]⟩
 .leaf) 318 ⟨.array 20 285,20,160,[.v (.int .u64 0),.v (.int .u64 0),.v (.int .u64 0),.v (.int .u64 0),.v (.int .u64 0),.v (.int .u64 0),.v (.int .u64 0),.v (.int .u64 0),.v (.int .u64 0),.v (.int .u64 0),.v (.int .u64 0),.v (.int .u64 0),.v (.int .u64 0),.v (.int .u64 0),.v (.int .u64 0),.v (.int .u64 0),.v (.int .u64 0),.v (.int .u64 0),.v (.int .u64 0),.v (.int .u64 0)]⟩
 .leaf) 319 ⟨.int .u32,1,4,[.v (.int .u32 0)]⟩
 (.node (.node .leaf 320 ⟨.array 65 5,65,65,[.v (.int .u8 0),.v (.int .u8 0),.v (.int .u8 0),.v (.int .u8 0),.v (.int .u8 0),.v (.int .u8 0),.v (.int .u8 0),.v (.int .u8 0),.v (.int .u8 0),.v (.int .u8 0),.v (.int .u8 0),.v (.int .u8 0),.v (.int .u8 0),.v (.int .u8 0),.v (.int .u8 0),.v (.int .u8 0),.v (.int .u8 0),.v (.int .u8 0),.v (.int .u8 0),.v (.int .u8 0),.v (.int .u8 0),.v (.int .u8 0),.v (.int .u8 0),.v (.int .u8 0),.v (.int .u8 0),.v (.int .u8 0),.v (.int .u8 0),.v (.int .u8 0),.v (.int .u8 0),.v (.int .u8 0),.v (.int .u8 0),.v (.int .u8 0),.v (.int .u8 0),.v (.int .u8 0),.v (.int .u8 0),.v (.int .u8 0),.v (.int .u8 0),.v (.int .u8 0),.v (.int .u8 0),.v (.int .u8 0),.v (.int .u8 0),.v (.int .u8 0),.v (.int .u8 0),.v (.int .u8 0),.v (.int .u8 0),.v (.int .u8 0),.v (.int .u8 0),.v (.int .u8 0),.v (.int .u8 0),.v (.int .u8 0),.v (.int .u8 0),.v (.int .u8 0),.v (.int .u8 0),.v (.int .u8 0),.v (.int .u8 0),.v (.int .u8 0),.v (.int .u8 0),.v (.int .u8 0),.v (.int .u8 0),.v (.int .u8 0),.v (.int .u8 0),.v (.int .u8 0),.v (.int .u8 0),.v (.int .u8 0),.v (.int .u8 0)]⟩
 .leaf) 321 ⟨.int .u64,1,8,[.v (.int .u64 0)]⟩
 .leaf)) 322 ⟨.scalar,1,8,[.v .nilFunc]⟩
 (.node (.node (.node .leaf 323 ⟨.scalar,1,8,[.v .nilFunc]⟩
 .leaf) 324 ⟨.scalar,1,8,[.v .nilFunc]⟩
 .leaf) 325 ⟨.scalar,1,8,[.v .nilFunc]⟩
 (.node .leaf 326 ⟨.scalar,1,8,[.v .nilFunc]⟩
 .leaf))))) 327 ⟨.scalar,1,8,[.v .nilFunc]⟩
 (.node (.node (.node (.node (.node (.node .leaf 328 ⟨.scalar,1,8,[.v .nilFunc]⟩
 .leaf) 329 ⟨.struct [(0,4),(1,4),(2,4),(3,4),(4,4)],5,5,[.v (.bool false),.v (.bool false),.v (.bool false),.v (.bool false),.v (.bool false)]⟩
 .leaf) 330 ⟨.struct [(0,4),(1,4),(2,4),(3,4),(4,4)],5,5,[.v (.bool false),.v (.bool false),.v (.bool false),.v (.bool false),.v (.bool false)]⟩
 (.node (.node .leaf 331 ⟨.scalar,1,8,[.v .nilFunc]⟩
 .leaf) 332 ⟨.slice 4,1,24,[.v (.slice none 0 0)]⟩
 .leaf)) 333 ⟨.struct [(0,332),(1,332)],2,48,[.v (.slice none 0 0),.v (.slice none 0 0)]⟩
 (.node (.node (.node .leaf 334 ⟨.struct [(0,332),(1,332)],2,48,[.v (.slice none 0 0),.v (.slice none 0 0)]⟩
 .leaf) 336 ⟨.scalar,1,8,[.v .nilFunc]⟩
 .leaf) 337 ⟨.scalar,1,8,[.v .nilFunc]⟩
 (.node (.node .leaf 338 ⟨.scalar,1,8,[.v .nilFunc]⟩
 .leaf) 339 ⟨.scalar,1,8,[.v .nilFunc]⟩
 .leaf))) 340 ⟨.scalar,1,8,[.v .nilFunc]⟩
 (.node (.node (.node (.node .leaf 341 ⟨.scalar,1,8,[.v .nilFunc]⟩
 .leaf) 342 ⟨.scalar,1,8,[.v .nilFunc]⟩
 .leaf) 343 ⟨.scalar,1,8,[.v .nilFunc]⟩
 (.node (.node .leaf 345 ⟨.scalar,1,8,[.v .nilFunc]⟩
 .leaf) 347 ⟨.scalar,1,8,[.v .nilFunc]⟩
 .leaf)) 349 ⟨.scalar,1,8,[.v .nilFunc]⟩
 (.node (.node (.node .leaf 350 ⟨.scalar,1,8,[.v .nilFunc]⟩
 .leaf) 351 ⟨.scalar,1,8,[.v .nilFunc]⟩
 .leaf) 352 ⟨.scalar,1,8,[.v .nilFunc]⟩
 (.node .leaf 353 ⟨.scalar,1,8,[.v .nilFunc]⟩
 .leaf)))) 354 ⟨.array 32 5,32,32,[.v (.int .u8 0),.v (.int .u8 0),.v (.int .u8 0),.v (.int .u8 0),.v (.int .u8 0),.v (.int .u8 0),.v (.int .u8 0),.v (.int .u8 0),.v (.int .u8 0),.v (.int .u8 0),.v (.int .u8 0),.v (.int .u8 0),.v (.int .u8 0),.v (.int .u8 0),.v (.int .u8 0),.v (.int .u8 0),.v (.int .u8 0),.v (.int .u8 0),.v (.int .u8 0),.v (.int .u8 0),.v (.int .u8 0),.v (.int .u8 0),.v (.int .u8 0),.v (.int .u8 0),.v (.int .u8 0),.v (.int .u8 0),.v (.int .u8 0),.v (.int .u8 0),.v (.int .u8 0),.v (.int .u8 0),.v (.int .u8 0),.v (.int .u8 0)]⟩
 (.node (.node (.node (.node (.node .leaf 355 ⟨.array 64 5,64,64,[.v (.int .u8 0),.v (.int .u8 0),.v (.int .u8 0),.v (.int .u8 0),.v (.int .u8 0),.v (.int .u8 0),.v (.int .u8 0),.v (.int .u8 0),.v (.int .u8 0),.v (.int .u8 0),.v (.int .u8 0),.v (.int .u8 0),.v (.int .u8 0),.v (.int .u8 0),.v (.int .u8 0),.v (.int .u8 0),.v (.int .u8 0),.v (.int .u8 0),.v (.int .u8 0),.v (.int .u8 0),.v (.int .u8 0),.v (.int .u8 0),.v (.int .u8 0),.v (.int .u8 0),.v (.int .u8 0),.v (.int .u8 0),.v (.int .u8 0),.v (.int .u8 0),.v (.int .u8 0),.v (.int .u8 0),.v (.int .u8 0),.v (.int .u8 0),.v (.int .u8 0),.v (.int .u8 0),.v (.int .u8 0),.v (.int .u8 0),.v (.int .u8 0),.v (.int .u8 0),.v (.int .u8 0),.v (.int .u8 0),.v (.int .u8 0),.v (.int .u8 0),.v (.int .u8 0),.v (.int .u8 0),.v (.int .u8 0),.v (.int .u8 0),.v (.int .u8 0),.v (.int .u8 0),.v (.int .u8 0),.v (.int .u8 0),.v (.int .u8 0),.v (.int .u8 0),.v (.int .u8 0),.v (.int .u8 0),.v (.int .u8 0),.v (.int .u8 0),.v (.int .u8 0),.v (.int .u8 0),.v (.int .u8 0),.v (.int .u8 0),.v (.int .u8 0),.v (.int .u8 0),.v (.int .u8 0),.v (.int .u8 0)]⟩
 .leaf) 356 ⟨.scalar,1,8,[.v .nilFunc]⟩
 .leaf) 357 ⟨.scalar,1,8,[.v .nilFunc]⟩
 (.node (.node .leaf 358 ⟨.scalar,1,8,[.v .nilFunc]⟩
 .leaf) 359 ⟨.scalar,1,8,[.v .nilFunc]⟩
 .leaf)) 361 ⟨.scalar,1,8,[.v .nilFunc]⟩
 (.node (.node (.node .leaf 362 ⟨.scalar,1,8,[.v .nilFunc]⟩
 .leaf) 363 ⟨.struct [(0,17),(1,17),(2,17),(3,9)],4,40,[.v (.pointer none),.v (.pointer none),.v (.pointer none),.v (str [])]⟩
 .leaf) 364 ⟨.struct [(0,17),(1,17),(2,17),(3,9)],4,40,[.v (.pointer none),.v (.pointer none),.v (.pointer none),.v (str [])]⟩
 (.node .leaf 365 ⟨.array 0 16,0,0,[]⟩
 .leaf))) 366 ⟨.struct [(0,365)],0,0,[]⟩
 (.node (.node (.node (.node .leaf 367 ⟨.struct [(0,365)],0,0,[]⟩
 .leaf) 368 ⟨.scalar,1,8,[.v .nilFunc]⟩
 .leaf) 369 ⟨.int .u8,1,1,[.v (.int .u8 0)]⟩
 (.node (.node .leaf 370 ⟨.int .u8,1,1,[.v (.int .u8 0)]⟩
 .leaf) 371 ⟨.scalar,1,8,[.v .nilFunc]⟩
 .leaf)) 372 ⟨.ptr 5,1,8,[.v (.pointer none)]⟩
 (.node (.node (.node .leaf 373 ⟨.int .i32,1,4,[.v (.int .i32 0)]⟩
 .leaf) 374 ⟨.int .i32,1,4,[.v (.int .i32 0)]⟩
 .leaf) 375 ⟨.struct [(0,12),(1,12),(2,319),(3,369),(4,5),(5,5),(6,370),(7,371),(8,372),(9,373),(10,374)],11,48,[.v (.int .u64 0),.v (.int .u64 0),.v (.int .u32 0),.v (.int .u8 0),.v (.int .u8 0),.v (.int .u8 0),.v (.int .u8 0),.v .nilFunc,.v (.pointer none),.v (.int .i32 0),.v (.int .i32 0)]⟩
 (.node .leaf 376 ⟨.struct [(0,12),(1,12),(2,319),(3,369),(4,5),(5,5),(6,370),(7,371),(8,372),(9,373),(10,374)],11,48,[.v (.int .u64 0),.v (.int .u64 0),.v (.int .u32 0),.v (.int .u8 0),.v (.int .u8 0),.v (.int .u8 0),.v (.int .u8 0),.v .nilFunc,.v (.pointer none),.v (.int .i32 0),.v (.int .i32 0)]⟩
 .leaf))))))))
theorem zag:zaA Tryz.prog tab:=ziQ (by kernel_rfl)
theorem so{f:FuncId}{fn:Func}{c:Code}{args:List SV}{H:Heap}{R:Res->Heap->Prop}(hf:Tryz.prog.funcs[f]?=some fn)(h:TR Tryz.prog fn.ntmps c (zeU 0 args) H (RetK tab fn.results.toList H.length R))
  (hn:(fn.name == "runtime.NumGoroutine")=false:=by kernel_rfl)(hb:fn.body=some c:=by exact rfl)(ha:Nat.ble args.length fn.ntmps=true:=by exact rfl):Sound Tryz.prog f args H R:=Sound.of zag hf hn hb ha h
end Go.Proofs.YtpnnpgbaiobbjaaGreatDoor
