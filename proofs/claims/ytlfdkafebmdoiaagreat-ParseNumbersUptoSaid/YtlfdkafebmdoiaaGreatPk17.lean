import Derived.Test.YtlfdkafebmdoiaaGreatPk14
import Derived.Test.YtlfdkafebmdoiaaGreatPk15
import Derived.Test.YtlfdkafebmdoiaaGreatPk16
set_option linter.unusedSimpArgs false
set_option linter.unusedVariables false
namespace Go.Proofs.YtlfdkafebmdoiaaGreat
open Go Go.TL
attribute [local irreducible] TR TO Then InBlock RetK Sound LoopK Kf GG ThenL
def InR(n lo:Nat){α:Type}:PR α->Prop
 | .ok _ j=>lo≤j/\j≤n
 | .er k c=>k≤n/\c≠0
theorem InR.bind{n lo lo':Nat}{α β:Type}{r:PR α}{f:α->Nat->PR β}(h:InR n lo r)(hf:∀v j,lo≤j->j≤n->InR n lo' (f v j)):InR n lo' (r.bind f):=by
 cases r with
 | ok v j=>exact hf v j h.1 h.2
 | er k c=>exact h
theorem InR.le{n lo lo':Nat}{α:Type}{r:PR α}(h:InR n lo r)(hl:lo'≤lo):InR n lo' r:=by
 cases r with
 | ok v j=>exact⟨Nat.le_trans hl h.1,h.2⟩
 | er k c=>exact h
theorem InR.ite{n lo:Nat}{α:Type}{c:Prop}[Decidable c]{a b:PR α}(ha:c->InR n lo a)(hb:¬c->InR n lo b):InR n lo (if c then a else b):=by
 split
 ·rename_i h;exact ha h
 ·rename_i h;exact hb h
section
variable {R:Rd}
theorem isAt_lt{i:Nat}{s:Str}(h:R.isAt i s=true):i<R.K.length:=by
 unfold Rd.isAt at h
 split at h
 ·rename_i t ht;exact(List.getElem?_eq_some_iff.1 ht).1
 ·cases h
theorem kind_lt{i:Nat}{k:Int}(h:R.kind i k=true):i<R.K.length:=by
 unfold Rd.kind at h
 split at h
 ·rename_i t ht;exact(List.getElem?_eq_some_iff.1 ht).1
 ·cases h
theorem must_in:∀(ss:List Str) {i:Nat},i≤R.K.length->InR R.K.length (i+ss.length) (R.must ss i)
 | [],i,h=>⟨Nat.le_refl _,h⟩
 | s::ss,i,h=>by
   unfold Rd.must
   refine InR.ite (fun hs=>(must_in ss (isAt_lt hs)).le (by simp only[List.length_cons];omega)) fun _=>⟨h,by decide⟩
theorem id_in{i:Nat}(h:i≤R.K.length):InR R.K.length (i+1) (R.id i):=by
 unfold Rd.id
 exact InR.ite (fun hs=>⟨Nat.le_refl _,kind_lt hs⟩) fun _=>⟨h,by decide⟩
theorem limR_in{n most i:Nat}(h:i≤R.K.length):InR R.K.length i (limR n most i):=by
 unfold limR
 exact InR.ite (fun _=>⟨h,by decide⟩) fun _=>⟨Nat.le_refl _,h⟩
theorem aTag_in{i:Nat}(h:i≤R.K.length):InR R.K.length (i+1) (R.aTag i):=by
 unfold Rd.aTag
 refine InR.ite (fun hs=>⟨Nat.le_refl _,isAt_lt hs⟩) fun _=>InR.ite (fun hs=>⟨Nat.le_refl _,isAt_lt hs⟩) fun _=>(id_in h).bind fun v j h1 h2=>?_
 split
 ·exact⟨h1,h2⟩
 ·exact⟨by omega,by decide⟩
theorem sampling_in{i:Nat}(h:i≤R.K.length):InR R.K.length (i+1) (R.sampling i):=by
 unfold Rd.sampling
 refine(aTag_in h).bind fun _ j h1 h2=>(must_in _ h2).bind fun _ j h3 h4=>(id_in h4).bind fun _ j h5 h6=>(must_in _ h6).bind fun _ j h7 h8=>⟨?_,h8⟩
 simp only[List.length_cons,List.length_nil]at *;omega
theorem oper_lt{n i:Nat}{o:Int}(h:R.oper n i=some o):i<R.K.length:=by
 unfold Rd.oper at h
 split at h
 ·rename_i hk
  rcases Bool.or_eq_true_iff.1 hk with hk|hk <;> exact kind_lt hk
 ·cases h
theorem ops_in{f:Nat->PR Ex}(hf:∀i,i≤R.K.length->InR R.K.length (i+1) (f i))(n:Nat):∀(m:Nat) (a:Ex) {i:Nat},i≤R.K.length->InR R.K.length i (R.ops f n m a i)
 | 0,a,i,h=>⟨Nat.le_refl _,h⟩
 | m+1,a,i,h=>by
   unfold Rd.ops
   split
   ·exact⟨Nat.le_refl _,h⟩
   ·rename_i op ho
    refine(hf _ (oper_lt ho)).bind fun b j h1 h2=>InR.ite (fun _=>⟨by omega,h2⟩) fun _=>(ops_in hf n m _ h2).le (by omega)
theorem whens_in:∀(m:Nat) (e:Ex) {i:Nat},i≤R.K.length->InR R.K.length i (R.whens m e i)
 | 0,e,i,h=>⟨Nat.le_refl _,h⟩
 | m+1,e,i,h=>by
   unfold Rd.whens
   exact InR.ite (fun hs=>(sampling_in (isAt_lt hs)).bind fun o j h1 h2=>(whens_in m _ h2).le (by omega)) fun _=>⟨Nat.le_refl _,h⟩
theorem args_in{f:Nat->PR Ex}(hf:∀i,i≤R.K.length->InR R.K.length (i+1) (f i)):∀(m:Nat) (l:List Ex) {i:Nat},i≤R.K.length->InR R.K.length i (R.args f m l i)
 | 0,l,i,h=>⟨Nat.le_refl _,h⟩
 | m+1,l,i,h=>by
   unfold Rd.args
   exact InR.ite (fun hs=>(hf _ (isAt_lt hs)).bind fun o j h1 h2=>(args_in hf m _ h2).le (by omega)) fun _=>⟨Nat.le_refl _,h⟩
theorem call_in{f g:Nat->PR Ex}(hf:∀i,i≤R.K.length->InR R.K.length (i+1) (f i))(hg:∀i,i≤R.K.length->InR R.K.length (i+1) (g i))(s:Str){i:Nat}(h:i≤R.K.length):InR R.K.length (i+1) (R.call f g s i):=by
 unfold Rd.call
 refine InR.bind (lo:=i+1) ?_ fun l j h1 h2=>InR.ite (fun hs=>(hg _ (isAt_lt hs)).bind fun a j h3 h4=>⟨by omega,h4⟩) fun _=>⟨h1,h2⟩
 refine InR.ite (fun hs=>⟨Nat.le_refl _,isAt_lt hs⟩) fun _=>(hf i h).bind fun a j h1 h2=>(args_in hf _ _ h2).bind fun l j h3 h4=>(must_in _ h4).bind fun _ j h5 h6=>⟨?_,h6⟩
 omega
theorem wanted_in{t v:Nat}{known:Bool}{i:Nat}(h:i≤R.K.length):InR R.K.length i (R.wanted t v known i):=by
 unfold Rd.wanted
 repeat' split
 all_goals first
  | exact⟨h,by decide⟩
  | exact⟨Nat.le_refl _,h⟩
theorem branch_in{f:Nat->PR Ex}(hf:∀i,i≤R.K.length->InR R.K.length (i+1) (f i)){t v:Nat}{known:Bool}{i:Nat}(h:i≤R.K.length):InR R.K.length (i+1) (R.branch f t v known i):=by
 unfold Rd.branch
 refine(must_in _ h).bind fun _ j h1 h2=>(wanted_in h2).bind fun _ _ _ _=>(aTag_in h2).bind fun tv k h3 h4=>InR.ite (fun _=>⟨h2,by decide⟩) fun _=>(must_in _ h4).bind fun _ k h5 h6=>(hf _ h6).bind fun e k h7 h8=>(must_in _ h8).bind fun _ k h9 h10=>⟨?_,h10⟩
 simp only[List.length_cons,List.length_nil]at *;omega
theorem branches_in{f:Nat->PR Ex}(hf:∀i,i≤R.K.length->InR R.K.length (i+1) (f i)){t size:Nat}:∀(m k:Nat) (l:List Ex) {i:Nat},i≤R.K.length->InR R.K.length i (R.branches f t size m k l i)
 | 0,k,l,i,h=>⟨Nat.le_refl _,h⟩
 | m+1,k,l,i,h=>by
   unfold Rd.branches
   exact InR.ite (fun _=>⟨Nat.le_refl _,h⟩) fun _=>(branch_in hf h).bind fun te j h1 h2=>(branches_in hf m _ _ h2).le (by omega)
theorem merge_in{f:Nat->PR Ex}(hf:∀i,i≤R.K.length->InR R.K.length (i+1) (f i)){i:Nat}(h:i≤R.K.length):InR R.K.length (i+1) (R.merge f i):=by
 unfold Rd.merge
 exact(id_in h).bind fun _ j h1 h2=>(branch_in hf h2).bind fun te j h3 h4=>(branches_in hf _ _ _ h4).bind fun l j h5 h6=>⟨by omega,h6⟩
theorem ident_in{f g:Nat->PR Ex}(hf:∀i,i≤R.K.length->InR R.K.length (i+1) (f i))(hg:∀i,i≤R.K.length->InR R.K.length (i+1) (g i)){i:Nat}(h:i≤R.K.length):InR R.K.length (i+1) (R.ident f g i):=by
 unfold Rd.ident
 refine(id_in h).bind fun s j h1 h2=>InR.ite (fun hs=>(call_in hf hg s (isAt_lt hs)).le (by omega)) fun _=>?_
 split <;> exact⟨h1,h2⟩
theorem neg_lt{i:Nat}(h:R.neg i=true):i+1<R.K.length:=by
 unfold Rd.neg at h
 exact kind_lt (Bool.and_eq_true_iff.1 h).2
theorem prim_in{f g:Nat->PR Ex}(hf:∀i,i≤R.K.length->InR R.K.length (i+1) (f i))(hg:∀i,i≤R.K.length->InR R.K.length (i+1) (g i)){i:Nat}(h:i≤R.K.length):InR R.K.length (i+1) (R.prim f g i):=by
 unfold Rd.prim
 refine InR.ite (fun hs=>⟨by omega,neg_lt hs⟩) fun _=>InR.ite (fun hs=>⟨isAt_lt hs,by decide⟩) fun _=>InR.ite (fun hs=>InR.ite (fun _=>⟨h,by decide⟩) fun _=>⟨Nat.le_refl _,kind_lt hs⟩) fun _=>
  InR.ite (fun hs=>⟨Nat.le_refl _,kind_lt hs⟩) fun _=>InR.ite (fun hs=>⟨Nat.le_refl _,isAt_lt hs⟩) fun _=>InR.ite (fun hs=>⟨Nat.le_refl _,isAt_lt hs⟩) fun _=>
  InR.ite (fun hs=>(hf _ (isAt_lt hs)).bind fun e j h1 h2=>(must_in _ h2).bind fun _ j h3 h4=>⟨by omega,h4⟩) fun _=>
  InR.ite (fun hs=>(hf _ (isAt_lt hs)).bind fun e j h1 h2=>(must_in _ h2).bind fun _ j h3 h4=>(hf _ h4).bind fun e j h5 h6=>(must_in _ h6).bind fun _ j h7 h8=>(hf _ h8).bind fun e j h9 h10=>⟨by omega,h10⟩) fun _=>
  InR.ite (fun hs=>(merge_in hf (isAt_lt hs)).le (by omega)) fun _=>ident_in hf hg h
theorem pF_in:∀(m:Nat) (g:G) {i:Nat},i≤R.K.length->InR R.K.length (i+1) (pF R m g i)
 | 0,g,i,h=>⟨h,by decide⟩
 | m+1,.expr,i,h=>by
   unfold pF
   refine(pF_in m _ h).bind fun a j h1 h2=>InR.ite (fun hs=>(pF_in m _ (isAt_lt hs)).bind fun b k h3 h4=>⟨by omega,h4⟩) fun _=>InR.ite (fun hs=>(pF_in m _ (isAt_lt hs)).bind fun b k h3 h4=>⟨by omega,h4⟩) fun _=>⟨h1,h2⟩
 | m+1,.level n,i,h=>by
   unfold pF
   refine InR.ite (fun _=>InR.ite (fun hs=>(pF_in m _ (isAt_lt hs)).bind fun b k h3 h4=>⟨by omega,h4⟩) fun _=>pF_in m _ h) fun _=>InR.ite (fun _=>pF_in m _ h) fun _=>(pF_in m _ h).bind fun a j h1 h2=>(ops_in (fun i hi=>pF_in m _ hi) n _ a h2).le h1
 | m+1,.unary,i,h=>by
   unfold pF
   refine InR.ite (fun hs=>(pF_in m _ (isAt_lt hs.2)).bind fun b k h3 h4=>⟨by omega,h4⟩) fun _=>InR.ite (fun hs=>(pF_in m _ (isAt_lt hs.2)).bind fun b k h3 h4=>⟨by omega,h4⟩) fun _=>(pF_in m _ h).bind fun e j h1 h2=>(whens_in _ e h2).le h1
 | m+1,.prim,i,h=>by
   unfold pF
   exact prim_in (fun i hi=>pF_in m _ hi) (fun i hi=>pF_in m _ hi) h
end
end Go.Proofs.YtlfdkafebmdoiaaGreat
namespace Go.TL
open Go
section rules
variable {P:Program}{all:Array Oper}
def allH(Q:Heap->Prop):List Heap->Prop
 | []=>True
 | H::l=>Q H/\allH Q l
theorem allH_mem{Q:Heap->Prop}:∀ {l:List Heap},allH Q l->∀H∈l,Q H
 | [],_,H,h=>by cases h
 | x::l,h,H,hm=>by
   rcases List.mem_cons.1 hm with rfl|hm
   ·exact h.1
   ·exact allH_mem h.2 H hm
def atG(c:Nat)(g:Prop)(i:Nat):Prop:=bif Nat.beq i c then g else True
def PremX(P:Program)(n:Nat)(K:TK)(c:Nat)(g:Prop)(all:Array Oper)(full:Env)(G:List Heap):Nat->List Oper->List (SV×Nat×Nat)->List Heap->Prop
 | _,[],[],_=>True
 | i,o::l,(v,lo,hi)::t,hs=>bif Nat.blt hi lo then(match hs with
    | H1::H2::hs=>(∀env,TO false P n all [o] (pickE full (slotsOf all o)++env) H1 (NKP K (atG c g i) (putE o.dst v (pickE full (slotsOf all o)++env)) H2))/\PremX P n K c g all full G (i+1) l t (H2::hs)
    | _=>False)
   else allH (fun H=>∀env,TO false P n all [o] (pickE full (slotsOf all o)++env) H (NKP K (atG c g i) (putE o.dst v (pickE full (slotsOf all o)++env)) H)) ((G.drop lo).take (hi+1-lo))/\PremX P n K c g all full G (i+1) l t hs
 | _,_,_,_=>False
abbrev efX (x:SV×Nat×Nat):Bool:=Nat.blt x.2.2 x.2.1
def effX(t:List (SV×Nat×Nat))(i:Nat):Nat:=((t.take i).filter efX).length
theorem PremX.get{n:Nat}{K:TK}{c:Nat}{g:Prop}{full:Env}{G:List Heap}:∀ {l:List Oper} {t:List (SV×Nat×Nat)} {hs:List Heap} {k:Nat},PremX P n K c g all full G k l t hs->l.length=t.length/\∀(i:Nat) o x,l[i]?=some o->t[i]?=some x->
   (efX x=false->allH (fun H=>∀env,TO false P n all [o] (pickE full (slotsOf all o)++env) H (NKP K (atG c g (k+i)) (putE o.dst x.1 (pickE full (slotsOf all o)++env)) H)) ((G.drop x.2.1).take (x.2.2+1-x.2.1)))/\
   (efX x=true->∃H1 H2,hs[effX t i]?=some H1/\hs[effX t i+1]?=some H2/\∀env,TO false P n all [o] (pickE full (slotsOf all o)++env) H1 (NKP K (atG c g (k+i)) (putE o.dst x.1 (pickE full (slotsOf all o)++env)) H2))
 | [],[],hs,k,_=>by simp
 | o::l,(v,lo,hi)::t,hs,k,h=>by
   simp only[PremX]at h
   cases hb:Nat.blt hi lo with
   | false=>
     rw[hb]at h
     obtain⟨h1,h2⟩:=h
     obtain⟨g1,g2⟩:=PremX.get h2
     refine⟨by simp[g1],fun i o' x' ho hv=>?_⟩
     cases i with
     | zero=>simp at ho hv;subst hv;subst ho;exact⟨fun _=>h1,fun e=>by rw[show efX (v,lo,hi)=Nat.blt hi lo from rfl,hb]at e;cases e⟩
     | succ i=>
       have:=g2 i o' x' (by simpa using ho) (by simpa using hv)
       have e:effX ((v,lo,hi)::t) (i+1)=effX t i:=by simp[effX,efX,hb]
       rw[e,show k+(i+1)=k+1+i by omega]
       exact this
   | true=>
     rw[hb]at h
     match hs,h with
     | H1::H2::hs,h=>
       obtain⟨h1,h2⟩:=h
       obtain⟨g1,g2⟩:=PremX.get h2
       refine⟨by simp[g1],fun i o' x' ho hv=>?_⟩
       cases i with
       | zero=>simp at ho hv;subst hv;subst ho;exact⟨fun e=>by(rw[show efX (v,lo,hi)=Nat.blt hi lo from rfl,hb]at e;cases e),fun _=>⟨H1,H2,rfl,rfl,h1⟩⟩
       | succ i=>
         have:=g2 i o' x' (by simpa using ho) (by simpa using hv)
         have e:effX ((v,lo,hi)::t) (i+1)=effX t i+1:=by simp[effX,efX,hb]
         rw[e,show k+(i+1)=k+1+i by omega]
         simpa using this
     | [],h=>exact h.elim
     | [_],h=>exact h.elim
 | [],_::_,_,_,h=>by exact h.elim
 | _::_,[],_,_,h=>by exact h.elim
def rangeX(ops:Array Oper)(t:List (Nat×Nat))(m:Nat):Bool:=
 (List.range t.length).all fun i=>match t[i]? with
   | some x=>Nat.blt x.2 x.1 || (List.range m).all fun c=>!okC ops (t.map fun x=>Nat.blt x.2 x.1) i c || (Nat.ble x.1 c && Nat.ble c x.2)
   | none=>true
theorem TR.regionX(c:Nat){g:Prop}{n:Nat}{env0 envF:Env}{H0 HF:Heap}{K:TK}{id':Nat}{l:List Oper}(t:List (SV×Nat×Nat))(hs:List Heap)(hm:P.follows .mixedOrders=true)
  (hB:(mixB l.toArray ((t.map (·.2)).map fun x=>Nat.blt x.2 x.1) && rangeX l.toArray (t.map (·.2)) hs.length)=true)(h0:hs[0]?=some H0)
  (hp:PremX P n K c g l.toArray (fullE l.toArray (t.map (·.1)) env0) hs 0 l t hs)(hc:Nat.blt c l.length=true)(hF:hs[(t.filter efX).length]?=some HF)(hE:forceL (fullE l.toArray (t.map (·.1)) env0)=some envF)(hK:g->K .normal envF HF):
  TR P n (.region id' l.toArray true) env0 H0 K:=by
 obtain⟨g1,g2⟩:=hp.get
 rw[Bool.and_eq_true]at hB
 obtain⟨hB,hR⟩:=hB
 have hfl:(t.map (·.2)).map (fun x=>Nat.blt x.2 x.1)=t.map efX:=by rw[List.map_map];rfl
 rw[hfl]at hB
 intro φ m a h1 h2 h3 h4
 have hef:∀i,((t.map efX).take i |>.filter id).length=effX t i:=by
  intro i
  unfold effX
  rw[<-List.map_take,List.filter_map,List.length_map]
  rfl
 have hall:((t.map efX).filter id).length=(t.filter efX).length:=by
  rw[List.filter_map,List.length_map];rfl
 have s0:Step m ⟨m.A,m.β,m.H,{ m.w with drawn:=m.w.drawn+1 }⟩/\HRel ⟨m.A,m.β,m.H,{ m.w with drawn:=m.w.drawn+1 }⟩:=keep_ok h2 ⟨rfl,rfl,rfl,Nat.le_refl _,fun _ _=>rfl⟩
 refine wpr_of_in (wpIn_region_any hm ?_)
 refine any_mixW [] (G:=fun i=>atG c g (0+i)) (vs:=t.map (·.1)) (fl:=t.map efX) (hs:=hs) (m0:=m) (fun t ht=>by cases ht) hB (by simp[g1]) (by simp[g1]) ?_ ?_ (by rw[hall];exact hF) (fun hG=>by
   rw[forceL_eq hE]at hK
   have:=hG c (by have:=Nat.le_of_ble_eq_true hc;simp;omega)
   unfold atG at this
   rw[Nat.zero_add,show Nat.beq c c=true from Nat.beq_refl c]at this
   exact hK this) l.toArray.size (Array.replicate l.toArray.size false)
  ⟨m.A,m.β,m.H,{ m.w with drawn:=m.w.drawn+1 }⟩ a (by simp) ?_ ?_ ?_ s0.1 s0.2 ?_ (h4.step h2 s0.1)
 ·intro i o v ho hv hb k H hk hok env
  obtain⟨x,hx,rfl⟩:∃x,t[i]?=some x/\x.1=v:=by simpa using hv
  have hb':efX x=false:=by
   rw[List.getD_eq_getElem?_getD,List.getElem?_map,hx]at hb
   simpa using hb
  have h5:=(g2 i o x (by simpa using ho) hx).1 hb'
  have hil:=(List.getElem?_eq_some_iff.1 hx).1
  have hr:=List.all_eq_true.1 hR i (by simpa using hil)
  rw[List.getElem?_map,hx]at hr
  simp only[Option.map_some]at hr
  rw[show Nat.blt x.2.2 x.2.1=false from hb',Bool.false_or]at hr
  have hkl:=(List.getElem?_eq_some_iff.1 hk).1
  have hr:=List.all_eq_true.1 hr k (by simpa using hkl)
  rw[hfl,hok,Bool.not_true,Bool.false_or,Bool.and_eq_true]at hr
  have r1:=Nat.le_of_ble_eq_true hr.1
  have r2:=Nat.le_of_ble_eq_true hr.2
  refine allH_mem h5 H ?_ env
  refine List.mem_of_getElem? (i:=k-x.2.1) ?_
  rw[List.getElem?_take,if_pos (by omega),List.getElem?_drop,show x.2.1+(k-x.2.1)=k by omega]
  exact hk
 ·intro i o v ho hv hb
  obtain⟨x,hx,rfl⟩:∃x,t[i]?=some x/\x.1=v:=by simpa using hv
  have hb':efX x=true:=by
   rw[List.getD_eq_getElem?_getD,List.getElem?_map,hx]at hb
   simpa using hb
  have:=(g2 i o x (by simpa using ho) hx).2 hb'
  rw[hef]
  exact this
 ·intro i hi
  rw[Array.getElem?_replicate]at hi
  split at hi <;> cases hi
 ·unfold unl
  have:=List.length_filter_le (fun i=>(Array.replicate l.toArray.size false)[i]? == some false) (List.range l.toArray.size)
  simpa using this
 ·refine⟨0,fun i hi=>⟨fun h=>by omega,fun h=>?_⟩,Nat.zero_le _,by rw[h0];simp[h1],fun j h=>?_⟩
  all_goals
   rw[Array.getElem?_replicate]at h
   split at h <;> cases h
 ·have:envA l.toArray (t.map (·.1)) (fun i=>(Array.replicate l.toArray.size false).getD i false) (List.range l.toArray.size)=[]:=by
   have:∀x:List Nat,envA l.toArray (t.map (·.1)) (fun i=>(Array.replicate l.toArray.size false).getD i false) x=[]:=by
    intro x
    induction x with
    | nil=>rfl
    | cons i x ih=>
      have:(Array.replicate l.toArray.size false).getD i false=false:=by
       rw[Array.getD_eq_getD_getElem?,Array.getElem?_replicate]
       split <;> rfl
      simp only[envA,this,ih]
   exact this _
  rw[this,List.nil_append]
  exact h3.step h2 s0.1
end rules
end Go.TL
namespace Go.Proofs.YtlfdkafebmdoiaaGreat
open Go Go.TL
attribute [local irreducible] TR TO Then InBlock RetK Sound LoopK Kf GG ThenL
theorem wka{G Q:Prop}(k:Q)(h:Hold Q->G:=by
  (intro k;apply Go.TL.TO.allocC2 tabOk;exact rfl;exact rfl;exact rfl;exact rfl;exact rfl;exact rfl;exact rfl;exact rfl;exact rfl;exact Nat.le_of_ble_eq_true rfl;exact k.p)):G:=h ⟨k⟩
theorem retQ{rs:List ResultVar}{env:Env}{H H1:Heap}{v:SV}{n q q' c c':Int}(h0:c'≠0)(hc:c'=c)(hq:q'=q)(hN:Nat.ble 1 H.length=true)(hb:blksUnder H.length H=true):
  RetK tab rs 1 (Err0 c v (failV n q c) H1 1) (.panic (failV n q' c')) env H:=by
 subst hc hq;exact RetK.errP h0 hN rfl hb
theorem firstI_at{α:Type}{f:α->Int}{l:List α}{k:Nat}(hk:k<l.length)(h:firstE f (l.take k)=0)(hn:f l[k]≠0):firstI f l=((k:Int),f l[k]):=by
 conv=>lhs;rw[<-List.take_append_drop k l]
 rw[firstI_append,if_pos h,List.drop_eq_getElem_cons hk,firstE,if_neg hn,if_neg hn,firstI,if_neg hn]
 simp;omega
theorem w_nod(n:Nod):(declsT n.ins).w+(declsT n.outs).w+(declsT n.locals).w+(T.sl 7 (n.eqs.map equT)).w+(T.sl 1 (n.autos.map autoT)).w+(T.sl 6 (n.assume.map exT)).w+(T.sl 6 (n.ensure.map exT)).w≤(nodT n).w:=by
 rw[show nodT n= .ag (nodC n) from rfl,w_ag];simp only[nodC,List.map_cons,List.map_nil,List.sum_cons,List.sum_nil];omega
set_option maxHeartbeats 1000000 in
theorem nodeM_sound (es:List En) (a b i:Int) (n:Nod) (hw:(nodT n).w≤1000000000):
  Sound Tryz.prog 25 [.ref 0 0,.i i,.t (.ag (nodC n))] [lookB es a b] (Err (nodeX es n).2 (.tup []) (failV i (nodeX es n).1 (nodeX es n).2) [lookB es i (-1)]):=by
 refine Sound.err rfl (fun _=>rfl) ?_
 have hwn:=w_nod n
 have l1:=w_lenM equT 7 n.eqs
 have l2:=w_lenM autoT 1 n.autos
 have l3:=w_lenM exT 6 n.assume
 have l4:=w_lenM exT 6 n.ensure
 have m1:(n.ins.map declT).length=n.ins.length:=List.length_map _
 have m2:(n.outs.map declT).length=n.outs.length:=List.length_map _
 have m3:(n.locals.map declT).length=n.locals.length:=List.length_map _
 have m4:(n.eqs.map equT).length=n.eqs.length:=List.length_map _
 have m5:(n.autos.map autoT).length=n.autos.length:=List.length_map _
 have m6:(n.assume.map exT).length=n.assume.length:=List.length_map _
 have m7:(n.ensure.map exT).length=n.ensure.length:=List.length_map _
 have hi:=identM_sound es i (-1) n.name
 have hd1:=declsM_sound es i (-1) n.ins true (by omega)
 have hd2:=declsM_sound es i (-1) n.outs true (by omega)
 have hd3:=declsM_sound es i (-1) n.locals false (by omega)
 have heq:∀(q:Int) u,u∈n.eqs->LS 49 [.t (.ag (equC u))] es i q (equE es u):=fun q u hu=>equM_sound es i q u (by have:=w_inM (f:=equT) (sz:=7) hu;omega)
 have hau:∀u,u∈n.autos->LS 50 [.t (.ag (autoC u)),.i 0] es i (-1) (autoE es 3 u):=fun u hu=>autoM_sound es i (-1) u (by have:=w_inM (f:=autoT) (sz:=1) hu;omega)
 have hex:∀u,u∈n.assume\/u∈n.ensure->wEx u≤1000000000:=fun u hu=>by
  have:=wEx_le u
  rcases hu with hu|hu
  ·have:=w_inM (f:=exT) (sz:=6) hu;omega
  ·have:=w_inM (f:=exT) (sz:=6) hu;omega
 have hz:nodeX es n=nodeX es n:=rfl
 conv at hz=>rhs;unfold nodeX headE tailE orE
 generalize nodeX es n=z at hz⊢
 unfold nodC
 clear hwn hw
 refine so Tryz.func25 ?_
 repeat' (first|refine wu ?_|exact wkc|intro hc|refine wk2 ?_ ?_|refine wm ?_|refine we hi ?_ ?_|refine we hd1 ?_ ?_|refine we hd2 ?_ ?_|refine we hd3 ?_ ?_|fail)
 all_goals first
  | ((repeat' (first|refine LoopK.panic ?_|refine wk ?_|fail));apply retQ;(first|assumption|decide);(clear hi hd1 hd2 hd3 heq hau hex;grind);(clear hi hd1 hd2 hd3 heq hau hex;grind);exact rfl;exact rfl)
  | skip
 refine TR.loopN n.eqs.length (fun k=>firstE (equE es) (n.eqs.take k)=0) (fun k=>[(0,.ref 0 0),(5,.cp [.s n.name,declsT n.ins,declsT n.outs,declsT n.locals,.sl 7 (n.eqs.map equT),.sl 1 (n.autos.map autoT),.sl 6 (n.assume.map exT),.sl 6 (n.ensure.map exT)] 0),(80,.t (.sl 7 (n.eqs.map equT))),(81,.i (n.eqs.map equT).length),(82,.i k)]) (fun k=>[lookB es i ((k:Int)-1)]) rfl (fun k hlt ha=>?_) (fun ha=>?_)
 ·have hx:=at_equ hlt
  have g1:=firstE_at (f:=(equE es)) hlt ha
  have g2:=firstE_next (f:=(equE es)) hlt ha
  have hs:=heq k _ (List.getElem_mem hlt)
  have g3:=firstI_at (f:=equE es) hlt ha
  generalize n.eqs[k]=u at*
  unfold equC at hx hs
  repeat' (first|refine wkt ?_|refine wka ?_|refine wk ?_|exact wkc|intro hc|refine wk2 ?_ ?_|refine we hs ?_ ?_|fail)
  all_goals first
   | (refine LoopK.nextN hlt (g2 hc) ?_ (by rw[show((k+1:Nat):Int)-1=k from by omega]);repeat' (first|exact trivial|refine And.intro rfl ?_|fail))
   | ((repeat' (first|refine LoopK.panic ?_|refine wk ?_|fail));apply retQ;(first|assumption|decide);(clear hs hi hd1 hd2 hd3 heq hau hex hx;grind);(clear hs hi hd1 hd2 hd3 heq hau hex hx;grind);exact rfl;exact rfl)
 have e1:=firstE_all ha
 clear hi hd1 hd2 hd3 heq
 refine wk ?_
 repeat' (first|refine wu ?_|exact wkc|intro hc|refine wk2 ?_ ?_|fail)
 refine TR.loopN n.autos.length (fun k=>firstE (autoE es 3) (n.autos.take k)=0) (fun k=>[(0,.ref 0 0),(5,.cp [.s n.name,declsT n.ins,declsT n.outs,declsT n.locals,.sl 7 (n.eqs.map equT),.sl 1 (n.autos.map autoT),.sl 6 (n.assume.map exT),.sl 6 (n.ensure.map exT)] 0),(101,.t (.sl 1 (n.autos.map autoT))),(102,.i (n.autos.map autoT).length),(103,.i k)]) (fun k=>[lookB es i (-1)]) rfl (fun k hlt ha=>?_) (fun ha=>?_)
 ·have hx:=at_auto hlt
  have g1:=firstE_at (f:=(autoE es 3)) hlt ha
  have g2:=firstE_next (f:=(autoE es 3)) hlt ha
  have hs:=hau _ (List.getElem_mem hlt)
  generalize n.autos[k]=u at*
  unfold autoC at hx hs
  repeat' (first|refine wu ?_|exact wkc|intro hc|refine wk2 ?_ ?_|refine we hs ?_ ?_|fail)
  all_goals first
   | exact LoopK.nextN hlt (g2 hc)
   | ((repeat' (first|refine LoopK.panic ?_|refine wk ?_|fail));apply retQ;(first|assumption|decide);(clear hs hau hex hx;grind);(clear hs hau hex hx;grind);exact rfl;exact rfl)
 have e2:=firstE_all ha
 clear hau
 refine wk ?_
 repeat' (first|refine wu ?_|exact wkc|intro hc|refine wk2 ?_ ?_|fail)
 refine TR.loopN n.assume.length (fun k=>firstE (exprX es) (n.assume.take k)=0) (fun k=>[(0,.ref 0 0),(5,.cp [.s n.name,declsT n.ins,declsT n.outs,declsT n.locals,.sl 7 (n.eqs.map equT),.sl 1 (n.autos.map autoT),.sl 6 (n.assume.map exT),.sl 6 (n.ensure.map exT)] 0),(112,.t (.sl 6 (n.assume.map exT))),(113,.i (n.assume.map exT).length),(114,.i k)]) (fun k=>[lookB es i (-1)]) rfl (fun k hlt ha=>?_) (fun ha=>?_)
 ·have hx:=at_exT hlt
  have g1:=firstE_at (f:=(exprX es)) hlt ha
  have g2:=firstE_next (f:=(exprX es)) hlt ha
  have hs:=exprX_sound es _ (hex _ (.inl (List.getElem_mem hlt)))
  rw[exT_eq]at hs
  generalize n.assume[k]=u at*
  unfold exC at hx hs
  have hr:=right_sound es i (-1) (exprX es u)
  generalize exprX es u=xe at*
  repeat' (first|refine wu ?_|exact wkc|intro hc|refine wk2 ?_ ?_|refine wv hs ?_|refine we hr ?_ ?_|fail)
  all_goals first
   | exact LoopK.nextN hlt (g2 hc)
   | ((repeat' (first|refine LoopK.panic ?_|refine wk ?_|fail));apply retQ;(first|assumption|decide);(clear hs hr hex hx;grind);(clear hs hr hex hx;grind);exact rfl;exact rfl)
 have e3:=firstE_all ha
 refine wk ?_
 repeat' (first|refine wu ?_|exact wkc|intro hc|refine wk2 ?_ ?_|fail)
 refine TR.loopN n.ensure.length (fun k=>firstE (exprX es) (n.ensure.take k)=0) (fun k=>[(0,.ref 0 0),(5,.cp [.s n.name,declsT n.ins,declsT n.outs,declsT n.locals,.sl 7 (n.eqs.map equT),.sl 1 (n.autos.map autoT),.sl 6 (n.assume.map exT),.sl 6 (n.ensure.map exT)] 0),(128,.t (.sl 6 (n.ensure.map exT))),(129,.i (n.ensure.map exT).length),(130,.i k)]) (fun k=>[lookB es i (-1)]) rfl (fun k hlt ha=>?_) (fun ha=>?_)
 ·have hx:=at_exT hlt
  have g1:=firstE_at (f:=(exprX es)) hlt ha
  have g2:=firstE_next (f:=(exprX es)) hlt ha
  have hs:=exprX_sound es _ (hex _ (.inr (List.getElem_mem hlt)))
  rw[exT_eq]at hs
  generalize n.ensure[k]=u at*
  unfold exC at hx hs
  have hr:=right_sound es i (-1) (exprX es u)
  generalize exprX es u=xe at*
  repeat' (first|refine wu ?_|exact wkc|intro hc|refine wk2 ?_ ?_|refine wv hs ?_|refine we hr ?_ ?_|fail)
  all_goals first
   | exact LoopK.nextN hlt (g2 hc)
   | ((repeat' (first|refine LoopK.panic ?_|refine wk ?_|fail));apply retQ;(first|assumption|decide);(clear hs hr hex hx;grind);(clear hs hr hex hx;grind);exact rfl;exact rfl)
 have e4:=firstE_all ha
 refine wk ?_
 repeat' (first|refine wu ?_|exact wkc|intro hc|refine wk2 ?_ ?_|fail)
 refine RetK.errN (vs:=[]) ?_ rfl (Le.refl _) rfl rfl rfl rfl rfl
 clear hex;grind
end Go.Proofs.YtlfdkafebmdoiaaGreat
namespace Go.TL
open Go
section rules
variable {P:Program}{n:Nat}{env:Env}{H:Heap}{K:TK}{all:Array Oper}{rest:List Oper}{tab:Tab}{q:Bool}
variable {d:Nat}{ty:TypeId}{pos:String}{aft:Array Edge}
theorem TO.assert_ok(hT:TabOk P tab){t xt:TypeId}{i:TyI}{x:Operand}{s:SV}(hd:Nat.ble (d+1) n=true)(hx:env.val x=some (.ifc t s))(ht:tab.get t=some i)(ha:i.k.agg=true)
  (k:TO q P n all rest ((d,.tup [s,.b true])::env) H K):TO q P n all (⟨some d,.typeAssert x xt t true,ty,pos,aft,none⟩::rest) env H K:=
 TO.op hd (fun m ac h1 h2 h3=>by
  have hv:=h3.val hx
  generalize hq:ac.eval x=u at hv
  cases hv with
  | ifc _ _ y hy=>
    obtain⟨dd,ti,z,g1,g2,g3,g4,g5,g6,g7,g8,g9⟩:=(hT t i ht).ex
    refine⟨.tuple #[y,.bool true],fun w' hw'=>?_,?_⟩
    ·cases hk:i.k <;> rw[hk]at ha g3 <;> simp[TK'.agg]at ha <;> cases dd <;> simp[TK'.fits]at g3 <;> simp[execOp,hq,Instr.typeAssert,run_underlying g1]
    ·refine .tup _ _ rfl fun j c z hc hz=>?_
     match j with
     | 0=>simp at hc hz;subst hc hz;exact hy
     | 1=>simp at hc hz;subst hc hz;exact .t _ _ (.v _)
     | j+2=>simp at hc) k
theorem TO.assert_nil(hT:TabOk P tab){t xt:TypeId}{i:TyI}{x:Operand}(hd:Nat.ble (d+1) n=true)(hx:env.val x=some (.t (.v .nilIface)))(ht:tab.get t=some i)(ha:i.k.agg=true)
  (k:TO q P n all rest ((d,.tup [.t (.ag i.zero),.b false])::env) H K):TO q P n all (⟨some d,.typeAssert x xt t true,ty,pos,aft,none⟩::rest) env H K:=
 TO.op hd (fun m ac h1 h2 h3=>by
  have hv:=h3.val hx
  generalize hq:ac.eval x=u at hv
  have hu:=hv.v_eq
  subst hu
  obtain⟨dd,ti,z,g1,g2,g3,g4,g5,g6,g7,g8,g9⟩:=(hT t i ht).ex
  obtain⟨cs,rfl⟩:=g8 ha
  obtain⟨z1,z2,z3⟩:=zero_rel (A:=m.A) (w:=m.w) _ _ g7
  refine⟨.tuple #[.agg cs,.bool false],fun w' hw'=>?_,?_⟩
  ·have hz:(zeroValue t).run P w'= .ok (.agg cs) w':=by simp[zeroValue,typeInfo,g2,g6]
   cases hk:i.k <;> rw[hk]at ha g3 <;> simp[TK'.agg]at ha <;> cases dd <;> simp[TK'.fits]at g3 <;> simp[execOp,hq,Instr.typeAssert,run_underlying g1,hz]
  ·refine .tup _ _ rfl fun j c z hc hz=>?_
   match j with
   | 0=>
     simp at hc hz;subst hc hz
     refine .t _ _ (.ag _ _ (by simpa [Value.cells]using z1.symm) (fun i y hy=>z2 i y (by simpa [Value.cells]using hy)) fun i c y hc hy=>z3 i c y hc (by simpa [Value.cells]using hy))
   | 1=>simp at hc hz;subst hc hz;exact .t _ _ (.v _)
   | j+2=>simp at hc) k
end rules
end Go.TL
