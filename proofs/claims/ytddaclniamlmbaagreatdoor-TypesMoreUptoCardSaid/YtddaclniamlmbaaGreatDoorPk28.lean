import Derived.Test.YtddaclniamlmbaaGreatDoorPk11
import Derived.Test.YtddaclniamlmbaaGreatDoorPk18
import Derived.Test.YtddaclniamlmbaaGreatDoorPk19
import Derived.Test.YtddaclniamlmbaaGreatDoorPk20
import Derived.Test.YtddaclniamlmbaaGreatDoorPk21
import Derived.Test.YtddaclniamlmbaaGreatDoorPk25
import Derived.Test.YtddaclniamlmbaaGreatDoorPk27
set_option linter.unusedSimpArgs false
set_option linter.unusedVariables false
namespace Go.TL
open Go
section rules
variable {P:Program}{n:Nat}{env:Env}{H:Heap}{K:TK}{all:Array Oper}
theorem TO.forget{ops:List Oper}(id j:Nat){cs:List SV}{sz tid:Nat}{es:List T}{H':Heap}(hH:H[id]?=some (.cells cs))(hi:cs[j]?=some (.sl sz es tid))(hH':H.set id (.cells (cs.set j (.t (.sl sz es))))=H')
  (k:TO false P n all ops env H' K):TO false P n all ops env H K:=by
 intro φ m a h1 h2 h3 h4
 have hid:=(List.getElem?_eq_some_iff.1 hH).1
 have hjl:=(List.getElem?_eq_some_iff.1 hi).1
 have hH1:m.H[id]?=some (.cells cs):=by rw[h1];exact hH
 obtain⟨p,hp⟩:∃p,m.β[id]?=some p:=⟨_,List.getElem?_eq_getElem (by rw[h2.len,h1];exact hid)⟩
 obtain⟨b1,b2,b3⟩:=h2.blk id p _ hp hH1
 obtain⟨s,hm⟩:=upd (m:=m) h2 (cs':=cs.set j (.t (.sl sz es))) (w':=m.w) hp hH1 rfl rfl rfl rfl (fun _ _=>rfl) (fun _ _=>rfl) (fun _=>rfl) (fun _=>rfl) (fun _ h=>h) (by simpa using b1) (by omega) (fun q c hc=>by
  by_cases hq:q=j
  ·subst hq
   rw[List.getElem?_set_self hjl]at hc
   cases hc
   obtain⟨y,hy1,hy0,hy2⟩:=b3 q _ hi
   refine⟨_,hy1,hy0,?_⟩
   cases hy2 with
   | sl _ _ _ _ p h hp ho=>exact .t _ _ h
  ·rw[List.getElem?_set_ne (by omega)]at hc
   exact b3 q c hc)
 refine TO.step' (m':=⟨m.A,m.β,m.H.set id (.cells (cs.set j (.t (.sl sz es)))),m.w⟩) s (k φ ⟨m.A,m.β,m.H.set id (.cells (cs.set j (.t (.sl sz es)))),m.w⟩ a ?_ hm (h3.step h2 s) h4)
 rw[<-hH',<-h1]
end rules
section rules
variable {P:Program}{n:Nat}{env:Env}{H:Heap}{K:TK}{tab:Tab}{q:Bool}{all:Array Oper}{rest:List Oper}{d:Nat}{ty:TypeId}{pos:String}{aft:Array Edge}
theorem TO.lessT{ops:List Oper}{v v':SV}(hl:Le v v')(k:TO q P n all ops ((d,v')::env) H K):TO q P n all ops ((d,v)::env) H K:=by
 intro φ m a h1 h2 h3 h4
 refine k φ m a h1 h2 ⟨h3.1,fun j w hw=>?_⟩ h4
 by_cases hj:d=j
 ·subst hj
  rw[Env.look_cons_same]at hw
  cases hw
  obtain⟨x,x1,x2⟩:=h3.2 d v (Env.look_cons_same ..)
  exact⟨x,x1,hl m x x2⟩
 ·rw[Env.look_cons_other _ _ hj]at hw
  exact h3.2 j w (by rw[Env.look_cons_other _ _ hj];exact hw)
theorem TO.buildL(hT:TabOk P tab){t:TypeId}{i:TyI}{fs:List (Nat×TypeId)}{fz:List (Nat×Nat)}{parts:Array (Nat×Operand)}{ps:List (Nat×SV)}{cs:List SV}{ts:List T}{v':SV}(hd:Nat.ble (d+1) n=true)
  (ht:tab.get t=some i)(hk:i.k= .struct fs)(hz:sizes tab fs=some fz)(hp:env.parts parts.toList=some ps)(hc:fillSV fz (i.zero.map .t) ps=some cs)(hts:allT cs=some ts)(hl:Le (.t (.ag ts)) v')
  (k:TO q P n all rest ((d,v')::env) H K):TO q P n all (⟨some d,.build t parts,ty,pos,aft,none⟩::rest) env H K:=
 TO.buildT hT hd ht hk hz hp hc hts (TO.lessT hl k)
theorem TO.remF{t t':TypeId}{x y:Operand}{a b:Nat}(hd:Nat.ble (d+1) n=true)(hx:env.val x=some (.i a))(hy:env.val y=some (.i b))(hb:0<b)
  (k:TO q P n all rest ((d,.i (a % b:Nat))::env) H K):TO q P n all (⟨some d,.binOp .rem t x y t',ty,pos,aft,none⟩::rest) env H K:=
 TO.brem hd hx hy (by omega) (by rw[show((a:Int).tmod b)=((a % b:Nat):Int) from by rw[Int.ofNat_tmod]];exact k)
end rules
section rules
variable {P:Program}{all:Array Oper}
def allH(Q:Heap->Prop):List Heap->Prop
 | []=>True
 | H::l=>Q H/\allH Q l
theorem allH_mem{Q:Heap->Prop}:∀ {l:List Heap},allH Q l->∀H∈l,Q H
 | [],_,H,h=>by cases h
 | x::l,h,H,hm=>by
   rcases List.mem_cons.1 hm with rfl|hm
   ·exact h.1
   ·exact allH_mem h.2 H hm
def atG(c:Nat)(g:Prop)(i:Nat):Prop:=bif Nat.beq i c then g else True
def PremX(P:Program)(n:Nat)(K:TK)(c:Nat)(g:Prop)(all:Array Oper)(full:Env)(G:List Heap):Nat->List Oper->List (SV×Nat×Nat)->List Heap->Prop
 | _,[],[],_=>True
 | i,o::l,(v,lo,hi)::t,hs=>bif Nat.blt hi lo then(match hs with
    | H1::H2::hs=>(∀env,TO false P n all [o] (pickE full (slotsOf all o)++env) H1 (NKP K (atG c g i) (putE o.dst v (pickE full (slotsOf all o)++env)) H2))/\PremX P n K c g all full G (i+1) l t (H2::hs)
    | _=>False)
   else allH (fun H=>∀env,TO false P n all [o] (pickE full (slotsOf all o)++env) H (NKP K (atG c g i) (putE o.dst v (pickE full (slotsOf all o)++env)) H)) ((G.drop lo).take (hi+1-lo))/\PremX P n K c g all full G (i+1) l t hs
 | _,_,_,_=>False
abbrev efX (x:SV×Nat×Nat):Bool:=Nat.blt x.2.2 x.2.1
def effX(t:List (SV×Nat×Nat))(i:Nat):Nat:=((t.take i).filter efX).length
theorem PremX.get{n:Nat}{K:TK}{c:Nat}{g:Prop}{full:Env}{G:List Heap}:∀ {l:List Oper} {t:List (SV×Nat×Nat)} {hs:List Heap} {k:Nat},PremX P n K c g all full G k l t hs->l.length=t.length/\∀(i:Nat) o x,l[i]?=some o->t[i]?=some x->
   (efX x=false->allH (fun H=>∀env,TO false P n all [o] (pickE full (slotsOf all o)++env) H (NKP K (atG c g (k+i)) (putE o.dst x.1 (pickE full (slotsOf all o)++env)) H)) ((G.drop x.2.1).take (x.2.2+1-x.2.1)))/\
   (efX x=true->∃H1 H2,hs[effX t i]?=some H1/\hs[effX t i+1]?=some H2/\∀env,TO false P n all [o] (pickE full (slotsOf all o)++env) H1 (NKP K (atG c g (k+i)) (putE o.dst x.1 (pickE full (slotsOf all o)++env)) H2))
 | [],[],hs,k,_=>by simp
 | o::l,(v,lo,hi)::t,hs,k,h=>by
   simp only[PremX]at h
   cases hb:Nat.blt hi lo with
   | false=>
     rw[hb]at h
     obtain⟨h1,h2⟩:=h
     obtain⟨g1,g2⟩:=PremX.get h2
     refine⟨by simp[g1],fun i o' x' ho hv=>?_⟩
     cases i with
     | zero=>simp at ho hv;subst hv;subst ho;exact⟨fun _=>h1,fun e=>by rw[show efX (v,lo,hi)=Nat.blt hi lo from rfl,hb]at e;cases e⟩
     | succ i=>
       have:=g2 i o' x' (by simpa using ho) (by simpa using hv)
       have e:effX ((v,lo,hi)::t) (i+1)=effX t i:=by simp[effX,efX,hb]
       rw[e,show k+(i+1)=k+1+i by omega]
       exact this
   | true=>
     rw[hb]at h
     match hs,h with
     | H1::H2::hs,h=>
       obtain⟨h1,h2⟩:=h
       obtain⟨g1,g2⟩:=PremX.get h2
       refine⟨by simp[g1],fun i o' x' ho hv=>?_⟩
       cases i with
       | zero=>simp at ho hv;subst hv;subst ho;exact⟨fun e=>by(rw[show efX (v,lo,hi)=Nat.blt hi lo from rfl,hb]at e;cases e),fun _=>⟨H1,H2,rfl,rfl,h1⟩⟩
       | succ i=>
         have:=g2 i o' x' (by simpa using ho) (by simpa using hv)
         have e:effX ((v,lo,hi)::t) (i+1)=effX t i+1:=by simp[effX,efX,hb]
         rw[e,show k+(i+1)=k+1+i by omega]
         simpa using this
     | [],h=>exact h.elim
     | [_],h=>exact h.elim
 | [],_::_,_,_,h=>by exact h.elim
 | _::_,[],_,_,h=>by exact h.elim
def rangeX(ops:Array Oper)(t:List (Nat×Nat))(m:Nat):Bool:=
 (List.range t.length).all fun i=>match t[i]? with
   | some x=>Nat.blt x.2 x.1 || (List.range m).all fun c=>!okC ops (t.map fun x=>Nat.blt x.2 x.1) i c || (Nat.ble x.1 c && Nat.ble c x.2)
   | none=>true
theorem TR.regionX(c:Nat){g:Prop}{n:Nat}{env0 envF:Env}{H0 HF:Heap}{K:TK}{id':Nat}{l:List Oper}(t:List (SV×Nat×Nat))(hs:List Heap)(hm:P.follows .mixedOrders=true)
  (hB:(mixB l.toArray ((t.map (·.2)).map fun x=>Nat.blt x.2 x.1) && rangeX l.toArray (t.map (·.2)) hs.length)=true)(h0:hs[0]?=some H0)
  (hp:PremX P n K c g l.toArray (fullE l.toArray (t.map (·.1)) env0) hs 0 l t hs)(hc:Nat.blt c l.length=true)(hF:hs[(t.filter efX).length]?=some HF)(hE:forceL (fullE l.toArray (t.map (·.1)) env0)=some envF)(hK:g->K .normal envF HF):
  TR P n (.region id' l.toArray true) env0 H0 K:=by
 obtain⟨g1,g2⟩:=hp.get
 rw[Bool.and_eq_true]at hB
 obtain⟨hB,hR⟩:=hB
 have hfl:(t.map (·.2)).map (fun x=>Nat.blt x.2 x.1)=t.map efX:=by rw[List.map_map];rfl
 rw[hfl]at hB
 intro φ m a h1 h2 h3 h4
 have hef:∀i,((t.map efX).take i |>.filter id).length=effX t i:=by
  intro i
  unfold effX
  rw[<-List.map_take,List.filter_map,List.length_map]
  rfl
 have hall:((t.map efX).filter id).length=(t.filter efX).length:=by
  rw[List.filter_map,List.length_map];rfl
 have s0:Step m ⟨m.A,m.β,m.H,{ m.w with drawn:=m.w.drawn+1 }⟩/\HRel ⟨m.A,m.β,m.H,{ m.w with drawn:=m.w.drawn+1 }⟩:=keep_ok h2 ⟨rfl,rfl,rfl,Nat.le_refl _,fun _ _=>rfl⟩
 refine wpr_of_in (wpIn_region_any hm ?_)
 refine any_mixW [] (G:=fun i=>atG c g (0+i)) (vs:=t.map (·.1)) (fl:=t.map efX) (hs:=hs) (m0:=m) (fun t ht=>by cases ht) hB (by simp[g1]) (by simp[g1]) ?_ ?_ (by rw[hall];exact hF) (fun hG=>by
   rw[forceL_eq hE]at hK
   have:=hG c (by have:=Nat.le_of_ble_eq_true hc;simp;omega)
   unfold atG at this
   rw[Nat.zero_add,show Nat.beq c c=true from Nat.beq_refl c]at this
   exact hK this) l.toArray.size (Array.replicate l.toArray.size false)
  ⟨m.A,m.β,m.H,{ m.w with drawn:=m.w.drawn+1 }⟩ a (by simp) ?_ ?_ ?_ s0.1 s0.2 ?_ (h4.step h2 s0.1)
 ·intro i o v ho hv hb k H hk hok env
  obtain⟨x,hx,rfl⟩:∃x,t[i]?=some x/\x.1=v:=by simpa using hv
  have hb':efX x=false:=by
   rw[List.getD_eq_getElem?_getD,List.getElem?_map,hx]at hb
   simpa using hb
  have h5:=(g2 i o x (by simpa using ho) hx).1 hb'
  have hil:=(List.getElem?_eq_some_iff.1 hx).1
  have hr:=List.all_eq_true.1 hR i (by simpa using hil)
  rw[List.getElem?_map,hx]at hr
  simp only[Option.map_some]at hr
  rw[show Nat.blt x.2.2 x.2.1=false from hb',Bool.false_or]at hr
  have hkl:=(List.getElem?_eq_some_iff.1 hk).1
  have hr:=List.all_eq_true.1 hr k (by simpa using hkl)
  rw[hfl,hok,Bool.not_true,Bool.false_or,Bool.and_eq_true]at hr
  have r1:=Nat.le_of_ble_eq_true hr.1
  have r2:=Nat.le_of_ble_eq_true hr.2
  refine allH_mem h5 H ?_ env
  refine List.mem_of_getElem? (i:=k-x.2.1) ?_
  rw[List.getElem?_take,if_pos (by omega),List.getElem?_drop,show x.2.1+(k-x.2.1)=k by omega]
  exact hk
 ·intro i o v ho hv hb
  obtain⟨x,hx,rfl⟩:∃x,t[i]?=some x/\x.1=v:=by simpa using hv
  have hb':efX x=true:=by
   rw[List.getD_eq_getElem?_getD,List.getElem?_map,hx]at hb
   simpa using hb
  have:=(g2 i o x (by simpa using ho) hx).2 hb'
  rw[hef]
  exact this
 ·intro i hi
  rw[Array.getElem?_replicate]at hi
  split at hi <;> cases hi
 ·unfold unl
  have:=List.length_filter_le (fun i=>(Array.replicate l.toArray.size false)[i]? == some false) (List.range l.toArray.size)
  simpa using this
 ·refine⟨0,fun i hi=>⟨fun h=>by omega,fun h=>?_⟩,Nat.zero_le _,by rw[h0];simp[h1],fun j h=>?_⟩
  all_goals
   rw[Array.getElem?_replicate]at h
   split at h <;> cases h
 ·have:envA l.toArray (t.map (·.1)) (fun i=>(Array.replicate l.toArray.size false).getD i false) (List.range l.toArray.size)=[]:=by
   have:∀x:List Nat,envA l.toArray (t.map (·.1)) (fun i=>(Array.replicate l.toArray.size false).getD i false) x=[]:=by
    intro x
    induction x with
    | nil=>rfl
    | cons i x ih=>
      have:(Array.replicate l.toArray.size false).getD i false=false:=by
       rw[Array.getD_eq_getD_getElem?,Array.getElem?_replicate]
       split <;> rfl
      simp only[envA,this,ih]
   exact this _
  rw[this,List.nil_append]
  exact h3.step h2 s0.1
end rules
end Go.TL
namespace Go.Proofs.YtddaclniamlmbaaGreatDoor
open Go Go.TL
attribute [local irreducible] TR TO Then InBlock RetK Sound LoopK Kf GG ThenL
theorem same_sound(a b:List Int)(ha:a.length≤1000000000):Pure Tryz.prog 15 [.t (intsT a),.t (intsT b)] (.b (decide (a=b))):=by
 have hma:(a.map T.i).length=a.length:=List.length_map _
 have hmb:(b.map T.i).length=b.length:=List.length_map _
 by_cases hl:a.length=b.length
 ·refine so Tryz.func15 ?_
  repeat' (first|refine wk ?_|exact wkc|intro hc|refine wk2 ?_ ?_|fail|fail)
  all_goals try(exfalso;omega)
  refine TR.loopN a.length (fun k=>a.take k=b.take k) (fun k=>[(0,.t (intsT a)),(1,.t (intsT b)),(5,.i k)]) (fun _=>[]) rfl (fun k hlt hk=>?_) (fun hk=>?_)
  ·have hx:=at_ints hlt
   have hy:=at_ints (l:=b) (show k<b.length by omega)
   have h1:=take_at hlt
   have h2:=take_at (l:=b) (show k<b.length by omega)
   have hne:a[k]≠b[k]'(by omega)->a≠b:=fun h e=>h (by subst e;rfl)
   generalize a[k]=u at*
   generalize b[k]'(by omega)=v at*
   repeat' (first|refine wk ?_|exact wkc|intro hc|refine wk2 ?_ ?_|fail|fail)
   ·rw[decide_eq_false (hne hc)];exact wkr
   ·refine LoopK.nextN hlt ?_
    rw[h1,h2,hk,Classical.byContradiction hc]
  ·rw[List.take_length,hl,List.take_length]at hk
   rw[decide_eq_true hk]
   repeat' (first|refine wk ?_|exact wkc|intro hc|refine wk2 ?_ ?_|fail|fail)
   exact wkr
 ·rw[decide_eq_false (fun e=>hl (by rw[e]))]
  refine so Tryz.func15 ?_
  repeat' (first|refine wk ?_|exact wkc|intro hc|refine wk2 ?_ ?_|fail|fail)
  all_goals first
   | exact wkr
   | (exfalso;omega)
theorem weigh_sound':∀(m:Nat) (e:Ex),wEx e≤m->∀(q:Nat),1≤q->q≤1000000->Pure Tryz.prog 33 [.t (.ag (exC e)),.i q] (.i (min (wEx e) q:Nat)):=by
 intro m
 induction m with
 | zero=>intro e he;have:=wEx_pos e;omega
 | succ m ih0=>
   intro e he q hq1 hq2
   have hw:=wEx_eq e
   have ih:∀x∈e.args,∀(q:Nat),1≤q->q≤1000000->Pure Tryz.prog 33 [.t (.ag (exC x)),.i q] (.i (min (wEx x) q:Nat)):=fun x hx q h1 h2=>ih0 x (by have:=wEx_arg hx;omega) q h1 h2
   clear ih0
   rw[hw]
   generalize hL:e.args=L at ih⊢
   have hml:(L.map exT).length=L.length:=List.length_map _
   unfold exC
   rw[hL]
   refine so Tryz.func33 ?_
   repeat' (first|refine wu ?_|exact wkc|intro hc|refine wk2 ?_ ?_|fail)
   refine TR.loopN L.length (fun k=>k<1+((L.take k).map wEx).sum) (fun k=>[(1,.i q),(2,.cp [T.n e.kind,T.n e.op,T.n e.t,T.n e.v,.s e.name,.sl 6 (L.map exT)] 0),(5,.i (min (1+((L.take k).map wEx).sum) q:Nat)),(6,.i k)]) (fun _=>[]) (by simp) (fun k hlt hk=>?_) (fun hk=>?_) ⟨rfl,rfl,by rw[show min (1+((L.take 0).map wEx).sum) q=1 from by simp;omega];rfl,rfl,trivial⟩
   ·have hx:=at_exT hlt
    have htk:((L.take (k+1)).map wEx).sum=((L.take k).map wEx).sum+wEx L[k]:=by rw[take_at hlt,List.map_append,List.sum_append];simp
    have hle:((L.take k).map wEx).sum≤(L.map wEx).sum:=by
     conv=>rhs;rw[<-List.take_append_drop k L]
     rw[List.map_append,List.sum_append];omega
    have hwp:=wEx_pos L[k]
    have hi:=ih L[k] (List.getElem_mem hlt)
    generalize L[k]=x at hx htk hwp hi
    generalize hS:((L.take k).map wEx).sum=S at*
    generalize hT:(L.map wEx).sum=W at*
    unfold exC at hx hi
    by_cases hc0:1+S<q
    ·have hn:min (1+S) q=1+S:=by omega
     rw[hn]
     have hi2:=hi (q-(1+S)) (by omega) (by omega)
     rw[show((q-(1+S):Nat):Int)=(q:Int)-((1+S:Nat):Int) from by omega]at hi2
     have hr:((1+S:Nat):Int)+((min (wEx x) (q-(1+S)):Nat):Int)=((min (1+(S+wEx x)) q:Nat):Int):=by omega
     generalize min (wEx x) (q-(1+S))=z at hi2 hr
     have hz:z≤1000000:=by omega
     repeat' (first|refine wu ?_|exact wkc|intro hc|refine wk2 ?_ ?_|refine wv hi2 ?_|fail)
     exact LoopK.nextN hlt (by rw[htk];omega) ⟨rfl,rfl,by rw[htk,<-hr];rfl,rfl,trivial⟩
    ·have hn:min (1+S) q=q:=by omega
     rw[hn,show min (1+W) q=q from by omega]
     repeat' (first|refine wu ?_|exact wkc|intro hc|refine wk2 ?_ ?_|fail|fail)
     all_goals first
      | (exfalso;omega)
      | (refine RetK.pure rfl (Le.of_eq ?_) rfl;refine congrArg (fun z=>SV.t (T.v (Value.int IntKind.i64 z))) ?_;omega)
   ·rw[List.take_length]
    repeat' (first|refine wu ?_|exact wkc|intro hc|refine wk2 ?_ ?_|fail)
    all_goals first
     | (exfalso;omega)
     | (refine RetK.pure rfl (Le.of_eq ?_) rfl;refine congrArg (fun z=>SV.t (T.v (Value.int IntKind.i64 z))) ?_;omega)
set_option maxRecDepth 20000 in
theorem light_sound (e:Ex):Pure Tryz.prog 11 [.t (.ag (exC e))] (.b (decide (wEx e<600))):=by
 have hw:Pure Tryz.prog 33 [.t (.ag (exC e)),.i 600] (.i (min (wEx e) 600:Nat)):=weigh_sound' (wEx e) e (Nat.le_refl _) 600 (by decide) (by decide)
 generalize hg:wEx e=W at hw⊢
 unfold exC at*
 by_cases h:W<600
 ·rw[decide_eq_true h]
  rw[show min W 600=W from by omega]at hw
  refine so Tryz.func11 ?_
  repeat' (first|refine wu ?_|exact wkc|intro hc|refine wk2 ?_ ?_|refine wv hw ?_|fail)
  all_goals first
   | (exfalso;omega)
   | exact wkr
 ·rw[decide_eq_false h]
  rw[show min W 600=600 from by omega]at hw
  change Pure _ _ _ (.i 600)at hw
  refine so Tryz.func11 ?_
  repeat' (first|refine wu ?_|exact wkc|intro hc|refine wk2 ?_ ?_|refine wv hw ?_|fail)
  all_goals first
   | (exfalso;omega)
   | exact wkr
theorem rgXf(c:Nat){g:Prop}{n:Nat}{env0 envF:Env}{H0 HF:Heap}{K:TK}{id':Nat}{l:List Oper}(t:List (SV×Nat×Nat))(hs:List Heap)
  (hp:PremX Tryz.prog n K c g l.toArray (fullE l.toArray (t.map (·.1)) env0) hs 0 l t hs)(hK:g->K .normal envF HF)
  (hB:(mixB l.toArray ((t.map (·.2)).map fun x=>Nat.blt x.2 x.1) && rangeX l.toArray (t.map (·.2)) hs.length)=true:=by dsimp only[List.map,List.length];decide +kernel)(h0:hs[0]?=some H0:=by exact rfl)
  (hc:Nat.blt c l.length=true:=by exact rfl)(hF:hs[(t.filter efX).length]?=some HF:=by exact rfl)(hE:forceL (fullE l.toArray (t.map (·.1)) env0)=some envF:=by exact rfl):
  TR Tryz.prog n (.region id' l.toArray true) env0 H0 K:=TR.regionX c t hs hmix hB h0 hp hc hF hE hK
abbrev u8V (c:UInt8):SV:=.t (.v (.int .u8 (c.toNat:Int)))
theorem more_nil(hA:Pure Tryz.prog 12 [] (.b true))(es:List En)(e:Ex)(c:UInt8):Pure Tryz.prog 3 [.t (.ag (progC ⟨es,[]⟩)),.t (.ag (exC e)),u8V c] (.b true):=by
 unfold progC exC nodesT
 dsimp only[List.map]
 refine so Tryz.func3 ?_
 repeat' (first|refine wkt ?_|refine wv hA ?_|refine LoopK.exit ?_|exact wkc|intro hc|refine wk2 ?_ ?_|refine wk ?_|fail)
 all_goals exact wkr
theorem more_heavy(hA:Pure Tryz.prog 12 [] (.b true))(p:Prog)(e:Ex)(h:¬wEx e<600)(hb:p.nodes.length≤1000000000)(c:UInt8):Pure Tryz.prog 3 [.t (.ag (progC p)),.t (.ag (exC e)),u8V c] (.b true):=by
 have hl:=light_sound e
 rw[decide_eq_false h]at hl
 have hml:(p.nodes.map nodT).length=p.nodes.length:=List.length_map _
 unfold progC exC nodesT at*
 refine so Tryz.func3 ?_
 repeat' (first|refine wkt ?_|refine wv hA ?_|refine wv hl ?_|refine LoopK.exit ?_|exact wkc|intro hc|refine wk2 ?_ ?_|refine wk ?_|fail)
 all_goals exact wkr
end Go.Proofs.YtddaclniamlmbaaGreatDoor
namespace Go.TL
open Go
section rules
variable {P:Program}{n:Nat}{env:Env}{H:Heap}{K:TK}{all:Array Oper}{rest:List Oper}{tab:Tab}{q:Bool}
variable {d:Nat}{ty:TypeId}{pos:String}{aft:Array Edge}
theorem TO.makeBound{f:FuncId}{bs:Array Operand}{vs:List SV}(hd:Nat.ble (d+1) n=true)(hv:env.vals bs.toList=some vs)(k:TO q P n all rest ((d,.bnd f vs)::env) H K):
  TO q P n all (⟨some d,.makeFunc (.func f) bs #[],ty,pos,aft,none⟩::rest) env H K:=
 TO.op hd (fun m ac g1 g2 g3=>⟨.func (.func f) (bs.map ac.eval) #[],fun w' hw'=>by simp[execOp,Instr.makeFunc],by
  obtain⟨h1,h2⟩:=g3.vals _ _ hv
  exact .bnd f vs _ (by simp[h1]) fun i c y hc hy=>h2 i c y hc (by simpa using hy)⟩) k
theorem Le.bnd{f:FuncId}{aas bs:List SV}(h:Les aas bs):Le (.bnd f aas) (.bnd f bs):=fun m x hx=>by
 cases hx with
 | bnd _ _ arr hs hr=>
   obtain⟨g1,g2⟩:=h.get
   refine .bnd f bs arr (by omega) fun i c y hc hy=>?_
   have hlt:=(List.getElem?_eq_some_iff.1 hc).1
   have ha:aas[i]?=some aas[i]:=List.getElem?_eq_getElem (by omega)
   exact g2 i _ c ha hc _ _ (hr i _ y ha hy)
theorem ARelB_of{m:M}{ac:Act}(g:ERel m n env ac.tmps){f:Operand}{fid:FuncId}{bs:List SV}{args:Array Operand}{vs:List SV}(hf:env.val f=some (.bnd fid bs))(ha:env.vals args.toList=some vs):
  ∃arr,ac.eval f= .func (.func fid) arr #[]/\ARel m (bs++vs) (arr++args.map ac.eval):=by
 have h:=g.val hf
 generalize hq:ac.eval f=z at h
 cases h with
 | bnd _ _ arr hs hr=>
   obtain⟨g1,g2⟩:=g.vals _ _ ha
   refine⟨arr,rfl,by simp[g1,hs],fun i s x hs' hx=>?_⟩
   by_cases hi:i<bs.length
   ·rw[List.getElem?_append_left hi]at hs'
    rw[Array.getElem?_append_left (by omega)]at hx
    exact hr _ s x hs' hx
   ·rw[List.getElem?_append_right (by omega)]at hs'
    rw[Array.getElem?_append_right (by omega)]at hx
    exact g2 (i-bs.length) s x hs' (by rw[hs]at hx;simpa using hx)
theorem callB_exec{ac:Act}{f:Operand}{fid:FuncId}{arr:Array Value}{args:Array Operand}{ts:Array TypeId}{w:World}{dd:Option Tmp}(hf:ac.eval f= .func (.func fid) arr #[])(hc:Callable P fid):
  (execOp ac.eval ⟨dd,.call { callee:=.value f,args:=args,argTypes:=ts },ty,pos,aft,none⟩).run P w= .ok (.enter fid (arr++args.map ac.eval)) w:=by
 obtain⟨fn,h1,h2,h3⟩:=hc
 have h2':¬fn.name= "runtime.NumGoroutine":=by simpa using h2
 have h3':¬fn.body=none:=by intro e;simp[e]at h3
 simp[execOp,resolve,hf,Deferred.ofValue,invoke,callFunc,h1,h2',h3']
theorem TO.callBnd{cargs:List SV}{v:SV}{f:Operand}{fid:FuncId}{bs:List SV}{args:Array Operand}{ts:Array TypeId}{vs:List SV}(hs:Pure P fid cargs v)(hd:Nat.ble (d+1) n=true)
  (hf:env.val f=some (.bnd fid bs))(ha:env.vals args.toList=some vs)(hl:Les (bs++vs) cargs)(hu:unders 0 cargs=true)(hv:v.under 0=true)
  (k:TO false P n all rest ((d,v)::env) H K):
  TO false P n all (⟨some d,.call { callee:=.value f,args:=args,argTypes:=ts },ty,pos,aft,none⟩::rest) env H K:=by
 intro φ m ac h1 h2 h3 h4
 subst h1
 obtain⟨arr,hq,har⟩:=ARelB_of h3 hf ha
 have hh:=hands_nil m.H
 have lies:=lies_cut h2 hh
 have hl':Les (bs++vs) (rens (names [] m.H.length) cargs):=by rw[unders_ren _ hu];exact hl
 have harc:ARel (cutM m [] []) cargs (arr++args.map ac.eval):=by
  have h5:=har.le hl'
  refine⟨by rw[h5.1,rens_eq];simp,fun i s x hs' hx=>lies.srel_down (h5.2 i _ x (by rw[rens_eq,List.getElem?_map,hs'];rfl) hx) (unders_get hu i s hs')⟩
 have hcall:=hs.2 (cutM m [] []) _ rfl (lies.hrel h2) harc
 refine wpListIn_plain rfl fun K' hK=>?_
 unfold Oper.wpIn
 refine⟨fun _ _=>trivial,?_⟩
 rw[semAt_val (callB_exec hq hs.1) (by intro d e;cases e)]
 simp only[Oper.uponIn]
 refine⟨fun h=>by simp[Fence.wide]at h,calls_fr (Calls.mono hcall ?_)⟩
 rintro e w' ⟨mc',r,rfl,s,hmc,hr,hR,hR2⟩
 subst hR
 obtain⟨st,hb⟩:=back_ok h2 hh s hmc
 have hlc:([]:List Nat).length≤mc'.H.length:=Nat.zero_le _
 cases e with
 | returned x=>
   have hbH:(back m mc' []).H=m.H:=by
    show patch m.H [] (mc'.H.map _)=m.H
    rw[hR2];simp[patch]
   refine hK _ _ (TO.step' (m':=back m mc' []) st (k φ (back m mc' []) _ hbH hb ((h3.step h2 st).put d (Nat.le_of_ble_eq_true hd) ?_) (by simpa [Act.put]using h4.step h2 st)))
   have:=back_srel h2 hh hmc hlc hr
   rw[ren_under (N:=0) (fun j hj=>by omega) v hv]at this
   exact this
 | _=>simp[ResRel]at hr
theorem TO.makeSliceC(hT:TabOk P tab){t e:TypeId}{i ie:TyI}{sz b c:Nat}{x y:Operand}(hd:Nat.ble (d+1) n=true)(ht:tab.get t=some i)(hk:i.k= .slice e)(he:tab.get e=some ie)(hs:ie.size=sz)(hpos:Nat.ble 1 sz=true)
  (hx:env.val x=some (.i (b:Int)))(hy:env.val y=some (.i (c:Int)))(hbc:b≤c)(h2:c≤10000000000)(hby:Nat.ble ie.bytes 4096=true)
  (k:TO false P n all rest ((d,.ms sz H.length 0 b)::env) (H++[.cells (zerosOf ie.zero c)]) K):TO false P n all (⟨some d,.makeSlice t x y,ty,pos,aft,none⟩::rest) env H K:=
 TO.eff hd (fun m ac g1 g2 g3=>by
  have hp':=Nat.le_of_ble_eq_true hpos
  have hb':=Nat.le_of_ble_eq_true hby
  obtain⟨ti,hti,hti1,hti2⟩:=(hT e ie he).info
  obtain⟨z,hz1,hz2,_,_⟩:=(hT e ie he).zero
  have hln:=(hT e ie he).len
  have hzl:z.cells.size=sz:=by
   have:=(zero_rel (A:=m.A) (w:=m.w) _ _ hz2).1
   simp at this;omega
  have hcm:c*ie.bytes≤10000000000*4096:=Nat.mul_le_mul h2 hb'
  have hw:IntKind.i64.wrap (c:Int)=c:=wrap_in (by omega) (by omega)
  have hwb:IntKind.i64.wrap (b:Int)=b:=wrap_in (by omega) (by omega)
  have hbig2:¬((c:Int)<b):=by omega
  have hbig:¬(281474976710656<(ti.bytes:Int)*(c:Int)):=by
   rw[hti2,<-Int.natCast_mul,Nat.mul_comm];omega
  have hneg:¬((c:Int)<0):=by omega
  have hnegb:¬((b:Int)<0):=by omega
  obtain⟨arr,harr⟩:∃arr:Array Value,arr=Builtin.zeroCells z.cells c:=⟨_,rfl⟩
  have hrun:(Instr.makeSlice t (.int .i64 (b:Int)) (.int .i64 (c:Int))).run P m.w= .ok (.slice (some ⟨m.w.heap.size,0,none⟩) b c) (m.w.alloc (.cells arr e)):=by
   by_cases h0:c*sz=0
   ·have hc0:c=0:=by rcases Nat.mul_eq_zero.1 h0 with h|h <;> omega
    subst hc0
    have hb0:b=0:=by omega
    subst hb0
    have ha:arr= #[]:=by rw[harr];simp[Builtin.zeroCells]
    rw[ha]
    have hw0:IntKind.i64.wrap (0:Int)=0:=by decide
    simp[Instr.makeSlice,underlying,(hT t i ht).slice hk,(hT e ie he).sizeOf,asInt,asIntOf,hw0,typeInfo,hti,newRow,askRoom,roomBytes]
    refine congrArg (fun a=>m.w.alloc (Obj.cells a e)) ?_
    simp[Array.range]
   ·have hroom:¬140737488355328<c*ti.bytes:=by rw[hti2];omega
    have hc0:¬c=0:=by rintro rfl;simp at h0
    have hs0:¬sz=0:=by omega
    rw[harr]
    simp[Instr.makeSlice,underlying,(hT t i ht).slice hk,(hT e ie he).sizeOf,hs,asInt,asIntOf,hw,hwb,typeInfo,hti,hbig,hbig2,hneg,hnegb,hz1,newRow,askRoom,roomBytes,hroom,h0,hc0,hs0,Builtin.zeroCells,hzl]
  have hsize:arr.size=c*ie.zero.length:=by
   rw[harr,zeroCells_size,hzl,hln,hs]
  obtain⟨s,hm'⟩:=grow_zeros g2 (ts:=ie.zero) (z:=z.cells) (e:=e) (arr:=arr) (c:=c) (N:=c) hz2 (by omega) (Nat.le_refl _) hsize (fun j hj=>by
   have hzz:z.cells.size=ie.zero.length:=by omega
   rw[harr,<-hzz]
   rw[<-hzz]at hj
   exact zeroCells_get _ _ _ (by omega) hj)
  refine⟨.slice (some ⟨m.w.heap.size,0,none⟩) b c,⟨m.A,m.β++[⟨m.w.heap.size,0,arr.size⟩],m.H++[.cells (zerosOf ie.zero c)],m.w.alloc (.cells arr e)⟩,by simp[execOp,(g3.val hx).v_eq,(g3.val hy).v_eq,hrun],s,hm',by rw[<-g1],?_⟩
  rw[<-g1]
  refine .ms sz m.H.length 0 b c ⟨m.w.heap.size,0,arr.size⟩ (by simp[g2.len]) (by intro q;simp[tlOf]) hbc ?_
  show 0+0+c*sz=arr.size
  rw[hsize,hln,hs];omega) k
theorem TO.makeSlice(hT:TabOk P tab){t e:TypeId}{i ie:TyI}{sz c:Nat}{x:Operand}(hd:Nat.ble (d+1) n=true)(ht:tab.get t=some i)(hk:i.k= .slice e)(he:tab.get e=some ie)(hs:ie.size=sz)(hpos:Nat.ble 1 sz=true)
  (hx:env.val x=some (.i (c:Int)))(h2:c≤10000000000)(hby:Nat.ble ie.bytes 4096=true)
  (k:TO false P n all rest ((d,.ms sz H.length 0 c)::env) (H++[.cells (zerosOf ie.zero c)]) K):TO false P n all (⟨some d,.makeSlice t x x,ty,pos,aft,none⟩::rest) env H K:=
 TO.makeSliceC hT hd ht hk he hs hpos hx hx (Nat.le_refl c) h2 hby k
theorem TO.copy_ms(hT:TabOk P tab){t t' e:TypeId}{i ie:TyI}{sz id off len:Nat}{cs:List SV}{ys:List T}{x y:Operand}{vy:SV}{H':Heap}(hd:Nat.ble (d+1) n=true)(ht:tab.get t=some i)(hk:i.k= .slice e)
  (he:tab.get e=some ie)(hs:ie.size=sz)(hpos:Nat.ble 1 sz=true)(hx:env.val x=some (.ms sz id off len))(hH:H[id]?=some (.cells cs))(hy:env.val y=some vy)(hvy:vy.elems sz=some ys)
  (hlen:ys.length≤len)(hfit:off+ys.length*sz≤cs.length)(hH':H.set id (.cells (splice cs off ((ys.map T.cells).flatten.map .t)))=H')
  (k:TO false P n all rest ((d,.any)::env) H' K):TO false P n all (⟨some d,.call { callee:=.builtin .copy,args:=#[x,y],argTypes:=#[t,t'] },ty,pos,aft,none⟩::rest) env H K:=
 TO.eff hd (fun m ac g1 g2 g3=>by
  have hp':=Nat.le_of_ble_eq_true hpos
  have hy':=(g3.val hy).elems hvy
  obtain⟨ad,cap',hq⟩:=hy'.slice_inv
  rw[hq]at hy'
  obtain⟨g,f0,f1,f2,f3⟩:=firstCells_run (P:=P) hy' (by omega)
  have h:=g3.val hx
  generalize hz:ac.eval x=z at h
  cases h with
  | ms _ _ _ _ cap p hp hn hc hh=>
    have hH1:m.H[id]?=some (.cells cs):=by rw[g1];exact hH
    obtain⟨b1,b2,b3⟩:=g2.blk id p _ hp hH1
    have hmin:min ys.length len=ys.length:=Nat.min_eq_left hlen
    obtain⟨l1,l2⟩:=flat_cells ys (fun e he=>by obtain⟨j,hj⟩:=List.getElem?_of_mem he;exact f2 j e hj)
    have hrun:(Builtin.copy_ #[t,t'] ty #[.slice (some ⟨p.b,p.lo+off,none⟩) len cap,ac.eval y]).run P m.w=
      ((storeCells ⟨p.b,p.lo+off,none⟩ ((List.range (ys.length*sz)).map g)).run P m.w).andThen fun _ w'=>.ok (goInt ys.length) w':=by
     rw[hq]
     simp[Builtin.copy_,underlying,(hT t i ht).slice hk,(hT e ie he).sizeOf,hs,Builtin.lenOf,hmin,f0 m.w rfl]
    by_cases h0:ys.length*sz=0
    ·have hys:ys=[]:=by
      rcases Nat.mul_eq_zero.1 h0 with h|h
      ·exact List.eq_nil_of_length_eq_zero h
      ·omega
     subst hys
     refine⟨goInt 0,m,?_,Step.refl m,g2,?_,.any _⟩
     ·simp[execOp,resolve,invoke,builtin,hz,hrun,storeCells]
     ·obtain⟨hlt,hg⟩:=List.getElem?_eq_some_iff.1 hH
      have h5:splice cs off ((List.map T.cells []).flatten.map .t)=cs:=by simp[splice]
      have h6:=List.set_getElem_self hlt
      rw[hg]at h6
      rw[g1,<-hH',h5]
      exact h6.symm
    ·obtain⟨s,hm'⟩:=upd_cells g2 (off:=off) (vs:=(ys.map T.cells).flatten.map .t) (ys:=(List.range (ys.length*sz)).map g) hp hH1 (by rw[List.length_map,l1];omega) (by rw[List.length_map,l1];omega) (by rw[List.length_map,l1];simp) (fun v hv=>by simp at hv;obtain⟨q,hq,rfl⟩:=hv;exact f1 q hq) (fun j c v hc' hv=>by
      have hj:=(List.getElem?_eq_some_iff.1 hv).1
      simp at hj
      simp[hj]at hv
      subst hv
      rw[List.getElem?_map]at hc'
      obtain⟨d1,d2,d3⟩:=divmod_lt (show 0<sz by omega) hj
      have hyq:ys[j / sz]?=some ys[j / sz]:=List.getElem?_eq_getElem d1
      have hcl:=f2 _ _ hyq
      have hyc:(ys[j / sz]).cells[j % sz]?=some ((ys[j / sz]).cells[j % sz]'(by omega)):=List.getElem?_eq_getElem (by omega)
      have:=l2 _ _ _ _ hyq hyc
      rw[d3]at this
      rw[this]at hc'
      cases hc'
      have hr:=f3 _ _ _ _ hyq hyc
      rw[d3]at hr
      exact .t _ _ hr)
     have hst:=run_storeCells_cells (P:=P) p.b (p.lo+off) ((List.range (ys.length*sz)).map g) 0 m.w (fun q hq=>(b2 _ (by omega) (by simp at hq;omega)).1) (fun q hq=>(b2 _ (by omega) (by simp at hq;omega)).2)
      (fun v hv=>by simp at hv;obtain⟨q,hq,rfl⟩:=hv;exact f1 q hq)
     refine⟨goInt ys.length,_,?_,s,hm',by rw[g1];exact hH',.any _⟩
     rw[hst]at hrun
     simp[execOp,resolve,invoke,builtin,hz,hrun]) k
theorem TO.copy_none(hT:TabOk P tab){t t' e:TypeId}{i ie:TyI}{sz:Nat}{x y:Operand}{vx vy:SV}(hd:Nat.ble (d+1) n=true)(ht:tab.get t=some i)(hk:i.k= .slice e)
  (he:tab.get e=some ie)(hs:ie.size=sz)(hpos:Nat.ble 1 sz=true)(hx:env.val x=some vx)(hvx:vx.elems sz=some [])(hy:env.val y=some vy)(hvy:vy.elems sz=some [])
  (k:TO false P n all rest ((d,.any)::env) H K):TO false P n all (⟨some d,.call { callee:=.builtin .copy,args:=#[x,y],argTypes:=#[t,t'] },ty,pos,aft,none⟩::rest) env H K:=
 TO.eff hd (fun m ac g1 g2 g3=>by
  have hp':=Nat.le_of_ble_eq_true hpos
  have hy':=(g3.val hy).elems hvy
  have hx':=(g3.val hx).elems hvx
  obtain⟨ad,cap',hq⟩:=hy'.slice_inv
  obtain⟨ad2,cap2,hq2⟩:=hx'.slice_inv
  rw[hq]at hy'
  obtain⟨g,f0,f1,f2,f3⟩:=firstCells_run (P:=P) hy' (by omega)
  refine⟨goInt 0,m,?_,Step.refl m,g2,g1,.any _⟩
  have hf:=f0 m.w rfl
  simp only[List.length_nil]at hf hq2
  have hrun:(Builtin.copy_ #[t,t'] ty #[ac.eval x,ac.eval y]).run P m.w= .ok (goInt 0) m.w:=by
   rw[hq,hq2]
   cases ad2 <;> simp[Builtin.copy_,underlying,(hT t i ht).slice hk,(hT e ie he).sizeOf,hs,Builtin.lenOf,hf,storeCells]
  simp[execOp,resolve,invoke,builtin,hrun]) k
theorem TO.slice_msEnd(hT:TabOk P tab){t e:TypeId}{i ie:TyI}{x z:Operand}{sz id off len:Nat}{ik:IntKind}(hd:Nat.ble (d+1) n=true)(ht:tab.get t=some i)(hk:i.k= .slice e)(he:tab.get e=some ie)(hsz:ie.size=sz)
  (hx:env.val x=some (.ms sz id off len))(hz:env.val z=some (.t (.v (.int ik (len:Int)))))
  (k:TO q P n all rest ((d,.t (.sl sz []))::env) H K):TO q P n all (⟨some d,.slice t x (some z) none none,ty,pos,aft,none⟩::rest) env H K:=
 TO.op hd (fun m ac g1 g2 g3=>by
  have h:=g3.val hx
  generalize hq:ac.eval x=v at h
  cases h with
  | ms _ _ _ _ cap p hp hn hc hh=>
    have hrun:=fun w'=>slice_sl_run (P:=P) hT ht hk he (some ⟨p.b,p.lo+off,none⟩) len cap (some (ac.eval z)) none len len w' (.inr ⟨ik,by rw[(g3.val hz).v_eq]⟩) (.inl ⟨rfl,rfl⟩) (Nat.le_refl _) hc
    by_cases hcl:cap=len
    ·refine⟨.slice (some ⟨p.b,p.lo+off,none⟩) 0 0,fun w' hw'=>?_,.t _ _ (.empty sz _)⟩
     have:=hrun w'
     simp only[hcl,Nat.sub_self]at this
     simp[execOp,hq,hcl,this]
    ·refine⟨.slice (some ⟨p.b,p.lo+off+len*sz,none⟩) 0 (cap-len),fun w' hw'=>?_,.t _ _ (.sl sz [] p.b (p.lo+off+len*sz) (cap-len) (fun _=>undef) (Nat.zero_le _) (by simp) (by simp) (by simp) (by simp) (by simp))⟩
     have:=hrun w'
     rw[if_neg (by omega),hsz]at this
     simp only[Option.map_some,addr_add,Nat.add_assoc,Nat.sub_self]at this
     simp[execOp,hq,Nat.add_assoc,this]) k
end rules
end Go.TL
