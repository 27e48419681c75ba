import Derived.Test.YtcbhlhmebbkgnaaGreatPk7
import Derived.Test.YtcbhlhmebbkgnaaGreatPk17
import Derived.Test.YtcbhlhmebbkgnaaGreatPk19
import Derived.Test.YtcbhlhmebbkgnaaGreatPk23
import Derived.Test.YtcbhlhmebbkgnaaGreatPk24
set_option linter.unusedSimpArgs false
set_option linter.unusedVariables false
namespace Go.Proofs.YtcbhlhmebbkgnaaGreat
open Go Go.TL
attribute [local irreducible] TR TO Then zaw RetK Sound zab Kf GG zaZ
theorem zkF{α β:Type}{f:β->α->β×Int}(I:β->Prop):∀(l:List α) (a:β),(∀a,∀x∈l,I a->I (f a x).1)->I a->I (zad f a l).1
 | [],a,_,h=>h
 | x::l,a,hf,h=>by
   have h1:=hf a x (by simp) h
   rw[zad]
   split
   ·exact zkF I l _ (fun a y hy=>hf a y (by simp[hy])) h1
   ·exact h1
theorem ze1{α β:Type}{f:β->α->β×Int}(I:β->Prop):∀(l:List α) (a:β),(∀a,∀x∈l,I a->I (f a x).1)->I a->(zad f a l).2=0->∀x∈l,∃b,I b/\(f b x).2=0
 | x::l,a,hf,h,h0,y,hy=>by
   have h1:=hf a x (by simp) h
   rw[zad]at h0
   have h2:(f a x).2=0:=Classical.byContradiction fun hh=>by rw[if_neg hh]at h0;exact hh h0
   rw[if_pos h2]at h0
   rcases List.mem_cons.1 hy with rfl|hy
   ·exact⟨a,h,h2⟩
   ·exact ze1 I l _ (fun a y hy=>hf a y (by simp[hy])) h1 h0 y hy
theorem zjx{s:Str}:∀ {l:List Decl},s∈l.map Decl.name->(findD l s).isSome=true
 | d::l,h=>by
   rw[findD]
   split
   ·rfl
   ·rename_i hn
    rcases List.mem_cons.1 h with h|h
    ·exact absurd h.symm hn
    ·exact zjx h
theorem ztq{l:List Str}{a s:Str}(h:s∈ins l a):s∈l\/s=a:=by
 unfold ins at h
 split at h
 ·exact .inl h
 ·simpa using h
theorem zjN{p:Prog}(h:(zbx p).2=0){n:Nod}(hn:n∈p.nodes){u:Equ}(hu:u∈n.eqs){s:Str}(hs:s∈u.left):(findD (zao n) s).isSome=true:=by
 unfold zbx at h
 have g1:(zaR p).2=0:=Classical.byContradiction fun hh=>by rw[if_pos hh]at h;exact hh h
 rw[if_neg (by simp[g1])]at h
 have g2:(zad enF [] p.enums.zipIdx).2=0:=Classical.byContradiction fun hh=>by rw[if_pos hh]at h;exact hh h
 rw[if_neg (by simp[g2])]at h
 have g3:(zad (nodF p) (zad enF [] p.enums.zipIdx).1 p.nodes.zipIdx).2=0:=Classical.byContradiction fun hh=>by rw[if_neg hh]at h;exact hh h
 obtain⟨i,hi,rfl⟩:=List.getElem_of_mem hn
 have hmem:(p.nodes[i],i)∈p.nodes.zipIdx:=by
  have:p.nodes.zipIdx[i]?=some (p.nodes[i],i):=by rw[List.getElem?_zipIdx];simp[List.getElem?_eq_getElem hi]
  exact List.mem_of_getElem? this
 obtain⟨seen,_,g4⟩:=ze1 (fun _=>True) _ _ (fun _ _ _ _=>trivial) trivial g3 _ hmem
 generalize p.nodes[i]=n at*
 have g5:(zce p seen i n).2=0:=g4
 unfold zce at g5
 split at g5
 ·cases g5
 generalize seen++[(1,n.name,(i:Int))]=seen at g5
 unfold zpz at g5
 simp only[]at g5
 have o1:=zkF (f:=zbz seen []) (fun a=>∀s∈a.own,s∈(zao n).map Decl.name) (zao n) lv0 (fun a x hx ha s hs=>by
  rcases ztq hs with hs|rfl
  ·exact ha s hs
  ·exact List.mem_map_of_mem hx) (fun s hs=>by cases hs)
 change ∀s∈(zif seen [] lv0 (zao n)).1.own,s∈(zao n).map Decl.name at o1
 generalize zif seen [] lv0 (zao n)=r1 at*
 have g6:r1.2=0:=Classical.byContradiction fun hh=>by rw[if_pos hh]at g5;exact hh g5
 rw[if_neg (by simp[g6])]at g5
 have g7:zbn r1.1.own n.locals=0:=Classical.byContradiction fun hh=>by rw[if_pos hh]at g5;exact hh g5
 rw[if_neg (by simp[g7])]at g5
 have g8:(zad (equS p seen i [] ((n.ins.map Decl.name).foldl ins [])) r1.1 n.eqs).2=0:=Classical.byContradiction fun hh=>by rw[if_pos hh]at g5;exact hh g5
 obtain⟨b,hb,g9⟩:=ze1 (fun a=>a.own=r1.1.own) _ _ (fun a x _ ha=>zkF (fun a=>a.own=r1.1.own) x.left a (fun _ _ _ h=>h) ha) rfl g8 u hu
 obtain⟨g10,_⟩:=zap g9
 obtain⟨c,_,g11⟩:=ze1 (fun _=>True) _ _ (fun _ _ _ _=>trivial) trivial g10 s hs
 unfold zcs at g11
 simp only at g11
 split at g11
 ·rename_i hv
  rw[hb]at hv
  exact zjx (o1 s (by simpa using hv))
 ·cases g11
structure NodR (n:Nod):Prop where
 decl:∀d∈n.locals,∀o∈d.clock,o.t.1≠0
 left:∀u∈n.eqs,∀s∈u.left,(findD (zao n) s).isSome=true
 len:∀d∈zao n,d.clock.length≤4
 fit:∀u∈n.eqs,(∀x∈flat u.right,oneX x=0)/\∀ck:List OnC,ck.length≤4->zeu (zao n) (wEx u.right) u.right ck=zcu (zao n) u.right ck
 cl:∀e∈n.assume++n.ensure,(∀x∈flat e,oneX x=0)/\zeu (zao n) (wEx e) e []=zcu (zao n) e []
theorem zt3{p:Prog}(h:(zbi p).2=0){k:Nat}(hk:k<p.nodes.length)(hk63:(k:Int)≤9223372036854775807):NodR p.nodes[k]:=by
 obtain⟨hs,hsh,hty⟩:=zdz h
 have hN:=zlt hsh _ (List.getElem_mem hk)
 have hsn:=zbL hsh _ (List.getElem_mem hk)
 unfold zbt at hsn
 have q1:zek p.enums p.nodes[k]=0:=Classical.byContradiction fun hh=>by rw[if_pos hh]at hsn;exact hh hsn
 rw[if_neg (by simp[q1])]at hsn
 have q2:zaa (equE p.enums) p.nodes[k].eqs=0:=Classical.byContradiction fun hh=>by rw[if_pos hh,zbc]at hsn;exact hh hsn
 rw[if_neg (by simp[q2])]at hsn
 have q3:zgw p.enums p.nodes[k]=0:=hsn
 obtain⟨_,q3⟩:=zap q3
 obtain⟨q4,q5⟩:=zap q3
 have hmem:(p.nodes[k],k)∈p.nodes.zipIdx:=by
  have:p.nodes.zipIdx[k]?=some (p.nodes[k],k):=by rw[List.getElem?_zipIdx];simp[List.getElem?_eq_getElem hk]
  exact List.mem_of_getElem? this
 have hg:=zgD p hty _ hmem
 unfold nodG zga at hg
 simp only at hg
 have he:zaa (eqnT ⟨p,nI k,zao p.nodes[k]⟩) p.nodes[k].eqs=0:=Classical.byContradiction fun hh=>by
  rw[if_pos hh,zbc]at hg;exact hh hg
 rw[if_neg (by simp[he])]at hg
 unfold zgs at hg
 simp only at hg
 obtain⟨_,hg⟩:=zap hg
 obtain⟨c1,c2⟩:=zap hg
 refine⟨fun d hd o ho=>?_,fun u hu s hs'=>zjN hs (List.getElem_mem hk) hu hs',ztv hN,fun u hu=>?_,fun e he'=>?_⟩
 ·unfold zek at q1
  obtain⟨_,q1⟩:=zap q1
  obtain⟨_,q1⟩:=zap q1
  obtain⟨_,q1⟩:=zap q1
  obtain⟨_,q1⟩:=zap q1
  obtain⟨_,q1⟩:=zap q1
  have d1:=zau q1 d hd
  unfold zcT at d1
  obtain⟨_,d1⟩:=zap d1
  obtain⟨_,d1⟩:=zap d1
  obtain⟨_,d1⟩:=zap d1
  obtain⟨_,d1⟩:=zap d1
  have d2:=zau d1 o ho
  unfold onE at d2
  obtain⟨_,d2⟩:=zap d2
  intro h0
  have:hasT p.enums o.t.1 o.tag.1=true:=by
   split at d2
   ·rename_i hh;exact hh.2
   ·cases d2
  rw[h0]at this
  unfold hasT zbK zg7 at this
  rw[if_neg (by decide),if_neg (by decide),if_neg (by decide),if_neg (by omega)]at this
  simp at this
  omega
 ·obtain⟨kn,hx⟩:=zsd h hk hk63 hu
  exact⟨zhL hx,fun ck hck=>znF _ _ _ (Nat.le_refl _) (zc3 hx) (zhL hx) kn ck hck⟩
 ·have hx:zaP p.enums e=0:=by
   rcases List.mem_append.1 he' with he'|he'
   ·exact zau q4 e he'
   ·exact zau q5 e he'
  have ht:zbS ⟨p,nI k,zao p.nodes[k]⟩ e=0:=by
   rcases List.mem_append.1 he' with he'|he'
   ·exact zau c1 e he'
   ·exact zau c2 e he'
  unfold zbS at ht
  have hr:(resT ⟨p,nI k,zao p.nodes[k]⟩ false e).2=0:=Classical.byContradiction fun hh=>by rw[if_pos hh]at ht;exact hh ht
  exact⟨zhL hx,znF _ _ _ (Nat.le_refl _) (zc3 hx) (zhL hx) (zoM hr) [] (by simp)⟩
theorem zrO{vars:List Decl}{pre:List OnC}{o:OnC}(h:o.t.1≠0):okAt vars pre o=(decide ((zbI vars o.name).ty.1=o.t.1) && decide ((zbI vars o.name).clock=pre)):=by
 unfold okAt zbI
 cases findD vars o.name with
 | some x=>rfl
 | none=>
   rw[show decide ((Option.getD none noD).ty.1=o.t.1)=false from decide_eq_false (fun hh=>h (hh ▸ rfl))]
   rfl
theorem zrj{vars:List Decl}{s:Str}{ck:List OnC}(h:(findD vars s).isSome=true):onX vars s ck=decide ((zbI vars s).clock=ck):=by
 unfold onX zbI
 cases hf:findD vars s with
 | some x=>rfl
 | none=>rw[hf]at h;cases h
def anyI(f:Nat->Ex->Bool):Nat->List Ex->Bool
 | _,[]=>false
 | i,a::l=>f i a || anyI f (i+1) l
def zci(e:Ex)(i:Nat):Bool:=decide (e.kind.1=5\/e.kind.1=7\/e.kind.1=9\/e.kind.1=10\/e.kind.1=6/\i=0)
def misR(vars:List Str):Nat->Ex->Bool
 | 0,_=>false
 | m+1,e=>(decide (e.kind.1=8\/e.kind.1=9) && decide (e.name∈vars)) || anyI (fun i a=>(zci e i && zaW vars a) || misR vars m a) 0 e.args
theorem ztE(vars:List Str)(e:Ex):misX vars e=(badX vars e || e.args.any (misX vars)):=by
 unfold misX
 rw[za2,List.any_cons]
 congr 1
 unfold flats
 induction e.args with
 | nil=>rfl
 | cons a l ih=>rw[List.map_cons,List.flatten_cons,List.any_append,List.any_cons,ih]
theorem ze6{f g:Nat->Ex->Bool}:∀ {l:List Ex} {i:Nat},(∀a∈l,∀i,f i a=g i a)->anyI f i l=anyI g i l
 | [],_,_=>rfl
 | a::l,i,h=>by rw[anyI,anyI,h a (by simp),ze6 fun b hb=>h b (by simp[hb])]
theorem zjM{f g:Ex->Bool}{b:Bool}:∀ {l:List Ex} {i:Nat},anyI (fun _ a=>(b && f a) || g a) i l=((b && l.any f) || l.any g)
 | [],_=>by cases b <;> rfl
 | a::l,i=>by
   rw[anyI,zjM,List.any_cons,List.any_cons]
   cases b <;> cases f a <;> cases g a <;> simp
theorem zny(vars:List Str):∀(m:Nat) (e:Ex),wEx e≤m->misR vars m e=misX vars e
 | 0,e,h=>by have:=zaI e;omega
 | m+1,e,h=>by
   rw[ztE,misR,ze6 (g:=fun i a=>(zci e i && zaW vars a) || misX vars a) fun a ha i=>by rw[zny vars m a (by have:=zaE ha;omega)]]
   unfold badX
   by_cases h6:e.kind.1=6
   ·rw[if_neg (by omega),if_pos h6,decide_eq_false (show ¬(e.kind.1=8\/e.kind.1=9) by omega)]
    cases e.args with
    | nil=>rfl
    | cons a l=>
      have h0:zci e 0=true:=decide_eq_true (by omega)
      have h1:∀i,zci e (i+1)=false:=fun i=>decide_eq_false (by omega)
      have:∀(l:List Ex) (i:Nat),anyI (fun i a=>(zci e i && zaW vars a) || misX vars a) (i+1) l=l.any (misX vars):=by
       intro l
       induction l with
       | nil=>intro i;rfl
       | cons b l ih=>intro i;rw[anyI,ih,h1,List.any_cons];simp
      rw[anyI,this,h0]
      simp[Bool.or_assoc]
   ·have hs:∀i,zci e i=decide (e.kind.1=5\/e.kind.1=7\/e.kind.1=9\/e.kind.1=10):=fun i=>by
     unfold zci
     congr 1
     apply propext
     omega
    rw[ze6 (g:=fun _ a=>(decide (e.kind.1=5\/e.kind.1=7\/e.kind.1=9\/e.kind.1=10) && zaW vars a) || misX vars a) fun a _ i=>by rw[hs],zjM]
    by_cases h5:e.kind.1=5\/e.kind.1=7\/e.kind.1=10
    ·rw[if_pos h5,decide_eq_true (show e.kind.1=5\/e.kind.1=7\/e.kind.1=9\/e.kind.1=10 by omega),decide_eq_false (show ¬(e.kind.1=8\/e.kind.1=9) by omega)]
     simp
    ·rw[if_neg h5,if_neg h6]
     by_cases h8:e.kind.1=8
     ·rw[if_pos h8,decide_eq_true (show e.kind.1=8\/e.kind.1=9 by omega),decide_eq_false (show ¬(e.kind.1=5\/e.kind.1=7\/e.kind.1=9\/e.kind.1=10) by omega)]
      simp
     ·rw[if_neg h8]
      by_cases h9:e.kind.1=9
      ·rw[if_pos h9,decide_eq_true (show e.kind.1=8\/e.kind.1=9 by omega),decide_eq_true (show e.kind.1=5\/e.kind.1=7\/e.kind.1=9\/e.kind.1=10 by omega)]
       simp[Bool.or_assoc]
      ·rw[if_neg h9,decide_eq_false (show ¬(e.kind.1=8\/e.kind.1=9) by omega),decide_eq_false (show ¬(e.kind.1=5\/e.kind.1=7\/e.kind.1=9\/e.kind.1=10) by omega)]
       simp
theorem ziE{v w:List Str}(h:∀s,s∈v ↔ s∈w):∀(m:Nat) (e:Ex),zgm v m e=zgm w m e
 | 0,_=>rfl
 | m+1,e=>by
   rw[zgm,zgm,ze2 fun a _=>ziE h m a,show decide (e.name∈v)=decide (e.name∈w) by rw[decide_eq_decide];exact h _]
theorem znG{v w:List Str}(h:∀s,s∈v ↔ s∈w)(e:Ex):zaW v e=zaW w e:=ziE h _ e
theorem zhY{us:List Equ}:∀(m:Nat) (v:List Str),(∀s∈v,∃u∈us,u.left=[s])->∀s∈zfU us m v,∃u∈us,u.left=[s]
 | 0,v,h=>h
 | m+1,v,h=>by
   rw[zfU]
   split
   ·exact h
   ·refine zhY m _ fun s hs=>?_
    obtain⟨w,h1,_,h3⟩:=zc2 us v
    rw[h1]at hs
    rcases List.mem_append.1 hs with hs|hs
    ·exact h s hs
    ·exact h3 s hs
theorem zsk{p:Prog}(h:(zbi p).2=0){n:Nod}(hn:n∈p.nodes)(s:Str):s∈((zao n).filter fun d=>decide (d.name∈zaJ n)).map Decl.name ↔ s∈zaJ n:=by
 constructor
 ·intro hs
  obtain⟨d,hd,rfl⟩:=List.mem_map.1 hs
  exact of_decide_eq_true (List.mem_filter.1 hd).2
 ·intro hs
  obtain⟨u,hu,hl⟩:=zhY _ [] (fun s hs=>by cases hs) s hs
  have hf:=zjN (zdz h).1 hn hu (s:=s) (by rw[hl];simp)
  cases hd:findD (zao n) s with
  | none=>rw[hd]at hf;cases hf
  | some d=>
    obtain⟨hm,rfl⟩:=zcL hd
    exact List.mem_map_of_mem (List.mem_filter.2 ⟨hm,decide_eq_true hs⟩)
end Go.Proofs.YtcbhlhmebbkgnaaGreat
namespace Go.TL
open Go
def Gh(id c:Nat)(m:M):Prop:=∃(p:Place) (a:Array MapEntry) (e:MapEntry),m.β[id]?=some p/\m.w.heap[p.b]?=some (.map (a.push e) (c+1))/\e.born=c/\∀x∈a.toList,x.born<c
def TOG(id c:Nat)(P:Program)(n:Nat)(all:Array Oper)(ops:List Oper)(env:Env)(H:Heap)(K:TK):Prop:=
 ∀(φ:Fm) (m:M) (a:Act),m.H=H->HRel m->ERel m n env a.tmps->zdK φ m.w a.defers->Gh id c m->wpListIn (Fr φ.r) 0 P all (Post φ m n K) ops a m.w
section rules
variable {P:Program}{n:Nat}{env:Env}{H:Heap}{K:TK}{all:Array Oper}{rest:List Oper}{tab:Tab}{id c:Nat}
variable {d:Nat}{ty:TypeId}{pos:String}{aft:Array Edge}
theorem TOG.op{op:Op}{v:SV}(hd:Nat.ble (d+1) n=true)
  (h:∀(m:M) (a:Act),ERel m n env a.tmps->∃x,(execOp a.eval ⟨some d,op,ty,pos,aft,none⟩).run P m.w= .ok (.value x) m.w/\SRel m v x)
  (k:TOG id c P n all rest ((d,v)::env) H K):TOG id c P n all (⟨some d,op,ty,pos,aft,none⟩::rest) env H K:=by
 intro φ m a h1 h2 h3 h4 h5
 obtain⟨x,hx,hr⟩:=h m a h3
 have hk:=k φ m _ h1 h2 (h3.put d (Nat.le_of_ble_eq_true hd) hr) (by simpa [Act.put]using h4) h5
 refine wpListIn_plain rfl fun K' hK=>?_
 unfold Oper.wpIn
 refine⟨fun _ _=>trivial,?_⟩
 rw[zaT hx (by intro d e;cases e)]
 simp only[Oper.uponIn]
 exact hK _ _ hk
theorem TOG.assign{x:Operand}{v:SV}(hd:Nat.ble (d+1) n=true)(hx:env.val x=some v)(k:TOG id c P n all rest ((d,v)::env) H K):TOG id c P n all (⟨some d,.assign x,ty,pos,aft,none⟩::rest) env H K:=
 TOG.op hd (fun m a h3=>⟨_,rfl,h3.val hx⟩) k
theorem TOG.extract{x:Operand}{vs:List SV}{i:Nat}{v:SV}(hd:Nat.ble (d+1) n=true)(hx:env.val x=some (.tup vs))(hv:vs[i]?=some v)(k:TOG id c P n all rest ((d,v)::env) H K):
  TOG id c P n all (⟨some d,.extract x i,ty,pos,aft,none⟩::rest) env H K:=
 TOG.op hd (fun m ac h3=>by
  have h:=h3.val hx
  generalize hq:ac.eval x=z at h
  cases h with
  | tup _ arr hs hr=>
    have hl:=(List.getElem?_eq_some_iff.1 hv).1
    have ha:arr[i]?=some (arr[i]'(by omega)):=Array.getElem?_eq_getElem (by omega)
    exact⟨_,by simp[execOp,hq,Instr.extract,ha],hr _ _ _ hv ha⟩) k
theorem map_push{m:M}(hm:HRel m){kt vt:TypeId}{es:List (Value×T)}(hH:m.H[id]?=some (.map kt vt es)){p:Place}(hp:m.β[id]?=some p){a:Array MapEntry}{clock:Nat}
  (b1:m.w.heap[p.b]?=some (.map a clock))(b2:a.size=es.length)(b3:∀(i:Nat) k t (e:MapEntry),es[i]?=some (k,t)->a[i]?=some e->e.key=k/\TRel m.A m.w t e.val/\e.born<clock)
  {kx:Value}{t:T}{x:Value}(ht:TRel m.A m.w t x):
  Step m ⟨m.A,m.β,m.H.set id (.map kt vt (es++[(kx,t)])),m.w.putObj p.b (.map (a.push { key:=kx,val:=x,born:=clock }) (clock+1))⟩/\
   HRel ⟨m.A,m.β,m.H.set id (.map kt vt (es++[(kx,t)])),m.w.putObj p.b (.map (a.push { key:=kx,val:=x,born:=clock }) (clock+1))⟩:=by
 have hbk:=hm.blk id p _ hp hH
 refine zlj hm hp hH rfl rfl b1 rfl rfl (fun L e=>by cases e) fun s=>⟨hbk.1,hbk.2.1,_,_,World.putObj_heap_same (Array.getElem?_eq_some_iff.1 b1).1,by simp[b2],fun i k t' e g1 g2=>?_⟩
 by_cases hi:i<es.length
 ·rw[List.getElem?_append_left hi]at g1
  rw[Array.getElem?_push_lt (by omega),<-Array.getElem?_eq_getElem]at g2
  obtain⟨q1,q2,q3⟩:=b3 i k t' e g1 g2
  exact⟨q1,s.trel hm q2,by omega⟩
 ·rw[List.getElem?_append_right (by omega)]at g1
  have:i=es.length:=by
   have:=(List.getElem?_eq_some_iff.1 g1).1
   simp at this;omega
  subst this
  simp at g1
  rw[<-b2,Array.getElem?_push_size]at g2
  cases g2
  obtain⟨rfl,rfl⟩:=g1
  exact⟨rfl,s.trel hm ht,by simp⟩
theorem TO.mapEntry(hT:zaB P tab){t kt vt:TypeId}{i iv:TyI}{x y:Operand}{es:List (Value×T)}{kv:SV}{kx:Value}{z:T}{H':Heap}(hd:Nat.ble (d+1) n=true)(ht:tab.get t=some i)(hk:i.k= .map kt vt)
  (hvt:tab.get vt=some iv)(hz:iv.zero=[z])(hag:iv.k.agg=false)(KK:Maps.Keyed P kt)(hx:env.val x=some (.mp id))(hH:H[id]?=some (.map kt vt es))(hks:zjS P kt es)(hy:env.val y=some kv)(hkv:∀m v,SRel m kv v->v=kx)(hkx:∃l,keyOf P kt kx=some l)
  (hr:zoL es kx none)(hH':H.set id (.map kt vt (es++[(kx,z)]))=H')(k:∀c:Nat,TOG id c P n all rest ((d,.tup [.t z,.i c])::env) H' K):TO false P n all (⟨some d,.mapEntry t x y,ty,pos,aft,none⟩::rest) env H K:=by
 intro φ m ac h1 h2 h3 h4
 have hy':=hkv _ _ (h3.val hy)
 have h:=h3.val hx
 obtain⟨zz,hz1,hz2,_,hz4⟩:=(hT vt iv hvt).zero
 obtain⟨g1,g0,g2⟩:=zbs (A:=m.A) (w:=m.w) _ _ hz2
 have hzz:zz.cells= #[zz]:=by
  have:=hz4 hag
  cases zz <;> simp[Value.oneCell']at this <;> rfl
 have hzr:TRel m.A m.w z zz:=g2 0 z zz (by rw[hz];rfl) (by rw[hzz];rfl)
 obtain⟨l,hl⟩:=hkx
 generalize hq:ac.eval x=v at h
 cases h with
 | mp _ p hp hn=>
   have hH1:m.H[id]?=some (.map kt vt es):=by rw[h1];exact hH
   obtain⟨a,clock,b1,b2,b3⟩:=zkf h2 hH1 hp
   have hlt:=(Array.getElem?_eq_some_iff.1 b1).1
   have hg:(getObj p.b).run P m.w= .ok (.map a clock) m.w:=by simp[getObj,Sem.run,b1]
   have hset:∀o',(setObj p.b o').run P m.w= .ok () (m.w.putObj p.b o'):=fun o'=>by simp[setObj,Sem.run,b1,World.putObj]
   obtain⟨s,hm'⟩:=map_push (kx:=kx) h2 hH1 hp b1 b2 b3 hzr
   have f1:(Instr.findKey kt kx a.toList).run P m.w= .ok none m.w:=by
    rcases zgi (w0:=m.w) KK hks b2 b3 ⟨l,hl⟩ m.w with ⟨f1,f2⟩|⟨j,tt,e,f1,f2,f3,f4⟩
    ·exact f1
    ·exact absurd rfl (hr j _ f2)
   have hrun:(Instr.mapEntry t (.map (some p.b)) kx).run P m.w= .ok (.tuple #[zz,goInt clock]) (m.w.putObj p.b (.map (a.push { key:=kx,val:=zz,born:=clock }) (clock+1))):=by
    unfold Instr.mapEntry
    simp only[Sem.run_bind,underlying,run_program,Result.andThen_ok,(hT t i ht).map hk,Sem.run_pure,hg,KK.check m.w _ hl,f1,hz1,hset]
   have hx':(execOp ac.eval ⟨some d,.mapEntry t x y,ty,pos,aft,none⟩).run P m.w= .ok (.value (.tuple #[zz,goInt clock])) (m.w.putObj p.b (.map (a.push { key:=kx,val:=zz,born:=clock }) (clock+1))):=by
    simp[execOp,hq,hy',hrun]
   refine wpListIn_plain rfl fun K' hK=>?_
   unfold Oper.wpIn
   refine⟨fun _ _=>trivial,?_⟩
   rw[zaT hx' (by intro d e;cases e)]
   simp only[Oper.uponIn]
   have hrel:SRel ⟨m.A,m.β,m.H.set id (.map kt vt (es++[(kx,z)])),m.w.putObj p.b (.map (a.push { key:=kx,val:=zz,born:=clock }) (clock+1))⟩ (.tup [.t z,.i clock]) (.tuple #[zz,goInt clock]):=
    .tup _ _ rfl fun i c y hc hy=>by
     match i with
     | 0=>simp at hc hy;subst hc;subst hy;exact .t _ _ (s.trel h2 hzr)
     | 1=>simp at hc hy;subst hc;subst hy;exact .t _ _ (.v _)
     | i+2=>simp at hc
   exact hK _ _ (TO.zej s (k clock φ ⟨m.A,m.β,m.H.set id (.map kt vt (es++[(kx,z)])),m.w.putObj p.b (.map (a.push { key:=kx,val:=zz,born:=clock }) (clock+1))⟩ _ (by rw[h1];exact hH') hm' ((h3.step h2 s).put d (Nat.le_of_ble_eq_true hd) hrel) (by simpa [Act.put]using h4.step h2 s)
    ⟨p,a,_,hp,World.putObj_heap_same hlt,rfl,fun e he=>by
      obtain⟨j,hj⟩:=List.getElem?_of_mem he
      have hj':a[j]?=some e:=by simpa using hj
      have hjl:=(Array.getElem?_eq_some_iff.1 hj').1
      exact(b3 j _ _ e (List.getElem?_eq_getElem (by omega)) hj').2.2⟩))
theorem zhj{α:Type}(f:α->α)(a:α):∀l:List α,(l++[a]).modify l.length f=l++[f a]
 | []=>rfl
 | b::r=>by simp[List.modify_succ_cons,zhj f a r]
theorem zmJ(xs:Array MapEntry)(p:MapEntry->Bool):xs.findIdx? p=xs.toList.findIdx? p:=by cases xs;simp
theorem TOG.entryStore{t kt vt:TypeId}{x y v:Operand}{es:List (Value×T)}{kx:Value}{z tv:T}{vv:SV}{H':Heap}(hx:env.val x=some (.mp id))(hH:H[id]?=some (.map kt vt (es++[(kx,z)])))(hy:env.val y=some (.i c))
  (hv:env.val v=some vv)(htv:vv.toT=some tv)(hH':H.set id (.map kt vt (es++[(kx,tv)]))=H')(k:TO false P n all rest env H' K):TOG id c P n all (⟨none,.entryStore t x y v,ty,pos,aft,none⟩::rest) env H K:=by
 intro φ m ac h1 h2 h3 h4 h5
 have hy':=(h3.val hy).v_eq
 have hvv:=(h3.val hv).toT htv
 have h:=h3.val hx
 generalize hq:ac.eval x=v at h
 cases h with
 | mp _ p hp hn=>
   have hH1:m.H[id]?=some (.map kt vt (es++[(kx,z)])):=by rw[h1];exact hH
   obtain⟨p',a,e,hp',b1,hc,hu⟩:=h5
   have:p'=p:=by rw[hp]at hp';cases hp';rfl
   subst this
   obtain⟨a',clock,c1,b2,b3⟩:=zkf h2 hH1 hp
   rw[b1]at c1
   cases c1
   have hsz:a.size=es.length:=by simpa using b2
   have hlt:=(Array.getElem?_eq_some_iff.1 b1).1
   have hek:e.key=kx:=(b3 es.length kx z e (by simp) (by rw[<-hsz];simp)).1
   have hg:(getObj p'.b).run P m.w= .ok (.map (a.push e) (c+1)) m.w:=by simp[getObj,Sem.run,b1]
   have hset:∀o',(setObj p'.b o').run P m.w= .ok () (m.w.putObj p'.b o'):=fun o'=>by simp[setObj,Sem.run,b1,World.putObj]
   have hidx:(a.push e).findIdx? (fun e=>((e.born:Nat):Int) == ((c:Nat):Int))=some a.size:=by
    have hn:a.toList.findIdx? (fun e=>((e.born:Nat):Int) == ((c:Nat):Int))=none:=by
     rw[List.findIdx?_eq_none_iff]
     intro x hx
     have:=hu x hx
     simp;omega
    rw[zmJ,Array.toList_push,List.findIdx?_append,hn]
    simp[hc]
   have hmod:(a.push e).modify a.size (fun e=>{ e with val:=ac.eval v })=a.push { e with val:=ac.eval v }:=by
    apply Array.ext'
    rw[Array.toList_modify,Array.toList_push,Array.toList_push,<-Array.length_toList,zhj]
   have hbk:=h2.blk id p' _ hp hH1
   obtain⟨s,hm'⟩:Step m ⟨m.A,m.β,m.H.set id (.map kt vt (es++[(kx,tv)])),m.w.putObj p'.b (.map (a.push { e with val:=ac.eval v }) (c+1))⟩/\HRel ⟨m.A,m.β,m.H.set id (.map kt vt (es++[(kx,tv)])),m.w.putObj p'.b (.map (a.push { e with val:=ac.eval v }) (c+1))⟩:=by
    refine zlj h2 hp hH1 rfl rfl b1 rfl rfl (fun L e=>by cases e) fun s=>⟨hbk.1,hbk.2.1,_,_,World.putObj_heap_same hlt,by simp[hsz],fun i k t' e' g1 g2=>?_⟩
    by_cases hi:i<es.length
    ·rw[List.getElem?_append_left hi]at g1
     rw[Array.getElem?_push_lt (by omega),<-Array.getElem?_eq_getElem]at g2
     obtain⟨q1,q2,q3⟩:=b3 i k t' e' (by rw[List.getElem?_append_left hi];exact g1) (by rw[Array.getElem?_push_lt (by omega),<-Array.getElem?_eq_getElem];exact g2)
     exact⟨q1,s.trel h2 q2,by omega⟩
    ·rw[List.getElem?_append_right (by omega)]at g1
     have:i=es.length:=by
      have:=(List.getElem?_eq_some_iff.1 g1).1
      simp at this;omega
     subst this
     simp at g1
     rw[<-hsz,Array.getElem?_push_size]at g2
     cases g2
     obtain⟨rfl,rfl⟩:=g1
     exact⟨hek,s.trel h2 hvv,by show e.born<_;omega⟩
   have hrun:(Instr.entryStore t (.map (some p'.b)) (.int .i64 c) (ac.eval v)).run P m.w= .ok () (m.w.putObj p'.b (.map (a.push { e with val:=ac.eval v }) (c+1))):=by
    unfold Instr.entryStore
    simp[Sem.run_bind,asInt,asIntOf,hg,hidx,hmod,hset]
   have hx':(execOp ac.eval ⟨none,.entryStore t x y v,ty,pos,aft,none⟩).run P m.w= .ok .skip (m.w.putObj p'.b (.map (a.push { e with val:=ac.eval v }) (c+1))):=by
    simp[execOp,hq,hy',hrun]
   refine wpListIn_plain rfl fun K' hK=>?_
   unfold Oper.wpIn
   refine⟨fun _ _=>trivial,?_⟩
   rw[zaT hx' (by intro d e;cases e)]
   simp only[Oper.uponIn]
   exact hK _ _ (TO.zej s (k φ ⟨m.A,m.β,m.H.set id (.map kt vt (es++[(kx,tv)])),m.w.putObj p'.b (.map (a.push { e with val:=ac.eval v }) (c+1))⟩ _ (by rw[h1];exact hH') hm' (by simpa [Act.put]using h3.step h2 s) (by simpa [Act.put]using h4.step h2 s)))
end rules
end Go.TL
namespace Go.Proofs.YtcbhlhmebbkgnaaGreat
open Go Go.TL
attribute [local irreducible] TR TO Then zaw RetK Sound zab Kf GG zaZ
abbrev zk2 (l:List Str)(e:Ex):Prop:=Sound Tryz.prog 35 [.mp 0,.t (exT e)] [setB l] (fun r H'=>r= .ret (.b (zaW l e))/\H'=[setB l])
abbrev zrC (l:List Str)(es:List Ex):Prop:=Sound Tryz.prog 56 [.mp 0,.t (.sl 6 (es.map exT))] [setB l] (fun r H'=>r= .ret (.b (es.any (zaW l)))/\H'=[setB l])
theorem zsi{b b':Bool}{Hc H:Heap}{env:Env}{rs:List ResultVar}{k N:Nat}(h:b=b')(hr:zca tab env H rs=some [.b b]:=by exact rfl)(hN:Nat.ble N k=true:=by exact rfl)(hk:Nat.ble k H.length=true:=by exact rfl)(hH:H.take k=Hc:=by exact rfl)(hb:zaf k Hc=true:=by exact rfl):
  RetK tab rs N (fun r H'=>r= .ret (.b b')/\H'=Hc) .ret env H:=by
 subst h
 exact RetK.keep k hr (Le.refl _) hN hk rfl hH hb ⟨rfl,rfl⟩
theorem zjH(l:List Str)(es:List Ex)(hle:es.length≤1000000000)(h:∀e∈es,zk2 l e):zrC l es:=by
 have hml:(es.map exT).length=es.length:=List.length_map _
 refine so Tryz.func56 ?_
 repeat' (first|refine wu ?_|exact wkc|intro hc|refine wk2 ?_ ?_|fail)
 refine TR.zal es.length (fun k=>(es.take k).any (zaW l)=false) (fun k=>[(0,.mp 0),(7,.t (.sl 6 (es.map exT))),(8,.i (es.map exT).length),(9,.i k)]) (fun _=>[setB l]) rfl (fun k hlt ha=>?_) (fun ha=>?_)
 ·have hx:=zbd hlt
  have hs:=h _ (List.getElem_mem hlt)
  unfold zk2 at hs
  have htk:(es.take (k+1)).any (zaW l)=((es.take k).any (zaW l) || zaW l es[k]):=by rw[List.take_succ_eq_append_getElem hlt,List.any_append];simp
  have hall:zaW l es[k]=true->es.any (zaW l)=true:=fun h=>List.any_eq_true.2 ⟨_,List.getElem_mem hlt,h⟩
  rw[ha,Bool.false_or]at htk
  generalize es[k]=x at*
  generalize zaW l x=b at*
  rw[zaA]at hs
  unfold exC at*
  repeat' (first|refine wu ?_|exact wkc|intro hc|refine wk2 ?_ ?_|(apply TO.zem 1 hs;(iterate 3 exact rfl);exact⟨Le.refl _,Le.refl _,trivial⟩;exact lb;(iterate 3 exact rfl))|fail)
  ·exact zsi (k:=1) (hall hc).symm
  ·exact zab.zak hlt (by rw[htk];exact hc)
 ·rw[List.take_length]at ha
  repeat' (first|refine wu ?_|exact wkc|intro hc|refine wk2 ?_ ?_|fail)
  exact zsi (k:=1) ha.symm
theorem zgS(l:List Str)(hl:za0 l):∀(m:Nat) (e:Ex),wEx e≤m->m≤1000000000->(∀x∈flat e,x.name.length≤1000000000)->zk2 l e:=by
 intro m
 induction m with
 | zero=>intro e he;have:=zaI e;omega
 | succ m ih=>
   intro e he hm hn
   have hs:=zjH l e.args (by have:=zcq e;omega) fun a ha=>ih a (by have:=zaE ha;omega) (by omega) fun x hx=>hn x (zc0 ha x hx)
   have hnm:=hn e (by rw[za2];simp)
   have hb:=zkh l e
   unfold zk2
   unfold zrC at hs
   rw[zaA]
   generalize zaW l e=b at*
   generalize e.args.any (zaW l)=z at*
   clear ih hn
   unfold exC
   refine so Tryz.func35 ?_
   repeat' (first|refine wu ?_|exact wkc|intro hc|refine wk2 ?_ ?_|(apply TO.zem 1 hs;(iterate 3 exact rfl);exact⟨Le.refl _,Le.refl _,trivial⟩;exact lb;(iterate 3 exact rfl))|(apply TO.zer;(iterate 4 exact rfl);assumption;assumption)|fail)
   all_goals
    refine zsi (k:=1) ?_
    clear hs
    grind
end Go.Proofs.YtcbhlhmebbkgnaaGreat
namespace Go.Proofs.YtcbhlhmebbkgnaaGreat
open Go Go.TL
attribute [local irreducible] TR TO Then zaw RetK Sound zab Kf GG zaZ
attribute [local irreducible] TOG
theorem TO.zrK{n:Nat}{env:Env}{K:TK}{all:Array Oper}{rest:List Oper}{d id:Nat}{ty:TypeId}{pos:String}{aft:Array Edge}{H H':Heap}{x y:Operand}{l:List Str}{s:Str}(hd:Nat.ble (d+1) n=true)(hx:env.val x=some (.mp id))(hH:H[id]?=some (setB l))(hy:env.val y=some (.s s))(hl:za0 l)(hn:s ∉ l)(hs:s.length≤1000000000)
  (hH':H.set id (.map 9 4 ((l.map fun s=>(str s,.v (.bool true)))++[(str s,.b false)]))=H')
  (k:∀c:Nat,TOG id c Tryz.prog n all rest ((d,.tup [.b false,.i c])::env) H' K):
  TO false Tryz.prog n all (⟨some d,.mapEntry 61 x y,ty,pos,aft,none⟩::rest) env H K:=by
 have hg:=zmL hl s
 rw[if_neg hn]at hg
 exact TO.mapEntry zam hd rfl rfl rfl rfl rfl kStr hx hH hl.keys hy (kx:=str s) (fun m v h=>h.v_eq) (keyS hs) hg hH' k
theorem TOG.zsm{n:Nat}{env:Env}{K:TK}{all:Array Oper}{rest:List Oper}{id c:Nat}{ty:TypeId}{pos:String}{aft:Array Edge}{H H':Heap}{x y w:Operand}{l:List Str}{s:Str}(hx:env.val x=some (.mp id))(hH:H[id]?=some (.map 9 4 ((l.map fun s=>(str s,.v (.bool true)))++[(str s,.b false)])))(hy:env.val y=some (.i c))(hw:env.val w=some (.b true))
  (hH':H.set id (setB (l++[s]))=H')(k:TO false Tryz.prog n all rest env H' K):
  TOG id c Tryz.prog n all (⟨none,.entryStore 61 x y w,ty,pos,aft,none⟩::rest) env H K:=
 TOG.entryStore hx hH hy hw rfl (by rw[<-hH'];simp[setB]) k
theorem zjY{us:List Equ}{v:List Str}{k:Nat}(h:k<us.length):zbW (us.take (k+1)) v=zkX (zbW (us.take k) v) us[k]:=by
 unfold zbW
 rw[List.take_succ_eq_append_getElem h,List.foldl_append];rfl
theorem zlY(us:List Equ)(v:List Str):v.length≤(zbW us v).length:=by
 obtain⟨w,h,_⟩:=zc2 us v
 rw[h];simp
structure zmT (us:List Equ):Prop where
 len:us.length≤1000000000
 left:∀u∈us,∀s∈u.left,s.length≤1000000000
 ex:∀u∈us,wEx u.right≤1000000000/\∀x∈flat u.right,x.name.length≤1000000000
theorem zoP{us:List Equ}(hu:zmT us){v:List Str}(hv:za0 v)(k:Nat):za0 (zbW (us.take k) v):=by
 obtain⟨w,h1,h2,h3⟩:=zc2 (us.take k) v
 rw[h1]
 refine⟨h2 hv.nodup,fun s hs=>?_⟩
 rcases List.mem_append.1 hs with hs|hs
 ·exact hv.short s hs
 ·obtain⟨u,hu1,hu2⟩:=h3 s hs
  exact hu.left u (List.mem_of_mem_take hu1) s (by rw[hu2];simp)
set_option maxHeartbeats 1000000 in
theorem zpr (n:Nod) (hu:zmT n.eqs) (v:List Str) (hv:za0 v):
  Sound Tryz.prog 51 [.cp (nodC n) 0,.ref 1 0] [setB v,.cells [.mp 0]] (fun r H'=>r= .ret (.b (decide (v.length<(zbW n.eqs v).length)))/\H'=[setB (zbW n.eqs v),.cells [.mp 0]]):=by
 have hml:(n.eqs.map equT).length=n.eqs.length:=List.length_map _
 have hlen:=hu.len
 unfold nodC
 refine so Tryz.func51 ?_
 repeat' (first|refine wu ?_|exact wkc|intro hc|refine wk2 ?_ ?_|fail)
 refine TR.zal n.eqs.length (fun k=>True) (fun k=>[(0,.cp (nC n) 0),(1,.ref 1 0),(3,.b (decide (v.length<(zbW (n.eqs.take k) v).length))),(7,.t (.sl 7 (n.eqs.map equT))),(8,.i (n.eqs.map equT).length),(9,.i k)])
  (fun k=>[setB (zbW (n.eqs.take k) v),.cells [.mp 0]]) trivial (fun k hlt _=>?_) (fun _=>?_) ⟨rfl,rfl,by(try dsimp only);rw[show decide (v.length<(zbW (n.eqs.take 0) v).length)=false by simp[zbW]];rfl,rfl,rfl,rfl,trivial⟩
 ·have hx:=zcP hlt
  have hok:=zoP hu hv k
  have htk:=zjY (v:=v) hlt
  have hvl:=zlY (n.eqs.take k) v
  obtain⟨he1,he2⟩:=hu.ex _ (List.getElem_mem hlt)
  have hleft:=hu.left _ (List.getElem_mem hlt)
  generalize zbW (n.eqs.take k) v=w at*
  generalize n.eqs[k]=u at*
  obtain⟨left,e⟩:=u
  have hs:=zgS w hok _ e (Nat.le_refl _) he1 he2
  unfold zkX at htk
  unfold zk2 at hs
  rw[zaA]at hs
  unfold equC exC at*
  dsimp only at htk he1 he2 hleft hx hs
  generalize zaW w e=b at*
  match left,htk,hleft with
  | [],htk,_=>
    rw[if_neg (by simp)]at htk
    repeat' (first|refine wu ?_|exact wkc|intro hc|refine wk2 ?_ ?_|fail)
    exact zab.zak hlt trivial ⟨rfl,rfl,by(try dsimp only);rw[htk];rfl,rfl,rfl,rfl,trivial⟩ (by(try dsimp only);rw[htk])
  | a::a'::r,htk,_=>
    rw[if_neg (by simp)]at htk
    have hmp:(a::a'::r).map T.s=T.s a::T.s a'::r.map T.s:=rfl
    rw[hmp]at hx
    repeat' (first|refine wu ?_|exact wkc|intro hc|refine wk2 ?_ ?_|fail)
    exact zab.zak hlt trivial ⟨rfl,rfl,by(try dsimp only);rw[htk];rfl,rfl,rfl,rfl,trivial⟩ (by(try dsimp only);rw[htk])
  | [a],htk,hleft=>
    have ha:a.length≤1000000000:=hleft a (by simp)
    simp only[List.length_cons,List.length_nil,List.headD_cons,true_and]at htk
    have hmp:[a].map T.s=[T.s a]:=rfl
    rw[hmp]at hx
    repeat' (first|(intro c;apply TOG.extract;(iterate 3 exact rfl);apply TOG.zsm;(iterate 5 exact rfl))|refine wkt ?_|(apply TR.zku 5 hmix;decide +kernel;exact rfl)|refine wk ?_|exact wkc|intro hc|refine wk2 ?_ ?_|(apply TO.zem 1 hs;(iterate 3 exact rfl);exact⟨Le.refl _,Le.refl _,trivial⟩;exact lb;(iterate 3 exact rfl))|(apply TO.zer;(iterate 4 exact rfl);assumption;assumption)|(apply TO.zrK;(iterate 4 exact rfl);assumption;assumption;assumption;exact rfl)|fail)
    ·rw[if_neg (fun h=>absurd h (by simp_all))]at htk
     exact zab.zak hlt trivial ⟨rfl,rfl,by(try dsimp only);rw[htk];rfl,rfl,rfl,rfl,trivial⟩ (by(try dsimp only);rw[htk])
    ·rw[if_pos (show ¬a∈w/\b=true from⟨by assumption,by assumption⟩)]at htk
     refine zab.zak hlt trivial ⟨rfl,rfl,?_,rfl,rfl,rfl,trivial⟩ ?_
     ·(try dsimp only)
      rw[htk,decide_eq_true (show v.length<(w++[a]).length by rw[List.length_append];simp only[List.length_cons,List.length_nil];omega)]
      first|done|rfl
     ·(try dsimp only);rw[htk];(first|done|rfl)
    ·rw[if_neg (fun h=>absurd h (by simp_all))]at htk
     exact zab.zak hlt trivial ⟨rfl,rfl,by(try dsimp only);rw[htk];rfl,rfl,rfl,rfl,trivial⟩ (by(try dsimp only);rw[htk])
 ·rw[List.take_length]
  repeat' (first|refine wu ?_|exact wkc|intro hc|refine wk2 ?_ ?_|fail)
  exact zsi (k:=2) rfl
end Go.Proofs.YtcbhlhmebbkgnaaGreat
namespace Go.Proofs.YtcbhlhmebbkgnaaGreat
open Go Go.TL
attribute [local irreducible] TR TO Then zaw RetK Sound zab Kf GG zaZ
def itL(us:List Equ):Nat->List Str->List Str
 | 0,v=>v
 | k+1,v=>itL us k (zbW us v)
theorem znu(us:List Equ):∀(k:Nat) (v:List Str),itL us (k+1) v=zbW us (itL us k v)
 | 0,_=>rfl
 | k+1,v=>by rw[itL,znu us k,itL]
theorem zop:∀(v l:List Str),v.Nodup->(∀s∈v,s∈l)->v.length≤l.length
 | [],_,_,_=>Nat.zero_le _
 | a::v,l,hn,hs=>by
   have ha:=hs a (by simp)
   have h1:=zop v (l.erase a) (List.nodup_cons.1 hn).2 fun s h=>(List.mem_erase_of_ne (fun e=>(List.nodup_cons.1 hn).1 (by rw[<-e];exact h))).2 (hs s (by simp[h]))
   rw[List.length_erase_of_mem ha]at h1
   have:=List.length_pos_of_mem ha
   simp only[List.length_cons];omega
theorem zhB{us:List Equ}{v:List Str}(hn:v.Nodup)(h:∀s∈v,∃u∈us,u.left=[s]):v.length≤us.length:=by
 have:=zop v (us.map fun u=>u.left.headD []) hn fun s hs=>by
  obtain⟨u,h1,h2⟩:=h s hs
  exact List.mem_map.2 ⟨u,h1,by rw[h2];rfl⟩
 simpa using this
theorem rounds(us:List Equ):∀(m:Nat) (v:List Str),v.Nodup->(∀s∈v,∃u∈us,u.left=[s])->us.length<m+v.length->
  ∃R,(∀k,k<R->(itL us k v).length<(itL us (k+1) v).length)/\itL us (R+1) v=itL us R v/\itL us R v=zfU us m v
 | 0,v,hn,hl,hm=>by have:=zhB hn hl;omega
 | m+1,v,hn,hl,hm=>by
   obtain⟨w,h1,h2,h3⟩:=zc2 us v
   by_cases he:zbW us v=v
   ·exact⟨0,fun k hk=>by omega,he,by rw[zfU,if_pos he];rfl⟩
   ·have hw:0<w.length:=by
     cases w with
     | nil=>rw[List.append_nil]at h1;exact absurd h1 he
     | cons=>simp
    have hlen:v.length<(zbW us v).length:=by rw[h1];simp;exact hw
    obtain⟨R,g1,g2,g3⟩:=rounds us m (zbW us v) (by rw[h1];exact h2 hn) (fun s hs=>by
     rw[h1]at hs
     rcases List.mem_append.1 hs with hs|hs
     ·exact hl s hs
     ·exact h3 s hs) (by omega)
    refine⟨R+1,fun k hk=>?_,g2,by rw[zfU,if_neg he];exact g3⟩
    cases k with
    | zero=>exact hlen
    | succ k=>exact g1 k (by omega)
theorem zq6{us:List Equ}(hu:zmT us):∀(k:Nat) {v:List Str},za0 v->za0 (itL us k v)
 | 0,_,h=>h
 | k+1,v,h=>zq6 hu k (by have:=zoP hu h us.length;rw[List.take_length]at this;exact this)
theorem zhP{n:Nod}(hu:zmT n.eqs):za0 (zaJ n):=by
 obtain⟨R,_,_,h⟩:=rounds n.eqs (n.eqs.length+1) [] List.nodup_nil (by simp) (by simp)
 unfold zaJ
 rw[<-h]
 exact zq6 hu R za0.nil
theorem zfr(n:Nod)(hu:zmT n.eqs):Sound Tryz.prog 30 [.t (.ag (nodC n))] [] (fun r H'=>r= .ret (.mp 0)/\H'=[setB (zaJ n)]):=by
 obtain⟨R,h1,h2,h3⟩:=rounds n.eqs (n.eqs.length+1) [] List.nodup_nil (by simp) (by simp)
 have hst:=fun k=>zpr n hu (itL n.eqs k []) (zq6 hu k za0.nil)
 simp only[<-znu]at hst
 unfold zaJ
 rw[<-h3]
 have h0:itL n.eqs 0 []=[]:=rfl
 generalize hI:(fun k=>itL n.eqs k [])=I
 have hIk:∀k,itL n.eqs k []=I k:=fun k=>by rw[<-hI]
 simp only[hIk]at*
 unfold nodC at*
 refine so Tryz.func30 ?_
 repeat' (first|refine wkb ?_|refine wk ?_|fail)
 refine TR.zal R (fun _=>True) (fun k=>[(3,.ref 1 0),(4,.fn 51 [.cp (nC n) 0,.ref 1 0])]) (fun k=>[setB (I k),.cells [.mp 0]]) trivial (fun k hlt _=>?_) (fun _=>?_) ?_ ?_
 ·have hs:=hst k
  rw[decide_eq_true (h1 k hlt)]at hs
  repeat' (first|refine wkb ?_|refine wk ?_|exact wkc|intro hc|refine wk2 ?_ ?_|refine wd hs ?_|fail)
  exact zab.zak hlt trivial
 ·have hs:=hst R
  rw[h2,decide_eq_false (Nat.lt_irrefl _)]at hs
  repeat' (first|refine wkb ?_|refine wk ?_|exact wkc|intro hc|refine wk2 ?_ ?_|refine wd hs ?_|fail)
  exact RetK.keep 1 rfl (Le.refl _) rfl rfl rfl rfl rfl ⟨rfl,rfl⟩
 ·exact⟨rfl,rfl,trivial⟩
 ·rw[h0];rfl
end Go.Proofs.YtcbhlhmebbkgnaaGreat
namespace Go.Proofs.YtcbhlhmebbkgnaaGreat
open Go Go.TL
attribute [local irreducible] TR TO Then zaw RetK Sound zab Kf GG zaZ
attribute [local irreducible] zcj
theorem zei(V:List Str)(hV:V.length≤2000000000):∀(m:Nat) (e:Ex),wEx e≤m->m≤1000000000->Pure Tryz.prog 37 [.t (.ag (exC e)),.t (zae V)] (.b (zaW V e)):=by
 intro m
 induction m with
 | zero=>intro e he;have:=zaI e;omega
 | succ m ih0=>
   intro e he hm
   have ih:=fun a (ha:a∈e.args)=>ih0 a (by have:=zaE ha;omega) (by omega)
   clear ih0
   have hh:=zba V e.name hV
   have hlen:=zcq e
   have hb:=zkh V e
   have hml:(e.args.map exT).length=e.args.length:=List.length_map _
   unfold exC
   generalize zaW V e=b at*
   generalize e.args=l at*
   by_cases h3:e.kind.1=3\/e.kind.1=4\/e.kind.1=8
   ·rw[if_neg (by omega),if_neg (by omega),if_pos h3]at hb
    refine so Tryz.func37 ?_
    repeat' (first|refine wu ?_|exact wkc|intro hc|refine wk2 ?_ ?_|fail)
    all_goals
     refine TR.zal l.length (fun k=>(l.take k).any (zaW V)=false) (fun k=>[(1,.t (zae V)),(2,.cp [T.n e.kind,T.n e.op,T.n e.t,T.n e.v,.s e.name,.sl 6 (l.map exT)] 0),(5,.i k)]) (fun _=>[]) rfl (fun k hlt ha=>?_) (fun ha=>?_)
     ·have hx:=zbd hlt
      have hs:=ih _ (List.getElem_mem hlt)
      have htk:(l.take (k+1)).any (zaW V)=((l.take k).any (zaW V) || zaW V l[k]):=by rw[List.take_succ_eq_append_getElem hlt,List.any_append];simp
      have hall:zaW V l[k]=true->l.any (zaW V)=true:=fun h=>List.any_eq_true.2 ⟨_,List.getElem_mem hlt,h⟩
      rw[ha,Bool.false_or]at htk
      generalize l[k]=x at*
      generalize zaW V x=bx at*
      clear ih
      unfold exC at*
      repeat' (first|refine wu ?_|exact wkc|intro hc|refine wk2 ?_ ?_|refine wbf hs ?_ ?_|fail)
      ·rw[hb,hall hc];exact wkr
      ·exact zab.zak hlt (by rw[htk];exact hc)
     ·rw[List.take_length]at ha
      rw[hb,ha]
      repeat' (first|refine wu ?_|exact wkc|intro hc|refine wk2 ?_ ?_|fail)
      exact wkr
   ·rw[if_neg h3]at hb
    refine so Tryz.func37 ?_
    repeat' (first|refine wu ?_|exact wkc|intro hc|refine wk2 ?_ ?_|refine wv hh ?_|fail)
    all_goals
     refine RetK.pure rfl (Le.of_eq ?_) rfl
     refine congrArg (fun b=>SV.t (T.v (Value.bool b))) ?_
     clear ih hh
     grind
def Lefts(us:List Equ)(v:List Str):Prop:=v.Nodup/\∀s∈v,∃u∈us,u.left=[s]
theorem Lefts.step{us:List Equ}{v:List Str}(h:Lefts us v)(j:Nat):Lefts us (zbW (us.take j) v):=by
 obtain⟨w,h1,h2,h3⟩:=zc2 (us.take j) v
 rw[h1]
 refine⟨h2 h.1,fun s hs=>?_⟩
 rcases List.mem_append.1 hs with hs|hs
 ·exact h.2 s hs
 ·obtain⟨u,hu,hl⟩:=h3 s hs
  exact⟨u,List.mem_of_mem_take hu,hl⟩
theorem Lefts.it{us:List Equ}:∀(k:Nat) {v:List Str},Lefts us v->Lefts us (itL us k v)
 | 0,_,h=>h
 | k+1,v,h=>Lefts.it k (by have:=h.step us.length;rw[List.take_length]at this;exact this)
theorem Lefts.nil(us:List Equ):Lefts us []:=⟨List.nodup_nil,by simp⟩
set_option maxHeartbeats 2000000 in
theorem zhl (n:Nod) (hu:zmT n.eqs):Pure Tryz.prog 32 [.t (.ag (nodC n))] (.t (zae (zaJ n))):=by
 obtain⟨R,h1,h2,h3⟩:=rounds n.eqs (n.eqs.length+1) [] List.nodup_nil (by simp) (by simp)
 have hlen:=hu.len
 have hll:∀k j,((zbW (n.eqs.take j) (itL n.eqs k []))).length≤1000000000:=fun k j=>by
  have h:=((Lefts.nil n.eqs).it k).step j
  have:=zhB h.1 h.2
  omega
 unfold zaJ
 rw[<-h3]
 have h0:itL n.eqs 0 []=[]:=rfl
 have hml:(n.eqs.map equT).length=n.eqs.length:=List.length_map _
 have hstep:=fun k=>znu n.eqs k []
 generalize hI:(fun k=>itL n.eqs k [])=I
 have hIk:∀k,itL n.eqs k []=I k:=fun k=>by rw[<-hI]
 simp only[hIk]at*
 have hag:∀k,k≤R->decide ((I k).length<(I (k+1)).length)=decide (k+1≤R):=fun k hk=>by
  by_cases h:k<R
  ·rw[decide_eq_true (h1 k h),decide_eq_true (by omega)]
  ·have:k=R:=by omega
   subst this
   rw[h2,decide_eq_false (Nat.lt_irrefl _),decide_eq_false (by omega)]
 clear hI hIk h3
 unfold nodC
 refine so Tryz.func32 ?_
 repeat' (first|refine wu ?_|exact wkc|intro hc|refine wk2 ?_ ?_|fail)
 refine TR.tail 1 3 rfl ?_
 refine TR.weak ?_
 refine TR.zal (R+1) (fun _=>True) (fun k=>[(1,.cp (nC n) 0),(3,.sl 1 ((I k).map T.s) 0),(4,.b (decide (k≤R)))]) (fun k=>[.tail ((I k).map T.s).length]) trivial (fun k hlt _=>?_) (fun _=>?_) ⟨rfl,by rw[h0];rfl,rfl,trivial⟩ (by rw[h0];rfl)
 ·rw[decide_eq_true (show k≤R by omega)]
  have hst:=hstep k
  have hlk:=hll k
  have hag:=hag k (by omega)
  repeat' (first|refine wu ?_|exact wkc|intro hc|refine wk2 ?_ ?_|fail)
  refine TR.zal n.eqs.length (fun _=>True) (fun j=>[(1,.cp (nC n) 0),(3,.sl 1 ((zbW (n.eqs.take j) (I k)).map T.s) 0),(4,.b (decide ((I k).length<(zbW (n.eqs.take j) (I k)).length))),(5,.i j)]) (fun j=>[.tail ((zbW (n.eqs.take j) (I k)).map T.s).length]) trivial (fun j hlj _=>?_) (fun _=>?_) ⟨rfl,rfl,by(try dsimp only);rw[show decide ((I k).length<(zbW (n.eqs.take 0) (I k)).length)=false by simp[zbW]];rfl,rfl,trivial⟩ rfl
  ·have hx:=zcP hlj
   have htk:=zjY (v:=I k) hlj
   have hvl:=zlY (n.eqs.take j) (I k)
   have hwl:=hlk j
   obtain⟨he1,he2⟩:=hu.ex _ (List.getElem_mem hlj)
   have hmw:((zbW (n.eqs.take j) (I k)).map T.s).length=(zbW (n.eqs.take j) (I k)).length:=List.length_map _
   clear hll hlk hst hstep hu hag
   generalize zbW (n.eqs.take j) (I k)=w at*
   generalize n.eqs[j]=u at*
   obtain⟨left,e⟩:=u
   have hs:=zei w (by omega) _ e (Nat.le_refl _) he1
   have h10:e.kind.1=10->zaW w e=false:=fun h=>by rw[zkh,if_neg (by omega),if_neg (by omega),if_neg (by omega)]
   unfold zkX at htk
   unfold equC at hx
   unfold exC at hs
   dsimp only at htk he1 he2 hx hs
   generalize zaW w e=b at*
   match left,htk with
   | [],hq=>
     rw[if_neg (by simp)]at hq
     repeat' (first|refine wu ?_|exact wkc|intro hc|refine wk2 ?_ ?_|fail)
     all_goals exact zab.zak hlj trivial ⟨rfl,by(try dsimp only);rw[hq];rfl,by(try dsimp only);rw[hq];rfl,rfl,trivial⟩ (by(try dsimp only);rw[hq])
   | a::a'::r,hq=>
     rw[if_neg (by simp)]at hq
     have hmp:(a::a'::r).map T.s=T.s a::T.s a'::r.map T.s:=rfl
     rw[hmp]at hx
     repeat' (first|refine wu ?_|exact wkc|intro hc|refine wk2 ?_ ?_|fail)
     all_goals exact zab.zak hlj trivial ⟨rfl,by(try dsimp only);rw[hq];rfl,by(try dsimp only);rw[hq];rfl,rfl,trivial⟩ (by(try dsimp only);rw[hq])
   | [a],hq=>
     have hh:=zba w a (by omega)
     simp only[List.length_cons,List.length_nil,List.headD_cons,true_and]at hq
     have hmp:[a].map T.s=[T.s a]:=rfl
     rw[hmp]at hx
     by_cases hp:a ∉ w/\b=true
     ·rw[if_pos hp]at hq
      rw[decide_eq_false hp.1]at hh
      rw[hp.2]at hs h10
      repeat' (first|refine wu ?_|exact wkc|intro hc|refine wk2 ?_ ?_|refine wv hs ?_|refine wv hh ?_|fail)
      all_goals first
       | exact zab.zak hlj trivial ⟨rfl,by(try dsimp only);rw[hq,List.map_append];rfl,by(try dsimp only);rw[hq,decide_eq_true (show(I k).length<(w++[a]).length by rw[List.length_append];simp only[List.length_cons,List.length_nil];omega)];(first|done|rfl),rfl,trivial⟩ (by(try dsimp only);rw[hq,List.map_append,List.length_append];rfl)
       | (exfalso;have:=h10 (by omega);simp at this)
     ·rw[if_neg hp]at hq
      cases b with
      | false=>
        repeat' (first|refine wu ?_|exact wkc|intro hc|refine wk2 ?_ ?_|refine wv hs ?_|refine wv hh ?_|fail)
        all_goals exact zab.zak hlj trivial ⟨rfl,by(try dsimp only);rw[hq];rfl,by(try dsimp only);rw[hq];rfl,rfl,trivial⟩ (by(try dsimp only);rw[hq])
      | true=>
        rw[decide_eq_true (show a∈w from Classical.byContradiction fun h=>hp ⟨h,rfl⟩)]at hh
        repeat' (first|refine wu ?_|exact wkc|intro hc|refine wk2 ?_ ?_|refine wv hs ?_|refine wv hh ?_|fail)
        all_goals exact zab.zak hlj trivial ⟨rfl,by(try dsimp only);rw[hq];rfl,by(try dsimp only);rw[hq];rfl,rfl,trivial⟩ (by(try dsimp only);rw[hq])
  ·rw[List.take_length,<-hst]
   repeat' (first|refine wu ?_|exact wkc|intro hc|refine wk2 ?_ ?_|fail)
   exact zab.zak hlt trivial ⟨rfl,rfl,by(try dsimp only);rw[<-hag];rfl,trivial⟩ rfl
 ·rw[decide_eq_false (show ¬R+1≤R by omega),h2]
  repeat' (first|refine wu ?_|exact wkc|intro hc|refine wk2 ?_ ?_|fail)
  refine zcj.own 3 rfl ?_
  repeat' (first|refine wu ?_|exact wkc|intro hc|refine wk2 ?_ ?_|fail)
  exact wkr
end Go.Proofs.YtcbhlhmebbkgnaaGreat
