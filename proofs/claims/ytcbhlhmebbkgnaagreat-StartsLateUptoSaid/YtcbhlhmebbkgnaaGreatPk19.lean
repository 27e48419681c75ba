import Derived.Test.YtcbhlhmebbkgnaaGreatPk13
import Derived.Test.YtcbhlhmebbkgnaaGreatPk17
import Derived.Test.YtcbhlhmebbkgnaaGreatPk18
set_option linter.unusedSimpArgs false
set_option linter.unusedVariables false
namespace Go.Proofs.YtcbhlhmebbkgnaaGreat
open Go Go.TL
attribute [local irreducible] TR TO Then zaw RetK Sound zab Kf GG zaZ
theorem wkD{G Q:Prop}(k:Q)(h:Hold Q->G:=by
  first
  | (intro k;apply TR.zsj hmix;decide +kernel;exact rfl;exact k.p)
  | (intro k;apply TR.zrF hmix;decide +kernel;exact rfl;exact k.p)):G:=h ⟨k⟩
theorem wsx{G Q:Prop}(k:Q)(h:Hold Q->G:=by
  intro k
  first
  | (apply TO.zjP;(iterate 3 exact rfl);assumption;exact k.p)
  | (apply TO.zp3;(iterate 4 exact rfl);assumption;assumption;exact rfl;exact k.p)):G:=h ⟨k⟩
theorem wsy{G Q R:Prop}(k:Q)(l:R)(h:Hold Q->Hold R->G:=by
  intro k l
  first
  | (apply TO.zer;(iterate 4 exact rfl);assumption;assumption;exact k.p;exact l.p)
  | (apply TO.sees hk;exact rfl;exact rfl;(first|exact rfl|exact Ch.tk _ _ _ _ _);assumption;exact k.p;exact l.p)
  | (apply TO.defined hk;exact rfl;exact rfl;(first|exact rfl|exact Ch.tk _ _ _ _ _);assumption;exact k.p;exact l.p)):G:=h ⟨k⟩ ⟨l⟩
def zkM(p:Prog)(seen:List (Int×Str×Int))(node left:Int)(x:Ex):Int:=
 match zay seen 1 x.name with
 | none=>6
 | some i=>if i<node then(match p.nodes[i.toNat]? with
   | none=>0
   | some n=>if(x.args.length:Int)≠n.ins.length+x.v.1 then 9 else if(n.outs.length:Int)≠left then 9 else 0) else 6
def zcC(p:Prog)(seen:List (Int×Str×Int)):Prop:=∀s i,zay seen 1 s=some i->0≤i/\i<p.nodes.length
section
variable {n:Nat}{env:Env}{K:TK}{all:Array Oper}{rest:List Oper}{d id:Nat}{ty:TypeId}{pos:String}{aft:Array Edge}{H:Heap}{x y:Operand}{q:Bool}
theorem TO.ztw{l:List (Int×Str×Int)}{s:Str}{k v:Int}(hd:Nat.ble (d+1) n=true)(hx:env.val x=some (.mp id))(hH:H[id]?=some (zch l))(hy:env.val y=some (.t (.ag [.i k,.s s])))(hg:zay l k s=some v)(hl:za4 l)(hk:0≤k/\k≤2)(hs:s.length≤1000000000)
  (k1:TO q Tryz.prog n all rest ((d,.tup [.i v,.b true])::env) H K):
  TO q Tryz.prog n all (⟨some d,.lookup 140 x y true,ty,pos,aft,none⟩::rest) env H K:=
 TO.zkd hd hx hH hy hl hk hs (fun w hw=>by rw[hg]at hw;cases hw;exact k1) (fun hn=>by rw[hg]at hn;cases hn)
theorem TO.zsM{l:List (Int×Str×Int)}{s:Str}{k:Int}(hd:Nat.ble (d+1) n=true)(hx:env.val x=some (.mp id))(hH:H[id]?=some (zch l))(hy:env.val y=some (.t (.ag [.i k,.s s])))(hg:zay l k s=none)(hl:za4 l)(hk:0≤k/\k≤2)(hs:s.length≤1000000000)
  (k1:TO q Tryz.prog n all rest ((d,.tup [.i 0,.b false])::env) H K):
  TO q Tryz.prog n all (⟨some d,.lookup 140 x y true,ty,pos,aft,none⟩::rest) env H K:=
 TO.zkd hd hx hH hy hl hk hs (fun w hw=>by rw[hg]at hw;cases hw) (fun _=>k1)
end
theorem retB{rs:List ResultVar}{env:Env}{H H1:Heap}{n q c c':Int}{N:Nat}{v:SV}(h0:c'≠0)(hc:c'=c)(hN:Nat.ble N H.length=true):
  zf3 (RetK tab rs N (Err0 c v (zcA n q c) H1 N)) (.panic (zcA n q c')) env H:=retS h0 hc (Nat.le_of_ble_eq_true hN)
theorem znH(p:Prog)(hp:p.nodes.length≤1000000000)(hq:∀u∈p.nodes,u.ins.length≤1000000000/\u.outs.length≤1000000000)(a q:Int)(seen:List (Int×Str×Int))(hse:za4 seen)(hsn:zcC p seen)(node left:Int)(x:Ex)(hv:x.v.1=0\/x.v.1=1)(hno:x.name.length≤1000000000):
  Sound Tryz.prog 211 [.ref 0 0,.i node,.t (.ag (exC x)),.i left] [lkB p a q,zch seen] (Err (zkM p seen node left x) (.tup []) (zcA a q (zkM p seen node left x)) [lkB p a q,zch seen]):=by
 have hml:(p.nodes.map nodT).length=p.nodes.length:=List.length_map _
 have hmx:(x.args.map exT).length=x.args.length:=List.length_map _
 unfold zkM exC
 cases hg:zay seen 1 x.name with
 | none=>
   simp only[]
   refine Sound.err rfl (fun _=>rfl) ?_
   refine so Tryz.func211 ?_
   refine TR.dead ?_
   repeat' (first|refine wkt ?_|refine wka ?_|refine wkD ?_|refine wk ?_|exact wkc|intro hc|refine wk2 ?_ ?_|refine wsx ?_|refine wms ?_|refine wsy ?_ ?_|(apply TO.zsM;(iterate 4 exact rfl);assumption;assumption;decide;assumption)|fail)
   (apply retB;decide;rfl;exact rfl)
 | some i=>
   obtain⟨hi0,hi1⟩:=hsn _ _ hg
   simp only[]
   by_cases hin:i<node
   ·rw[if_pos hin]
    obtain⟨k,rfl⟩:∃k:Nat,i=k:=⟨i.toNat,by omega⟩
    have hk:k<p.nodes.length:=by omega
    have hat:(p.nodes.map nodT)[((k:Int)).toNat]?=some (.ag (nodC p.nodes[k])):=zb7 hk
    have hat2:p.nodes[((k:Int)).toNat]?=some p.nodes[k]:=List.getElem?_eq_getElem hk
    rw[hat2]
    have hqk:=hq _ (List.getElem_mem hk)
    generalize p.nodes[k]=u at*
    have m1:(u.ins.map zah).length=u.ins.length:=List.length_map _
    have m2:(u.outs.map zah).length=u.outs.length:=List.length_map _
    simp only[]
    unfold nodC at hat
    refine Sound.err rfl (fun _=>rfl) ?_
    refine so Tryz.func211 ?_
    refine TR.dead ?_
    repeat' (first|refine wkt ?_|refine wka ?_|refine wkD ?_|refine wk ?_|exact wkc|intro hc|refine wk2 ?_ ?_|refine wsx ?_|refine wms ?_|refine wsy ?_ ?_|(apply TO.ztw;(iterate 4 exact rfl);assumption;assumption;decide;assumption)|fail)
    ·exact zkK (by clear hat;simp;omega) rfl rfl rfl rfl
    ·(apply retB;decide;(clear hat;rw[if_neg (by simp;omega),if_pos (by omega)]);exact rfl)
    ·(apply retB;decide;(clear hat;rw[if_pos (by simp;omega)]);exact rfl)
   ·rw[if_neg hin]
    refine Sound.err rfl (fun _=>rfl) ?_
    refine so Tryz.func211 ?_
    refine TR.dead ?_
    repeat' (first|refine wkt ?_|refine wka ?_|refine wkD ?_|refine wk ?_|exact wkc|intro hc|refine wk2 ?_ ?_|refine wsx ?_|refine wms ?_|refine wsy ?_ ?_|(apply TO.ztw;(iterate 4 exact rfl);assumption;assumption;decide;assumption)|fail)
    (apply retB;decide;rfl;exact rfl)
end Go.Proofs.YtcbhlhmebbkgnaaGreat
namespace Go.TL
open Go
section rules
variable {P:Program}{all:Array Oper}
def zt1(g:Prop):List Oper->Prop
 | []=>g
 | _::_=>True
def zp1(P:Program)(n:Nat)(K:TK)(g:Prop)(all:Array Oper)(full:Env)(H0:Heap):List Oper->List (SV×Bool)->Prop
 | [],[]=>True
 | o::l,(v,_)::t=>(∀env,TO false P n all [o] (za8 full (slotsOf all o)++env) H0 (NKP K (zt1 g l) (putE o.dst v (za8 full (slotsOf all o)++env)) H0))/\zp1 P n K g all full H0 l t
 | _,_=>False
theorem zp1.get{n:Nat}{K:TK}{g:Prop}{full:Env}{H0:Heap}:∀ {l:List Oper} {t:List (SV×Bool)},zp1 P n K g all full H0 l t->l.length=t.length/\∀(i:Nat) o v b,l[i]?=some o->t[i]?=some (v,b)->
  ∀env,TO false P n all [o] (za8 full (slotsOf all o)++env) H0 (NKP K (zt1 g (l.drop (i+1))) (putE o.dst v (za8 full (slotsOf all o)++env)) H0)
 | [],[],_=>⟨rfl,fun i o v b h=>by simp at h⟩
 | [],_::_,h=>h.elim
 | _::_,[],h=>h.elim
 | o::l,(v,b)::t,h=>by
   obtain⟨h1,h2⟩:=h
   obtain⟨g1,g2⟩:=zp1.get h2
   refine⟨by simp[g1],fun i o' v' b' ho hv=>?_⟩
   cases i with
   | zero=>simp at ho hv;obtain⟨rfl,rfl⟩:=hv;subst ho;exact h1
   | succ i=>exact g2 i o' v' b' (by simpa using ho) (by simpa using hv)
theorem TR.zmN{g:Prop}{n:Nat}{env0 envF:Env}{H0:Heap}{K:TK}{id':Nat}{l:List Oper}(t:List (SV×Bool))(hm:P.follows .mixedOrders=true)(hB:mixB l.toArray (t.map (·.2))=true)
  (hp:zp1 P n K g l.toArray (zcw l.toArray (t.map (·.1)) env0) H0 l t)(hE:zct (zcw l.toArray (t.map (·.1)) env0)=some envF)(hne:0<l.length)(hK:g->K .normal envF H0):
  TR P n (.region id' l.toArray true) env0 H0 K:=by
 obtain⟨g1,g2⟩:=hp.get
 intro φ m a h1 h2 h3 h4
 let hs:=List.replicate (((t.map (·.2)).filter id).length+1) H0
 have hsg:∀(c:Nat) H,hs[c]?=some H->H=H0:=by
  intro c H h
  rw[List.getElem?_replicate]at h
  split at h
  ·cases h;rfl
  ·cases h
 have hsi:∀c:Nat,c≤((t.map (·.2)).filter id).length->hs[c]?=some H0:=by
  intro c hc
  rw[List.getElem?_replicate,if_pos (by omega)]
 have s0:Step m ⟨m.A,m.β,m.H,{ m.w with drawn:=m.w.drawn+1 }⟩/\HRel ⟨m.A,m.β,m.H,{ m.w with drawn:=m.w.drawn+1 }⟩:=zeL h2 ⟨rfl,rfl,rfl,Nat.le_refl _,fun _ _=>rfl⟩
 refine zbU (wpIn_region_any hm ?_)
 refine zkk [] (G:=fun i=>zt1 g (l.drop (i+1))) (vs:=t.map (·.1)) (fl:=t.map (·.2)) (hs:=hs) (HF:=H0) (m0:=m) (fun t ht=>by simp at ht) hB (by simp[g1]) (by simp[g1]) ?_ ?_ (hsi _ (Nat.le_refl _)) (fun hg=>by rw[zbO hE]at hK;exact hK (by have:=hg (l.length-1) (by simp;omega);rw[List.drop_of_length_le (by omega)]at this;exact this)) l.toArray.size (Array.replicate l.toArray.size false)
  ⟨m.A,m.β,m.H,{ m.w with drawn:=m.w.drawn+1 }⟩ a (by simp) ?_ ?_ ?_ s0.1 s0.2 ?_ (h4.step h2 s0.1)
 ·intro i o v ho hv hb c H hc env
  obtain⟨⟨v',b⟩,hx,rfl⟩:∃x,t[i]?=some x/\x.1=v:=by simpa using hv
  rw[hsg c H hc]
  exact g2 i o v' b (by simpa using ho) hx env
 ·intro i o v ho hv hb
  obtain⟨⟨v',b⟩,hx,rfl⟩:∃x,t[i]?=some x/\x.1=v:=by simpa using hv
  have hlt:(((t.map (·.2)).take i).filter id).length<((t.map (·.2)).filter id).length:=by
   have hm:∀(fl':List Bool) (x:Nat),fl'.getD x false=true->((fl'.take x).filter id).length<(fl'.filter id).length:=by
    intro fl'
    induction fl' with
    | nil=>intro x h;cases h
    | cons b fl' ih=>
      intro x h
      cases x with
      | zero=>simp at h;subst h;simp
      | succ x=>
        have:=ih x (by simpa using h)
        cases b <;> simp <;> exact this
   exact hm _ i hb
  exact⟨H0,H0,hsi _ (by omega),hsi _ (by omega),fun env=>g2 i o v' b (by simpa using ho) hx env⟩
 ·intro i hi
  rw[Array.getElem?_replicate]at hi
  split at hi <;> cases hi
 ·unfold unl
  have:=List.length_filter_le (fun i=>(Array.replicate l.toArray.size false)[i]? == some false) (List.range l.toArray.size)
  simpa using this
 ·refine⟨0,fun i hi=>⟨fun h=>by omega,fun h=>?_⟩,Nat.zero_le _,by rw[hsi 0 (Nat.zero_le _)];simp[h1],fun j h=>?_⟩
  all_goals
   rw[Array.getElem?_replicate]at h
   split at h <;> cases h
 ·have:envA l.toArray (t.map (·.1)) (fun i=>(Array.replicate l.toArray.size false).getD i false) (List.range l.toArray.size)=[]:=by
   have:∀x:List Nat,envA l.toArray (t.map (·.1)) (fun i=>(Array.replicate l.toArray.size false).getD i false) x=[]:=by
    intro x
    induction x with
    | nil=>rfl
    | cons i x ih=>
      have:(Array.replicate l.toArray.size false).getD i false=false:=by
       rw[Array.getD_eq_getD_getElem?,Array.getElem?_replicate]
       split <;> rfl
      simp only[envA,this,ih]
   exact this _
  rw[this,List.nil_append]
  exact h3.step h2 s0.1
end rules
end Go.TL
namespace Go.Proofs.YtcbhlhmebbkgnaaGreat
open Go Go.TL
attribute [local irreducible] TR TO Then zaw RetK Sound zab Kf GG zaZ
def oneS(p:Prog)(seen:List (Int×Str×Int))(node:Int)(vis:List Str)(left:Int)(x:Ex):Int:=
 if x.kind.1=2\/x.kind.1=8\/x.kind.1=9 then(if x.name∈vis then 0 else 6) else if x.kind.1=10 then zkM p seen node left x else 0
def zc1(p:Prog)(seen:List (Int×Str×Int))(node:Int)(vis:List Str)(left:Int)(e:Ex):Int:=orE (oneS p seen node vis left e) (zaa (oneS p seen node vis 1) (flats e.args))
def lf(left:Int)(pre:List Ex):Int:=if pre=[] then left else 1
theorem zuR(left:Int)(pre:List Ex)(x:Ex):lf left (pre++[x])=1:=by simp[lf]
def panF(g:Int->Ex->Int)(left n q:Int)(Hd:Int->Heap)(pre:List Ex)(x:Ex):Out:=if g (lf left pre) x=0 then .go else .panic (zcA n q (g (lf left pre) x)) (Hd (lf left pre))
theorem zl3(g:Int->Ex->Int)(left n q:Int)(Hd:Int->Heap):∀(l pre:List Ex),pre≠ []->zbm (panF g left n q Hd) pre l=if zaa (g 1) l=0 then .go else .panic (zcA n q (zaa (g 1) l)) (Hd 1)
 | [],pre,_=>by simp[zbm,zaa]
 | x::l,pre,hp=>by
   have h1:lf left pre=1:=by simp[lf,hp]
   simp only[zbm,panF,zaa,h1]
   by_cases h:g 1 x=0
   ·simp only[h,if_true];exact zl3 g left n q Hd l _ (by simp)
   ·simp[h]
theorem zr7(g:Int->Ex->Int)(left n q:Int)(Hd:Int->Heap)(x:Ex)(l:List Ex):zbm (panF g left n q Hd) [] (x::l)=if g left x=0 then(if zaa (g 1) l=0 then .go else .panic (zcA n q (zaa (g 1) l)) (Hd 1)) else .panic (zcA n q (g left x)) (Hd left):=by
 have h1:lf left []=left:=by simp[lf]
 simp only[zbm,panF,h1]
 by_cases h:g left x=0
 ·simp only[h,if_true];exact zl3 g left n q Hd l _ (by simp)
 ·simp[h]
structure zhg (p:Prog):Prop where
 nodes:p.nodes.length≤1000000000
 each:∀u∈p.nodes,u.ins.length≤1000000000/\u.outs.length≤1000000000
def ExOk(x:Ex):Prop:=(x.kind.1=10->x.v.1=0\/x.v.1=1)/\x.name.length≤1000000000
set_option maxHeartbeats 4000000 in
theorem zgJ (p:Prog) (hp:zhg p) (n q:Int) (seen:List (Int×Str×Int)) (hse:za4 seen) (hsn:zcC p seen) (node left:Int) (h:Ch) (hk:h.ok) (e:Ex) (hw:wEx e≤1000000000) (hex:∀x∈flat e,ExOk x):
  SS 187 [.i node,.ref h.id 0,.t (.ag (exC e)),.i left] p n q seen h h (zc1 p seen node h.vis left e):=by
 revert hk
 revert h
 refine Ch.lt fun h=>?_
 cases h
 all_goals
  intro g hk
  have hs:=zc4 e
  rw[zaA]at hs
  have hc0:exC e=[T.n e.kind,T.n e.op,T.n e.t,T.n e.v,.s e.name,.sl 6 (e.args.map exT)]:=rfl
  rw[hc0]at hs⊢
  have hz:zc1 p seen node (g.vis) left e=zc1 p seen node (g.vis) left e:=rfl
  conv at hz=>rhs;unfold zc1 orE
  generalize zc1 p seen node (g.vis) left e=z at hz⊢
  refine Sound.err rfl (fun _=>rfl) ?_
  refine so Tryz.func187 ?_
  refine TR.dead ?_
  repeat' (first|refine wu ?_|exact wkc|intro hc|refine wk2 ?_ ?_|refine wv hs ?_|fail)
  refine TR.zd4 e (fun pre=>(full p n q seen g)++[.cells [.ref 0 0],.cells [.i node],.cells [.ref g.id 0],.cells [.t (T.n e.kind),.t (T.n e.op),.t (T.n e.t),.t (T.n e.v),.t (.s e.name),.t (.sl 6 (e.args.map exT))],.cells [.i (lf left pre)]]) (panF (oneS p seen node (g.vis)) left n q (fun u=>.dead:: .dead::((g.heap)++[.cells [.ref 0 0],.cells [.i node],.cells [.ref g.id 0],.cells [.t (T.n e.kind),.t (T.n e.op),.t (T.n e.t),.t (T.n e.v),.t (.s e.name),.t (.sl 6 (e.args.map exT))],.cells [.i u]]))) rfl hw ?_ rfl rfl (fun _=>⟨rfl,rfl⟩) (fun pre x=>?_) (fun fn pre x post hsp=>?_) (fun fn=>?_)
  ·rw[show lf left []=left from rfl];rfl
  ·unfold panF
   split <;> rename_i hq <;> split at hq <;> cases hq
   ·trivial
   ·exact⟨rfl,rfl,rfl⟩
  ·have hxk:=hex x (by rw[hsp];simp)
   have hno:=hxk.2
   have hcx:exC x=[T.n x.kind,T.n x.op,T.n x.t,T.n x.v,.s x.name,.sl 6 (x.args.map exT)]:=rfl
   have hcal:=fun hv=>znH p hp.nodes hp.each n q seen hse hsn node (lf left pre) x hv hno
   have ho:oneS p seen node (g.vis) (lf left pre) x=oneS p seen node (g.vis) (lf left pre) x:=rfl
   conv at ho=>rhs;unfold oneS
   have hpf:panF (oneS p seen node (g.vis)) left n q (fun u=>.dead:: .dead::((g.heap)++[.cells [.ref 0 0],.cells [.i node],.cells [.ref g.id 0],.cells [.t (T.n e.kind),.t (T.n e.op),.t (T.n e.t),.t (T.n e.v),.t (.s e.name),.t (.sl 6 (e.args.map exT))],.cells [.i u]])) pre x=if oneS p seen node (g.vis) (lf left pre) x=0 then .go else .panic (zcA n q (oneS p seen node (g.vis) (lf left pre) x)) (.dead:: .dead::((g.heap)++[.cells [.ref 0 0],.cells [.i node],.cells [.ref g.id 0],.cells [.t (T.n e.kind),.t (T.n e.op),.t (T.n e.t),.t (T.n e.v),.t (.s e.name),.t (.sl 6 (e.args.map exT))],.cells [.i (lf left pre)]])):=rfl
   have hla:=zuR left pre x
   generalize panF (oneS p seen node (g.vis)) left n q (fun u=>.dead:: .dead::((g.heap)++[.cells [.ref 0 0],.cells [.i node],.cells [.ref g.id 0],.cells [.t (T.n e.kind),.t (T.n e.op),.t (T.n e.t),.t (T.n e.v),.t (.s e.name),.t (.sl 6 (e.args.map exT))],.cells [.i u]]))=pf at*
   generalize oneS p seen node (g.vis) (lf left pre) x=z1 at*
   generalize lf left pre=lv at*
   rw[hcx]at hcal⊢
   have hq:x.kind.1=10\/x.kind.1≠10:=by omega
   rcases hq with hq|hq
   ·have hcal:=hcal (hxk.1 hq)
    rw[if_neg (by omega),if_pos hq]at ho
    rw[<-ho]at hcal
    repeat' (first|refine wu ?_|exact wkc|intro hc|refine wk2 ?_ ?_|fail)
    refine⟨rfl,?_⟩
    repeat' (first|refine wkt ?_|refine wka ?_|refine wkD ?_|refine wk ?_|exact wkc|intro hc|refine wk2 ?_ ?_|refine wsx ?_|refine wms ?_|refine wsy ?_ ?_|refine we hcal ?_ ?_|fail)
    ·exact⟨by rw[hpf,if_pos hc],by simp only[hla];rfl,rfl⟩
    ·exact⟨_,by rw[hpf,if_neg hc];rfl,rfl,rfl⟩
   ·clear hcal
    repeat' (first|refine wu ?_|exact wkc|intro hc|refine wk2 ?_ ?_|fail)
    refine⟨rfl,?_⟩
    by_cases hm:x.name∈g.vis
    ·rw[if_pos hm]at ho
     repeat' (first|refine wkt ?_|refine TR.zmN (envF:=_) (g:=True) [(.ref 0 0,false),(.ref g.id 0,false),(.cp [T.n x.kind,T.n x.op,T.n x.t,T.n x.v,.s x.name,.sl 6 (x.args.map exT)] 4,false),(.s x.name,false),(.b true,true),(.tup [],true)] hmix (by dsimp only[List.map];decide +kernel) ?_ rfl (by decide) ?_|refine wk ?_|exact wkc|intro hc|refine wk2 ?_ ?_|exact And.intro (And.intro rfl rfl) trivial|refine And.intro (fun env=>?_) ?_|exact trivial|exact absurd hm hc|exact absurd hc hm|exact(fun hf=>hf.elim)|refine wms ?_|(apply TO.sees hk;(iterate 3 exact rfl);assumption)|fail)
     all_goals exact⟨by rw[hpf,if_pos (by rw[ho];clear hpf hs;grind)],by simp only[hla];rfl,rfl⟩
    ·rw[if_neg hm]at ho
     repeat' (first|refine wkt ?_|refine TR.zmN (envF:=_) (g:=False) [(.ref 0 0,false),(.ref g.id 0,false),(.cp [T.n x.kind,T.n x.op,T.n x.t,T.n x.v,.s x.name,.sl 6 (x.args.map exT)] 4,false),(.s x.name,false),(.b false,true),(.tup [],true)] hmix (by dsimp only[List.map];decide +kernel) ?_ rfl (by decide) ?_|refine wk ?_|exact wkc|intro hc|refine wk2 ?_ ?_|exact And.intro (And.intro rfl rfl) trivial|refine And.intro (fun env=>?_) ?_|exact trivial|exact absurd hm hc|exact absurd hc hm|exact(fun hf=>hf.elim)|refine wms ?_|(apply TO.sees hk;(iterate 3 exact rfl);assumption)|fail)
     all_goals first
      | exact⟨by rw[hpf,if_pos (by rw[ho];clear hpf hs;grind)],by simp only[hla];rfl,rfl⟩
      | (have h6:z1=6:=by rw[ho];clear hpf hs;grind
         rw[h6,if_neg (by decide)]at hpf
         exact⟨_,by rw[hpf];rfl,rfl,rfl⟩)
  ·rw[za2,zr7]
   by_cases z1:oneS p seen node (g.vis) left e=0
   ·rw[if_pos z1]at hz⊢
    by_cases z2:zaa (oneS p seen node (g.vis) 1) (flats e.args)=0
    ·rw[if_pos z2]
     simp only[]
     rw[z2]at hz
     repeat' (first|refine wu ?_|exact wkc|intro hc|refine wk2 ?_ ?_|fail)
     exact zkK hz rfl rfl rfl rfl
    ·rw[if_neg z2]
     simp only[]
     (repeat' (first|refine zab.panic ?_|refine wk ?_|fail))
     exact retB z2 hz.symm rfl
   ·rw[if_neg z1]at hz⊢
    simp only[]
    (repeat' (first|refine zab.panic ?_|refine wk ?_|fail))
    exact retB z1 hz.symm rfl
theorem Ch.app(h h':Ch)(p:Prog)(n q n' q':Int)(seen seen':List (Int×Str×Int)):full p n' q' seen' h'++(full p n q seen h).drop h.N=full p n' q' seen' h':=by
 rw[List.drop_of_length_le (by rw[Ch.len];exact Nat.le_refl _),List.append_nil]
theorem Ch.nb1(h:Ch):Nat.blt 0 h.N=true:=by cases h <;> rfl
theorem Ch.nb2(h:Ch):Nat.blt h.id h.N=true:=by cases h <;> rfl
section
variable {n:Nat}{env:Env}{K:TK}{all:Array Oper}{rest:List Oper}{d:Nat}{ty:TypeId}{pos:String}{aft:Array Edge}{p:Prog}{a q a' q':Int}{seen seen':List (Int×Str×Int)}{H H2:Heap}{args:Array Operand}{ts:Array TypeId}
theorem TO.zvg{h h':Ch}{c:Int}{cargs:List SV}{v pv:SV}{f:Operand}{fid:FuncId}{caps:List SV}{vs:List SV}
  (hs:Sound Tryz.prog fid cargs (full p a q seen h) (Err c v pv (full p a' q' seen' h')))(hn:h'.N=h.N)(hd:Nat.ble (d+1) n=true)(hf:env.val f=some (.fn fid caps))(ha:env.vals args.toList=some vs)(hl:Les (vs++caps) cargs)
  (hH:H.take h.N=full p a q seen h)(hu:unders h.N cargs=true)(hv:v.under h.N=true)(hpv:pv.under h.N=true)(hH2:full p a' q' seen' h'++H.drop h.N=H2)
  (k:c=0->TO false Tryz.prog n all rest ((d,v)::env) H2 K)(kp:c≠0->K (.panic pv) env (List.replicate h.N .dead++H.drop h.N)):
  TO false Tryz.prog n all (⟨some d,.call { callee:=.value f,args:=args,argTypes:=ts },ty,pos,aft,none⟩::rest) env H K:=by
 have hN:h.N≤H.length:=by have:=congrArg List.length hH;rw[Ch.len]at this;simp at this;omega
 exact TO.zlw h.N hs hd hf ha hl (by simpa using hN) hH hu (Ch.under h p a q seen) hv hpv ((Ch.len h' p a' q' seen').trans hn) (by have:=Ch.under h' p a' q' seen';rw[hn]at this;exact this) (by rw[<-hH2,zbv]) k kp
end
theorem wss{G Q1 Q2:Prop}{f:FuncId}{cargs:List SV}{v pv:SV}{c:Int}{p:Prog}{a q a' q':Int}{seen seen':List (Int×Str×Int)}{h h':Ch}(hs:Sound Tryz.prog f cargs (full p a q seen h) (Err c v pv (full p a' q' seen' h')))(k1:Q1)(k2:Q2)
  (hh:Sound Tryz.prog f cargs (full p a q seen h) (Err c v pv (full p a' q' seen' h'))->Hold Q1->Hold Q2->G:=by
  intro hs k1 k2
  (apply Go.Proofs.YtcbhlhmebbkgnaaGreat.TO.zvg hs;(first|exact rfl|simp);(iterate 3 exact rfl);(repeat' (first|exact trivial|exact Le.refl _|refine And.intro ?_ ?_|exact Le.any _|exact Le.nil _|exact Le.own _ _ _|refine Le.tree rfl ?_|exact TLe.refl _|exact TLe.nil _|refine TLe.ags ?_|fail));(first|exact rfl|exact Go.Proofs.YtcbhlhmebbkgnaaGreat.Ch.tk _ _ _ _ _);(first|exact rfl|(simp only[unders,SV.under,Go.Proofs.YtcbhlhmebbkgnaaGreat.Ch.nb1,Go.Proofs.YtcbhlhmebbkgnaaGreat.Ch.nb2,Bool.and_self]));exact rfl;exact rfl;(first|exact Go.Proofs.YtcbhlhmebbkgnaaGreat.Ch.app _ _ _ _ _ _ _ _ _|exact rfl);exact k1.p;exact k2.p)):G:=hh hs ⟨k1⟩ ⟨k2⟩
def zlr(p:Prog)(seen:List (Int×Str×Int))(node:Int)(vis:List Str)(l:List Tran):Int:=zaa (fun t=>zc1 p seen node vis 1 t.cond) l
theorem zka(p:Prog)(hp:zhg p)(n q:Int)(seen:List (Int×Str×Int))(hse:za4 seen)(hsn:zcC p seen)(node:Int)(h:Ch)(hk:h.ok)(l:List Tran)(hw:(T.sl 8 (l.map zat)).w≤1000000000)(hex:∀t∈l,∀x∈flat t.cond,ExOk x):
  SS 213 [.i node,.ref h.id 0,.t (.sl 8 (l.map zat))] p n q seen h h (zlr p seen node h.vis l):=by
 have hml:(l.map zat).length=l.length:=List.length_map _
 have hlb:l.length≤1000000000:=Nat.le_trans (Nat.le_of_lt (zaq zat 8 l)) hw
 unfold zlr
 refine Sound.err rfl (fun _=>rfl) ?_
 refine so Tryz.func213 ?_
 refine TR.dead ?_
 repeat' (first|refine wu ?_|exact wkc|intro hc|refine wk2 ?_ ?_|fail)
 refine TR.zal l.length (fun k=>zaa (fun t=>zc1 p seen node h.vis 1 t.cond) (l.take k)=0) (fun k=>[(0,.ref 0 0),(1,.i node),(2,.ref h.id 0),(10,.t (.sl 8 (l.map zat))),(11,.i (l.map zat).length),(12,.i k)]) (fun _=>full p n q seen h) rfl (fun k hlt ha=>?_) (fun ha=>?_)
 ·have hx:=zky hlt
  have g1:=zan (f:=fun t=>zc1 p seen node h.vis 1 t.cond) hlt ha
  have g2:=zai (f:=fun t=>zc1 p seen node h.vis 1 t.cond) hlt ha
  have hwx:=zaC (f:=zat) (sz:=8) (List.getElem_mem hlt)
  have hs:=zgJ p hp n q seen hse hsn node 1 h hk l[k].cond (by have:=zhG (t:=l[k]);omega) (hex _ (List.getElem_mem hlt))
  generalize l[k]=x at*
  generalize zc1 p seen node h.vis 1 x.cond=z at*
  unfold zgC at hx
  unfold exC at hs
  repeat' (first|refine wkt ?_|refine wka ?_|refine wkD ?_|refine wk ?_|exact wkc|intro hc|refine wk2 ?_ ?_|refine wsx ?_|refine wms ?_|refine wsy ?_ ?_|refine wss hs ?_ ?_|fail)
  ·exact zab.zak hlt (g2 hc)
  ·((repeat' (first|refine zab.panic ?_|refine wk ?_|fail));apply retS;(first|assumption|decide);(clear hx hs;first|grind|grind [orE]);(first|exact lb|exact Nat.le_refl _|(simp[Ch.len];done)|(simp[Ch.len];omega)))
 ·have e1:=zar ha
  repeat' (first|refine wu ?_|exact wkc|intro hc|refine wk2 ?_ ?_|fail)
  exact zkK e1 (Ch.ble _ _ _ _ _) (Ch.ble _ _ _ _ _) (Ch.tkl _ _ _ _ _) (Ch.und _ _ _ _ _)
def Lv.zdO(a:Lv)(s:Str):Lv:={ a with done:=ins a.done s,defs:=a.defs++[s] }
theorem Lv.ok.zdO{a:Lv}(h:a.ok){s:Str}(hs:s.length≤1000000000):(a.zdO s).ok:=⟨h.own,h.done.ins hs⟩
def zcs(vis low:List Str)(a:Lv)(s:Str):Lv×Int:=(a.zdO s,if s∈vis then(if s∈low\/s∈a.done then 7 else 0) else 6)
def equS(p:Prog)(seen:List (Int×Str×Int))(node:Int)(vis0 low:List Str)(a:Lv)(u:Equ):Lv×Int:=
 ((zad (zcs (vis0++a.own) low) a u.left).1,orE (zad (zcs (vis0++a.own) low) a u.left).2 (zc1 p seen node (vis0++a.own) u.left.length u.right))
theorem zsP{u:Equ}{s:Str}(h:s∈u.left):s.length≤(equT u).w:=by
 have h1:=zaC (f:=T.s) (sz:=1) h
 rw[w_s]at h1
 rw[show equT u= .ag (.sl 1 (u.left.map T.s)::exC u.right) from rfl,w_ag,List.map_cons,List.sum_cons]
 omega
theorem zlS(p:Prog)(hp:zhg p)(n q:Int)(seen:List (Int×Str×Int))(hse:za4 seen)(hsn:zcC p seen)(node:Int)(h:Ch)(hne:h.N≠5)(hk0:h.ok)(u:Equ)(hw:(equT u).w≤1000000000)(hdl:h.top.defs.length+u.left.length≤2000000000)(hex:∀x∈flat u.right,ExOk x):
  SS 147 [.i node,.ref h.id 0,.t (.ag (equC u))] p n q seen h (h.set (equS p seen node h.vis0 h.low h.top u).1) (equS p seen node h.vis0 h.low h.top u).2:=by
 have hset:=fun{x:Lv} (hx:x.ok)=>Ch.zrc hk0 hx
 have ht0:=Ch.zqS hk0
 clear hk0
 revert hne hdl hset ht0
 revert h
 refine Ch.lt fun h=>?_
 cases h
 case one=>intro g hne;exact absurd rfl hne
 all_goals
  intro g hne hdl hset ht0
  clear hne
  have hml:(u.left.map T.s).length=u.left.length:=List.length_map _
  have hlb:u.left.length≤1000000000:=Nat.le_trans zbE hw
  have hwl:∀s∈u.left,s.length≤1000000000:=fun s hs=>Nat.le_trans (zsP hs) hw
  have hwe:=Nat.le_trans (zkl (q:=u)) hw
  unfold equS equC
  refine Sound.err rfl (fun _=>rfl) ?_
  refine so Tryz.func147 ?_
  refine TR.dead ?_
  repeat' (first|refine wu ?_|exact wkc|intro hc|refine wk2 ?_ ?_|fail)
  refine TR.zal u.left.length (fun k=>(zad (zcs (g.vis0++g.top.own) g.low) g.top (u.left.take k)).2=0/\(zad (zcs (g.vis0++g.top.own) g.low) g.top (u.left.take k)).1.ok/\(zad (zcs (g.vis0++g.top.own) g.low) g.top (u.left.take k)).1.own=g.top.own/\(zad (zcs (g.vis0++g.top.own) g.low) g.top (u.left.take k)).1.defs.length=g.top.defs.length+k) (fun k=>[(0,.ref 0 0),(1,.i node),(2,.ref g.id 0),(7,.cp [.sl 1 (u.left.map T.s),T.n u.right.kind,T.n u.right.op,T.n u.right.t,T.n u.right.v,.s u.right.name,.sl 6 (u.right.args.map exT)] 0),(11,.t (.sl 1 (u.left.map T.s))),(12,.i (u.left.map T.s).length),(13,.i k)]) (fun k=>full p n q seen (g.set (zad (zcs (g.vis0++g.top.own) g.low) g.top (u.left.take k)).1)) ⟨rfl,ht0,rfl,rfl⟩ (fun k hlt ha=>?_) (fun ha=>?_)
  ·have hx:=at_s hlt
   have hno:=hwl _ (List.getElem_mem hlt)
   have g1:=zbl (f:=(zcs (g.vis0++g.top.own) g.low)) hlt ha.1
   have g2:=zaN (f:=(zcs (g.vis0++g.top.own) g.low)) hlt ha.1
   obtain⟨ha1,ha2,ha3,ha4⟩:=ha
   generalize (zad (zcs (g.vis0++g.top.own) g.low) g.top (u.left.take k)).1=st at*
   generalize u.left[k]=x at*
   have hk:=hset ha2
   have hdn:=ha2.done
   have hz:((zcs (g.vis0++g.top.own) g.low) st x).2=if x∈g.vis0++g.top.own then(if x∈g.low\/x∈st.done then 7 else 0) else 6:=rfl
   have hz1:((zcs (g.vis0++g.top.own) g.low) st x).1=st.zdO x:=rfl
   have hok:=ha2.zdO hno
   have hl1:(st.defs.map T.s).length=st.defs.length:=List.length_map _
   have hma:(st.defs++[x]).map T.s=st.defs.map T.s++[T.s x]:=by simp
   generalize hfx:(zcs (g.vis0++g.top.own) g.low) st x=fx at*
   repeat' (first|refine wkt ?_|refine wka ?_|refine wkD ?_|refine wk ?_|exact wkc|intro hc|refine wk2 ?_ ?_|refine wsx ?_|refine wms ?_|refine wsy ?_ ?_|(apply TO.zjz zam;(iterate 9 exact rfl);(exact Nat.beq_refl _);(iterate 4 exact rfl);(simp only[List.length_cons,List.length_nil];omega);exact rfl)|fail)
   all_goals simp only[Ch.vis,Ch.zkR,Ch.znf,Ch.ztZ]at*
   all_goals first
    | ((repeat' (first|refine zab.panic ?_|refine wk ?_|fail));apply retS;(first|assumption|decide);(clear hx;first|grind|grind [orE]);(first|exact lb|exact Nat.le_refl _|(simp[Ch.len];done)|(simp[Ch.len];omega)))
    | (refine zab.zak hlt ⟨by rw[g2];clear hx;grind,by rw[g2,hz1];exact hok,by rw[g2,hz1];exact ha3,by rw[g2,hz1];simp[Lv.zdO,ha4];omega⟩ ?_ (by rw[g2,hz1];simp only[g,full,Ch.set,Ch.heap,Lv.zdO,nmB,rowB,hma];rfl)
       repeat' (first|exact trivial|refine And.intro rfl ?_|fail))
  ·obtain⟨ha1,ha2,ha3,ha4⟩:=ha
   rw[List.take_length]at*
   have hk:=hset ha2
   have hs:=zgJ p hp n q seen hse hsn node u.left.length (g.set (zad (zcs (g.vis0++g.top.own) g.low) g.top u.left).1) hk u.right hwe hex
   have hvis:Ch.vis (g.set (zad (zcs (g.vis0++g.top.own) g.low) g.top u.left).1)=g.vis0++g.top.own:=by simp only[Ch.vis,Ch.zkR,Ch.znf,ha3]
   rw[hvis,<-hml]at hs
   rw[<-hml]
   unfold exC at hs
   generalize zc1 p seen node (g.vis0++g.top.own) ((u.left.map T.s).length:Int) u.right=z at*
   generalize zad (zcs (g.vis0++g.top.own) g.low) g.top u.left=st at*
   repeat' (first|refine wkt ?_|refine wka ?_|refine wkD ?_|refine wk ?_|exact wkc|intro hc|refine wk2 ?_ ?_|refine wsx ?_|refine wms ?_|refine wsy ?_ ?_|refine wss hs ?_ ?_|fail)
   ·exact zkK (by clear hs;rw[ha1];simp[orE,hc]) rfl rfl rfl rfl
   ·(apply retB;assumption;(clear hs;rw[ha1];simp[orE]);exact rfl)
theorem zje(x s:Sta):Pure Tryz.prog 189 [.t (staT x),.cp (staC s) 0] (.b (x.name == s.name)):=by
 rw[zf6]
 unfold staC
 refine so Tryz.func189 ?_
 repeat' (first|refine wu ?_|exact wkc|intro hc|refine wk2 ?_ ?_|fail)
 all_goals
  refine RetK.pure rfl (Le.of_eq ?_) rfl
  refine congrArg (fun b=>SV.t (T.v (Value.bool b))) ?_
  simp[hc]
theorem zja(fid:FuncId)(caps:List SV)(hcaps:unders 0 caps=true)(p:Sta->Bool)(l:List Sta)(hl:l.length≤1000000000)(hp:∀d,Pure Tryz.prog fid (.t (staT d)::caps) (.b (p d))):
  Pure Tryz.prog 212 [.t (.sl 6 (l.map staT)),.fn fid caps] (.i (idxI p l)):=by
 have hml:(l.map staT).length=l.length:=List.length_map _
 refine so Tryz.func212 ?_
 repeat' (first|refine wk ?_|exact wkc|intro hc|refine wk2 ?_ ?_|fail)
 refine TR.zal l.length (fun k=>(l.take k).all (fun x=>!p x)=true) (fun k=>[(0,.t (.sl 6 (l.map staT))),(1,.fn fid caps),(7,.i l.length),(8,.i k)]) (fun _=>[]) rfl (fun k hlt ha=>?_) (fun ha=>?_) ⟨rfl,rfl,by rw[<-hml];rfl,rfl,trivial⟩
 ·have hx:=zaX staT hlt
  have htk:=zaG hlt
  have hat:=zeT p l k hlt ha
  have hd:=hp l[k]
  generalize l[k]=d at hx htk hat hd
  rw[zf6]at hx hd
  have hu:unders 0 (.t (.ag (staC d))::caps)=true:=by simp[unders,SV.under,hcaps]
  unfold staC at*
  repeat' (first|refine wk ?_|exact wkc|intro hc|refine wk2 ?_ ?_|(apply TO.zev hd;(iterate 3 exact rfl);exact Les.refl _;exact hu;exact rfl)|fail)
  ·rw[hat hc];exact wkr
  ·refine zab.zak hlt ?_
   rw[htk,List.all_append,ha]
   simp[hc]
 ·rw[List.take_length]at ha
  rw[zcJ p l ha]
  repeat' (first|refine wk ?_|exact wkc|intro hc|refine wk2 ?_ ?_|fail)
  exact wkr
theorem zgd{α:Type}(p:α->Bool)(l:List α):decide (0≤idxI p l)=l.any p:=by
 rcases zfa p l with h|⟨k,hk,h,hp⟩
 ·rw[h]
  symm
  cases ha:l.any p with
  | false=>rfl
  | true=>
    exfalso
    have:∀l:List α,l.any p=true->0≤idxI p l:=by
     intro l
     induction l with
     | nil=>intro h;simp at h
     | cons x l ih=>
       intro h
       unfold idxI
       by_cases hx:p x=true
       ·rw[if_pos hx];omega
       ·rw[if_neg hx]
        have:=ih (by simpa [hx]using h)
        rw[if_neg (by omega)];omega
    have:=this l ha
    omega
 ·rw[h]
  have:l.any p=true:=List.any_eq_true.2 ⟨_,List.getElem_mem hk,hp⟩
  rw[this];simp
theorem zi9(fid:FuncId)(caps:List SV)(hcaps:unders 0 caps=true)(p:Sta->Bool)(l:List Sta)(hl:l.length≤1000000000)(hp:∀d,Pure Tryz.prog fid (.t (staT d)::caps) (.b (p d))):
  Pure Tryz.prog 188 [.t (.sl 6 (l.map staT)),.fn fid caps] (.b (l.any p)):=by
 have hs:=zja fid caps hcaps p l hl hp
 have ha:=zgd p l
 generalize idxI p l=z at*
 have hu:unders 0 [.t (.sl 6 (l.map staT)),.fn fid caps]=true:=by simp[unders,SV.under,hcaps]
 refine so Tryz.func188 ?_
 repeat' (first|refine wk ?_|exact wkc|intro hc|refine wk2 ?_ ?_|(apply TO.zev hs;(iterate 3 exact rfl);exact Les.refl _;exact hu;exact rfl)|fail)
 all_goals
  refine RetK.pure rfl (Le.of_eq ?_) rfl
  refine congrArg (fun b=>SV.t (T.v (Value.bool b))) ?_
  rw[<-ha];simp;omega
theorem zlD(l:List Str)(hl:l.length≤1000000000)(s:Str):Pure Tryz.prog 227 [.t (.sl 1 (l.map T.s)),.s s] (.i (idxI (fun x=>s == x) l)):=by
 have hml:(l.map T.s).length=l.length:=List.length_map _
 refine so Tryz.func227 ?_
 repeat' (first|refine wk ?_|exact wkc|intro hc|refine wk2 ?_ ?_|fail)
 refine TR.zal l.length (fun k=>(l.take k).all (fun x=>!(s == x))=true) (fun k=>[(0,.t (.sl 1 (l.map T.s))),(1,.s s),(7,.i l.length),(8,.i k)]) (fun _=>[]) rfl (fun k hlt ha=>?_) (fun ha=>?_) ⟨rfl,rfl,by rw[<-hml];rfl,rfl,trivial⟩
 ·have hx:=at_s hlt
  have htk:=zaG hlt
  have hat:=zeT (fun x=>s == x) l k hlt ha
  generalize l[k]=d at hx htk hat
  repeat' (first|refine wk ?_|exact wkc|intro hc|refine wk2 ?_ ?_|fail)
  ·rw[hat (by simp[hc])];exact wkr
  ·refine zab.zak hlt ?_
   rw[htk,List.all_append,ha]
   simp[hc]
 ·rw[List.take_length]at ha
  rw[zcJ _ l ha]
  repeat' (first|refine wk ?_|exact wkc|intro hc|refine wk2 ?_ ?_|fail)
  exact wkr
theorem zil(l:List Str)(hl:l.length≤1000000000)(s:Str):Pure Tryz.prog 218 [.t (.sl 1 (l.map T.s)),.s s] (.b (decide (s∈l))):=by
 have hs:=zlD l hl s
 have ha:=zgd (fun x=>s == x) l
 have hm:(l.any fun x=>s == x)=decide (s∈l):=by
  rw[Bool.eq_iff_iff];simp
 rw[hm]at ha
 generalize idxI (fun x=>s == x) l=z at*
 refine so Tryz.func218 ?_
 repeat' (first|refine wk ?_|exact wkc|intro hc|refine wk2 ?_ ?_|refine wv hs ?_|fail)
 all_goals
  refine RetK.pure rfl (Le.of_eq ?_) rfl
  refine congrArg (fun b=>SV.t (T.v (Value.bool b))) ?_
  rw[<-ha];simp;omega
theorem zmD(b:List Str)(hb:b.length≤1000000000)(x:Str):Pure Tryz.prog 217 [.s x,.cp [.sl 1 (b.map T.s)] 0] (.b (!decide (x∈b))):=by
 have hs:=zil b hb x
 refine so Tryz.func217 ?_
 repeat' (first|refine wu ?_|exact wkc|intro hc|refine wk2 ?_ ?_|refine wb hs ?_ ?_|fail)
 all_goals
  refine RetK.pure rfl (Le.of_eq ?_) rfl
  refine congrArg (fun b=>SV.t (T.v (Value.bool b))) ?_
  rw[hc]
theorem zpm(fid:FuncId)(caps:List SV)(hcaps:unders 0 caps=true)(p:Str->Bool)(l:List Str)(hl:l.length≤1000000000)(hp:∀d,Pure Tryz.prog fid (.s d::caps) (.b (p d))):
  Pure Tryz.prog 226 [.t (.sl 1 (l.map T.s)),.fn fid caps] (.i (idxI p l)):=by
 have hml:(l.map T.s).length=l.length:=List.length_map _
 refine so Tryz.func226 ?_
 repeat' (first|refine wk ?_|exact wkc|intro hc|refine wk2 ?_ ?_|fail)
 refine TR.zal l.length (fun k=>(l.take k).all (fun x=>!p x)=true) (fun k=>[(0,.t (.sl 1 (l.map T.s))),(1,.fn fid caps),(7,.i l.length),(8,.i k)]) (fun _=>[]) rfl (fun k hlt ha=>?_) (fun ha=>?_) ⟨rfl,rfl,by rw[<-hml];rfl,rfl,trivial⟩
 ·have hx:=at_s hlt
  have htk:=zaG hlt
  have hat:=zeT p l k hlt ha
  have hd:=hp l[k]
  generalize l[k]=d at hx htk hat hd
  have hu:unders 0 (.s d::caps)=true:=by simp[unders,SV.under,hcaps]
  repeat' (first|refine wk ?_|exact wkc|intro hc|refine wk2 ?_ ?_|(apply TO.zev hd;(iterate 3 exact rfl);exact Les.refl _;exact hu;exact rfl)|fail)
  ·rw[hat hc];exact wkr
  ·refine zab.zak hlt ?_
   rw[htk,List.all_append,ha]
   simp[hc]
 ·rw[List.take_length]at ha
  rw[zcJ p l ha]
  repeat' (first|refine wk ?_|exact wkc|intro hc|refine wk2 ?_ ?_|fail)
  exact wkr
theorem zpf(fid:FuncId)(caps:List SV)(hcaps:unders 0 caps=true)(p:Str->Bool)(l:List Str)(hl:l.length≤1000000000)(hp:∀d,Pure Tryz.prog fid (.s d::caps) (.b (p d))):
  Pure Tryz.prog 216 [.t (.sl 1 (l.map T.s)),.fn fid caps] (.b (l.any p)):=by
 have hs:=zpm fid caps hcaps p l hl hp
 have ha:=zgd p l
 generalize idxI p l=z at*
 have hu:unders 0 [.t (.sl 1 (l.map T.s)),.fn fid caps]=true:=by simp[unders,SV.under,hcaps]
 refine so Tryz.func216 ?_
 repeat' (first|refine wk ?_|exact wkc|intro hc|refine wk2 ?_ ?_|(apply TO.zev hs;(iterate 3 exact rfl);exact Les.refl _;exact hu;exact rfl)|fail)
 all_goals
  refine RetK.pure rfl (Le.of_eq ?_) rfl
  refine congrArg (fun b=>SV.t (T.v (Value.bool b))) ?_
  rw[<-ha];simp;omega
def zj6(a b:List Str):Bool:=decide (a.length=b.length) && !(a.any fun x=>!decide (x∈b))
theorem znb(a b:List Str)(ha:a.length≤1000000000)(hb:b.length≤1000000000):Pure Tryz.prog 191 [.t (.sl 1 (a.map T.s)),.t (.sl 1 (b.map T.s))] (.b (zj6 a b)):=by
 have hs:=zpf 217 [.cp [.sl 1 (b.map T.s)] 0] rfl (fun x=>!decide (x∈b)) a ha (fun x=>zmD b hb x)
 have m1:(a.map T.s).length=a.length:=List.length_map _
 have m2:(b.map T.s).length=b.length:=List.length_map _
 unfold zj6
 generalize (a.any fun x=>!decide (x∈b))=z at*
 cases z
 all_goals
  refine so Tryz.func191 ?_
  repeat' (first|refine wu ?_|exact wkc|intro hc|refine wk2 ?_ ?_|(apply TO.zev hs;(iterate 3 exact rfl);exact Les.refl _;exact rfl;exact rfl)|fail)
  all_goals
   refine RetK.pure rfl (Le.of_eq ?_) rfl
   refine congrArg (fun b=>SV.t (T.v (Value.bool b))) ?_
   clear hs
   first
   | (simp;omega)
   | (rw[decide_eq_true (by omega)];rfl)
   | (rw[decide_eq_false (by omega)];rfl)
abbrev zsH (up:SV)(b:Nat):Heap:=[setB [],setB [],.cells [up,.mp b,.mp (b+1),nilM,nilS]]
theorem zlu(p:Prog)(n q:Int)(seen:List (Int×Str×Int)):
  Sound Tryz.prog 144 [nilP] [lkB p n q,zch seen] (fun r H'=>r= .ret (.ref 4 0)/\H'=lkB p n q::zch seen::zsH nilP 2):=by
 refine so Tryz.func144 ?_
 refine wk ?_
 exact RetK.keep 5 rfl (Le.refl _) rfl rfl rfl rfl rfl ⟨rfl,rfl⟩
theorem zqH(p:Prog)(n q:Int)(seen:List (Int×Str×Int))(h:Ch):
  Sound Tryz.prog 144 [.ref h.id 0] (full p n q seen h) (fun r H'=>r= .ret (.ref (h.N+2) 0)/\H'=full p n q seen h++zsH (.ref h.id 0) h.N):=by
 cases h
 case one a=>
  refine so Tryz.func144 ?_
  refine wk ?_
  exact RetK.keep 8 rfl (Le.refl _) rfl rfl rfl rfl rfl ⟨rfl,rfl⟩
 case c1=>
  refine so Tryz.func144 ?_
  refine wk ?_
  exact RetK.keep 10 rfl (Le.refl _) rfl rfl rfl rfl rfl ⟨rfl,rfl⟩
 case c2=>
  refine so Tryz.func144 ?_
  refine wk ?_
  exact RetK.keep 14 rfl (Le.refl _) rfl rfl rfl rfl rfl ⟨rfl,rfl⟩
 case c3=>
  refine so Tryz.func144 ?_
  refine wk ?_
  exact RetK.keep 18 rfl (Le.refl _) rfl rfl rfl rfl rfl ⟨rfl,rfl⟩
 case c4=>
  refine so Tryz.func144 ?_
  refine wk ?_
  exact RetK.keep 22 rfl (Le.refl _) rfl rfl rfl rfl rfl ⟨rfl,rfl⟩
abbrev znT (l:List Str):Blk:=.cells ((l.map T.s).map .t)
theorem ztF{l:List Str}{k:Nat}(h:k<l.length):((l.map T.s).map SV.t)[0+k*1]?=some (.s l[k]):=by simp[h]
def zbT(own:List Str)(l:List Str):List Str:=l.filter fun x=>!decide (x∈own)
theorem zed(own l:List Str):(zbT own l).length≤l.length:=List.length_filter_le _ _
theorem ze0{own l:List Str}{k:Nat}(h:k<l.length):zbT own (l.take (k+1))=zbT own (l.take k)++(if l[k]∈own then[] else[l[k]]):=by
 unfold zbT
 rw[List.take_succ_eq_append_getElem h,List.filter_append]
 by_cases hm:l[k]∈own <;> simp[hm]
theorem zlN{own l:List Str}(h:l.all (fun x=>!decide (x∈own))=true):zbT own l=l:=by
 unfold zbT
 rw[List.filter_eq_self]
 intro x hx
 exact List.all_eq_true.1 h x hx
def midS(own l:List Str)(k:Nat):List Str:=zbT own (l.take k)++l.drop (zbT own (l.take k)).length
theorem zoF(own l:List Str)(k:Nat):(midS own l k).length=l.length:=by
 unfold midS
 have h1:=zed own (l.take k)
 have h2:(l.take k).length≤l.length:=by simp;omega
 simp;omega
theorem ztg{own l:List Str}{k:Nat}(h:k<l.length):(midS own l k)[k]?=some l[k]:=by
 unfold midS
 have h1:=zed own (l.take k)
 have h2:(l.take k).length=k:=by simp;omega
 rw[List.getElem?_append_right (by omega),List.getElem?_drop,show(zbT own (l.take k)).length+(k-(zbT own (l.take k)).length)=k from by omega]
 exact List.getElem?_eq_getElem h
theorem zt5{own l:List Str}{k:Nat}(h:k<l.length)(hm:l[k]∈own):midS own l (k+1)=midS own l k:=by
 unfold midS
 rw[ze0 h,if_pos hm,List.append_nil]
theorem zse{own l:List Str}{k:Nat}(h:k<l.length)(hm:l[k] ∉ own):midS own l (k+1)=(midS own l k).set (zbT own (l.take k)).length l[k]:=by
 have h1:=zed own (l.take k)
 have h2:(l.take k).length=k:=by simp;omega
 unfold midS
 rw[ze0 h,if_neg hm]
 generalize zbT own (l.take k)=K at*
 rw[List.set_append_right _ _ (Nat.le_refl _),Nat.sub_self]
 cases hd:l.drop K.length with
 | nil=>
   have:=congrArg List.length hd
   simp at this;omega
 | cons y r=>
   rw[List.set_cons_zero]
   have hr:l.drop (K.length+1)=r:=by
    have:=congrArg (List.drop 1) hd
    rw[List.drop_drop]at this
    simpa using this
   rw[List.length_append,List.length_singleton,hr]
   simp
theorem zoV{own l:List Str}{k:Nat}(hk:k<l.length)(ha:(l.take k).all (fun x=>!decide (x∈own))=true)(hm:l[k]∈own):midS own l (k+1)=l/\(zbT own (l.take (k+1))).length=k:=by
 have h2:(l.take k).length=k:=by simp;omega
 unfold midS
 rw[ze0 hk,if_pos hm,List.append_nil,zlN ha,h2]
 exact⟨List.take_append_drop k l,rfl⟩
theorem zjm{k:Nat}{H0:Heap}(h:zaf k H0=true)(ts:List T):zaf k (H0++[.cells (ts.map .t)])=true:=zaz h (zhS k ts)
theorem zrz{own l:List Str}{k:Nat}(hk:k<l.length)(hm:l[k]∈own):(zbT own l).length<l.length:=by
 unfold zbT
 refine List.length_filter_lt_length_iff_exists.2 ⟨l[k],List.getElem_mem hk,by simpa using hm⟩
theorem zpx(own l:List Str):splice (((midS own l l.length).map T.s).map SV.t) (0+(zbT own l).length*1) (List.replicate (l.length-(zbT own l).length) (.t (T.s [])))=((zbT own l++List.replicate (l.length-(zbT own l).length) []).map T.s).map .t:=by
 have h1:=zed own l
 unfold splice midS
 rw[List.take_length]
 simp only[Nat.zero_add,Nat.mul_one,List.length_replicate]
 rw[<-List.map_take,<-List.map_take,List.take_left,List.drop_of_length_le (by simp),List.append_nil]
 simp
abbrev outH (p:Prog)(n q:Int)(seen:List (Int×Str×Int))(h:Ch):Heap:=lkB p n q::zch seen::(h.heap.dropLast++[.dead,.cells [.ref h.id 0]])
theorem zj3(p:Prog)(n q:Int)(seen:List (Int×Str×Int))(h:Ch)(hne:8≤h.N)(hk:za0 h.top.own)(x:Str)(hx:x.length≤1000000000):
  Sound Tryz.prog 215 [.s x,.ref h.N 0] (outH p n q seen h) (fun r H'=>r= .ret (.b (decide (x∈h.top.own)))/\H'=outH p n q seen h):=by
 revert hne hk
 revert h
 refine Ch.lt fun h=>?_
 cases h
 case one=>intro g hne;exact absurd hne (show ¬8≤5 by decide)
 case c1=>intro g hne;exact absurd hne (show ¬8≤7 by decide)
 all_goals
  intro g hne hk
  refine so Tryz.func215 ?_
  repeat' (first|refine wkt ?_|refine wka ?_|refine wk ?_|exact wkc|intro hc|refine wk2 ?_ ?_|(apply TO.zer;(iterate 4 exact rfl);assumption;assumption)|(apply TO.zjP;(iterate 3 exact rfl);assumption)|fail)
  all_goals exact retV rfl (bsv (by simp_all [g,Ch.top])) rfl rfl
theorem zpg(p:Prog)(n q:Int)(seen:List (Int×Str×Int))(h:Ch)(hne:8≤h.N)(hk:za0 h.top.own)(l:List Str)(hl:l.length≤2000000000)(hs:∀x∈l,x.length≤1000000000):
  Sound Tryz.prog 226 [.ms 1 (h.N+1) 0 l.length,.fn 215 [.ref h.N 0]] (outH p n q seen h++[znT l]) (fun r H'=>r= .ret (.i (idxI (fun x=>decide (x∈h.top.own)) l))/\H'=outH p n q seen h++[znT l]):=by
 revert hne hk
 revert h
 refine Ch.lt fun h=>?_
 cases h
 case one=>intro g hne;exact absurd hne (show ¬8≤5 by decide)
 case c1=>intro g hne;exact absurd hne (show ¬8≤7 by decide)
 all_goals
  intro g hne hk
  refine so Tryz.func226 ?_
  repeat' (first|refine wk ?_|exact wkc|intro hc|refine wk2 ?_ ?_|fail)
  refine TR.zal l.length (fun k=>(l.take k).all (fun x=>!decide (x∈g.top.own))=true) (fun k=>[(0,.ms 1 (g.N+1) 0 l.length),(1,.fn 215 [.ref g.N 0]),(7,.i l.length),(8,.i k)]) (fun _=>outH p n q seen g++[znT l]) rfl (fun k hlt ha=>?_) (fun ha=>?_)
  ·have hx:=ztF hlt
   have htk:=zaG hlt
   have hat:=zeT (fun x=>decide (x∈g.top.own)) l k hlt ha
   have hd:=zj3 p n q seen g hne hk l[k] (hs _ (List.getElem_mem hlt))
   generalize l[k]=d at hx htk hat hd
   repeat' (first|refine wk ?_|exact wkc|intro hc|refine wk2 ?_ ?_|(apply TO.zeW zam;(iterate 7 exact rfl);omega;omega)|(apply TO.zhJ zam;(iterate 5 exact rfl);exact hx)|(apply TO.zem (g.N+1) hd;(iterate 3 exact rfl);exact Les.refl _;exact lb;(iterate 3 exact rfl))|fail)
   ·rw[hat hc];exact retV rfl rfl rfl (zjm rfl _)
   ·refine zab.zak hlt ?_
    rw[htk,List.all_append,ha]
    simpa using hc
  ·rw[List.take_length]at ha
   rw[zcJ _ l ha]
   repeat' (first|refine wk ?_|exact wkc|intro hc|refine wk2 ?_ ?_|fail)
   exact retV rfl rfl rfl (zjm rfl _)
theorem zqu(p:Prog)(n q:Int)(seen:List (Int×Str×Int))(h:Ch)(hne:8≤h.N)(hk:za0 h.top.own)(l:List Str)(hl:l.length≤2000000000)(hs:∀x∈l,x.length≤1000000000):
  Sound Tryz.prog 214 [.ms 1 (h.N+1) 0 l.length,.fn 215 [.ref h.N 0]] (outH p n q seen h++[znT l])
   (fun r H'=>r= .ret (.ms 1 (h.N+1) 0 (zbT h.top.own l).length)/\H'=outH p n q seen h++[.cells (((zbT h.top.own l++List.replicate (l.length-(zbT h.top.own l).length) []).map T.s).map .t)]):=by
 revert hne hk
 revert h
 refine Ch.lt fun h=>?_
 cases h
 case one=>intro g hne;exact absurd hne (show ¬8≤5 by decide)
 case c1=>intro g hne;exact absurd hne (show ¬8≤7 by decide)
 all_goals
  intro g hne hk
  have hd0:=zpg p n q seen g hne hk l hl hs
  rcases zfa (fun x=>decide (x∈g.top.own)) l with h|⟨k0,hk0,h,hp⟩
  ·rw[h]at hd0
   have hall:l.all (fun x=>!decide (x∈g.top.own))=true:=by
    have:=zgd (fun x=>decide (x∈g.top.own)) l
    rw[h]at this
    rw[List.all_eq_not_any_not]
    simpa using this
   rw[zlN hall,Nat.sub_self]
   simp only[List.replicate_zero,List.append_nil]
   refine so Tryz.func214 ?_
   repeat' (first|refine wk ?_|exact wkc|intro hc|refine wk2 ?_ ?_|(apply TO.zkD (g.N+2) hd0;(iterate 3 exact rfl);exact Les.refl _;(iterate 3 exact rfl);exact zjm rfl _;exact rfl;exact rfl;exact zjm rfl _;exact zbv _)|fail)
   exact retV rfl rfl rfl (zjm rfl _)
  ·rw[h]at hd0
   have hin:l[k0]∈g.top.own:=by simpa using hp
   have hall:(l.take k0).all (fun x=>!decide (x∈g.top.own))=true:=by
    have:∀(l:List Str) (k:Nat),idxI (fun x=>decide (x∈g.top.own)) l=k->(l.take k).all (fun x=>!decide (x∈g.top.own))=true:=by
     intro l
     induction l with
     | nil=>intro k _;simp
     | cons y l ih=>
       intro k hk
       unfold idxI at hk
       by_cases hy:decide (y∈g.top.own)=true
       ·rw[if_pos hy]at hk
        have:k=0:=by omega
        subst this;rfl
       ·rw[if_neg hy]at hk
        split at hk
        ·omega
        ·obtain⟨k',rfl⟩:∃k',k=k'+1:=⟨k-1,by omega⟩
         rw[List.take_succ_cons,List.all_cons,ih k' (by omega)]
         simpa using hy
    exact this l k0 h
   obtain⟨f1,f2⟩:=zoV hk0 hall hin
   have hlt1:=zrz hk0 hin
   refine so Tryz.func214 ?_
   repeat' (first|refine wk ?_|exact wkc|intro hc|refine wk2 ?_ ?_|(apply TO.zkD (g.N+2) hd0;(iterate 3 exact rfl);exact Les.refl _;(iterate 3 exact rfl);exact zjm rfl _;exact rfl;exact rfl;exact zjm rfl _;exact zbv _)|fail)
   refine TR.zal (l.length-(k0+1)) (fun _=>True) (fun k=>[(0,.ms 1 (g.N+1) 0 l.length),(1,.fn 215 [.ref g.N 0]),(5,.i (zbT g.top.own (l.take (k0+1+k))).length),(6,.i ((k0+1+k:Nat):Int))]) (fun k=>outH p n q seen g++[znT (midS g.top.own l (k0+1+k))]) trivial (fun k hlt _=>?_) (fun _=>?_) ⟨rfl,rfl,by rw[Nat.add_zero,f2];rfl,rfl,trivial⟩ (by rw[Nat.add_zero,f1];rfl)
   ·have hj:k0+1+k<l.length:=by omega
    have hkl:=zed g.top.own (l.take (k0+1+k))
    have htl:(l.take (k0+1+k)).length=k0+1+k:=by simp;omega
    have hml:(((midS g.top.own l (k0+1+k)).map T.s).map SV.t).length=l.length:=by rw[List.length_map,List.length_map,zoF]
    have hx:(((midS g.top.own l (k0+1+k)).map T.s).map SV.t)[0+(k0+1+k)*1]?=some (.s l[k0+1+k]):=by
     rw[Nat.zero_add,Nat.mul_one,List.getElem?_map,List.getElem?_map,ztg hj];rfl
    have hd:=zj3 p n q seen g hne hk l[k0+1+k] (hs _ (List.getElem_mem hj))
    have g1:=zt5 (own:=g.top.own) hj
    have g2:=zse (own:=g.top.own) hj
    have g3:=ze0 (own:=g.top.own) hj
    generalize l[k0+1+k]=x at*
    generalize zbT g.top.own (l.take (k0+1+k))=KS at*
    generalize midS g.top.own l (k0+1+k)=MS at*
    repeat' (first|refine wk ?_|exact wkc|intro hc|refine wk2 ?_ ?_|(apply TO.zeW zam;(iterate 7 exact rfl);omega;omega)|(apply TO.zhJ zam;(iterate 5 exact rfl);exact hx)|(apply TO.zem (g.N+1) hd;(iterate 3 exact rfl);exact Les.refl _;exact lb;(iterate 3 exact rfl))|(apply TO.zs4 zam;(iterate 7 exact rfl);(show 0+KS.length*1<_;rw[hml];omega);exact rfl)|fail)
    ·have hxo:x∈g.top.own:=by simpa using hc
     rw[if_pos hxo,List.append_nil]at g3
     refine zab.zak hlt trivial ⟨rfl,rfl,?_,rfl,trivial⟩ ?_
     ·rw[show zbT g.top.own (l.take (k0+1+(k+1)))=KS from g3];rfl
     ·rw[show midS g.top.own l (k0+1+(k+1))=MS from g1 hxo]
    ·have hxo:x ∉ g.top.own:=by simpa using hc
     rw[if_neg hxo]at g3
     refine zab.zak hlt trivial ⟨rfl,rfl,?_,rfl,trivial⟩ ?_
     ·rw[show zbT g.top.own (l.take (k0+1+(k+1)))=KS++[x] from g3,List.length_append];rfl
     ·rw[show midS g.top.own l (k0+1+(k+1))=MS.set KS.length x from g2 hxo]
      show _=outH p n q seen g++[znT (MS.set KS.length x)]
      unfold znT
      rw[List.map_set,List.map_set]
      show _=outH p n q seen g++[Blk.cells (((MS.map T.s).map SV.t).set KS.length (.s x))]
      conv=>rhs;rw[show KS.length=0+KS.length*1 from by omega]
      rfl
   ·have hll:k0+1+(l.length-(k0+1))=l.length:=by omega
    have hsp:=zpx g.top.own l
    have hml:(((midS g.top.own l l.length).map T.s).map SV.t).length=l.length:=by rw[List.length_map,List.length_map,zoF]
    rw[hll,List.take_length]
    generalize zbT g.top.own l=KS at*
    generalize midS g.top.own l l.length=MS at*
    repeat' (first|refine wk ?_|exact wkc|intro hc|refine wk2 ?_ ?_|(apply TO.zjs zam;(iterate 7 exact rfl);omega)|(apply TO.zoH zam;(iterate 6 exact rfl);omega)|(apply TO.zuQ zam;(iterate 7 exact rfl);omega;(show 0+KS.length*1+(l.length-KS.length)≤_;rw[hml];omega);exact rfl)|fail)
    refine RetK.keep (g.N+2) (v:=.ms 1 (g.N+1) 0 KS.length) rfl (Le.refl _) rfl rfl rfl (H':=outH p n q seen g++[.cells (((KS++List.replicate (l.length-KS.length) []).map T.s).map .t)]) ?_ (zjm rfl _) ⟨rfl,rfl⟩
    rw[<-hsp];rfl
end Go.Proofs.YtcbhlhmebbkgnaaGreat
