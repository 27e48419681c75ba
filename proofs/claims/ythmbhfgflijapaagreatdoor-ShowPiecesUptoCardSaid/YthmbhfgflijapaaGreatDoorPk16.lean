import Derived.Lib.SliceRun
import Derived.Test.YthmbhfgflijapaaGreatDoorPk15
set_option linter.all false
namespace Go.Proofs.YthmbhfgflijapaaGreatDoor
open Go Go.TL
attribute [local irreducible] TR TO Then zag RetK Sound zab Kf GG zaK
theorem wkD{G Q:Prop}(k:Q)(h:Hold Q->G:=by
  first
  | (intro k;apply TR.regionD2 hmix;decide +kernel;exact rfl;exact k.p)
  | (intro k;apply TR.zsg hmix;decide +kernel;exact rfl;exact k.p)):G:=h ⟨k⟩
theorem wsx{G Q:Prop}(k:Q)(h:Hold Q->G:=by
  intro k
  first
  | (apply TO.ziP;(iterate 3 exact rfl);assumption;exact k.p)
  | (apply TO.zqB;(iterate 4 exact rfl);assumption;assumption;exact rfl;exact k.p)):G:=h ⟨k⟩
theorem wsy{G Q R:Prop}(k:Q)(l:R)(h:Hold Q->Hold R->G:=by
  intro k l
  first
  | (apply TO.ziZ;(iterate 4 exact rfl);assumption;assumption;exact k.p;exact l.p)
  | (apply TO.sees hk;exact rfl;exact rfl;(first|exact rfl|exact Ch.tk _ _ _ _ _);assumption;exact k.p;exact l.p)
  | (apply TO.defined hk;exact rfl;exact rfl;(first|exact rfl|exact Ch.tk _ _ _ _ _);assumption;exact k.p;exact l.p)):G:=h ⟨k⟩ ⟨l⟩
def zkf(p:Prog)(seen:List (Int×Str×Int))(node left:Int)(x:Ex):Int:=
 match zaD seen 1 x.name with
 | none=>6
 | some i=>if i<node then(match p.nodes[i.toNat]? with
   | none=>0
   | some n=>if(x.args.length:Int)≠n.ins.length+x.v.1 then 9 else if(n.outs.length:Int)≠left then 9 else 0) else 6
def zcl(p:Prog)(seen:List (Int×Str×Int)):Prop:=∀s i,zaD seen 1 s=some i->0≤i/\i<p.nodes.length
section
variable {n:Nat}{env:Env}{K:TK}{all:Array Oper}{rest:List Oper}{d id:Nat}{ty:TypeId}{pos:String}{aft:Array Edge}{H:Heap}{x y:Operand}{q:Bool}
theorem TO.zuw{l:List (Int×Str×Int)}{s:Str}{k v:Int}(hd:Nat.ble (d+1) n=true)(hx:env.val x=some (.mp id))(hH:H[id]?=some (zb2 l))(hy:env.val y=some (.t (.ag [.i k,.s s])))(hg:zaD l k s=some v)(hl:zaW l)(hk:0≤k/\k≤2)(hs:s.length≤1000000000)
  (k1:TO q Tryz.prog n all rest ((d,.tup [.i v,.b true])::env) H K):
  TO q Tryz.prog n all (⟨some d,.lookup 96 x y true,ty,pos,aft,none⟩::rest) env H K:=
 TO.zjG hd hx hH hy hl hk hs (fun w hw=>by rw[hg]at hw;cases hw;exact k1) (fun hn=>by rw[hg]at hn;cases hn)
theorem TO.zta{l:List (Int×Str×Int)}{s:Str}{k:Int}(hd:Nat.ble (d+1) n=true)(hx:env.val x=some (.mp id))(hH:H[id]?=some (zb2 l))(hy:env.val y=some (.t (.ag [.i k,.s s])))(hg:zaD l k s=none)(hl:zaW l)(hk:0≤k/\k≤2)(hs:s.length≤1000000000)
  (k1:TO q Tryz.prog n all rest ((d,.tup [.i 0,.b false])::env) H K):
  TO q Tryz.prog n all (⟨some d,.lookup 96 x y true,ty,pos,aft,none⟩::rest) env H K:=
 TO.zjG hd hx hH hy hl hk hs (fun w hw=>by rw[hg]at hw;cases hw) (fun _=>k1)
end
theorem retB{rs:List ResultVar}{env:Env}{H H1:Heap}{n q c c':Int}{N:Nat}{v:SV}(h0:c'≠0)(hc:c'=c)(hN:Nat.ble N H.length=true):
  zic (RetK tab rs N (Err0 c v (zcp n q c) H1 N)) (.panic (zcp n q c')) env H:=retS h0 hc (qag hN)
theorem zlM(p:Prog)(hp:p.nodes.length≤1000000000)(hq:∀u∈p.nodes,u.ins.length≤1000000000/\u.outs.length≤1000000000)(a q:Int)(seen:List (Int×Str×Int))(hse:zaW seen)(hsn:zcl p seen)(node left:Int)(x:Ex)(hv:x.v.1=0\/x.v.1=1)(hno:x.name.length≤1000000000):
  Sound Tryz.prog 137 [.ref 0 0,.i node,.t (.ag (exC x)),.i left] [lkB p a q,zb2 seen] (Err (zkf p seen node left x) (.tup []) (zcp a q (zkf p seen node left x)) [lkB p a q,zb2 seen]):=by
 have hml:(p.nodes.map nodT).length=p.nodes.length:=qab _
 have hmx:(x.args.map exT).length=x.args.length:=qab _
 unfold zkf exC
 cases hg:zaD seen 1 x.name with
 | none=>
   simp only[]
   refine Sound.err rfl (fun _=>rfl) ?_
   refine so Tryz.func137 ?_
   refine TR.dead ?_
   repeat' (first|refine wkt ?_|refine wka ?_|refine wkD ?_|refine wk ?_|exact wkc|intro hc|refine wk2 ?_ ?_|refine wsx ?_|refine wms ?_|refine wsy ?_ ?_|(apply TO.zta;(iterate 4 exact rfl);assumption;assumption;decide;assumption)|fail)
   (apply retB;decide;rfl;exact rfl)
 | some i=>
   obtain⟨hi0,hi1⟩:=hsn _ _ hg
   simp only[]
   by_cases hin:i<node
   ·rw[if_pos hin]
    obtain⟨k,rfl⟩:∃k:Nat,i=k:=⟨i.toNat,by omega⟩
    have hk:k<p.nodes.length:=by omega
    have hat:(p.nodes.map nodT)[((k:Int)).toNat]?=some (.ag (nodC p.nodes[k])):=zj5 hk
    have hat2:p.nodes[((k:Int)).toNat]?=some p.nodes[k]:=qac hk
    rw[hat2]
    have hqk:=hq _ (qaf hk)
    generalize p.nodes[k]=u at*
    have m1:(u.ins.map zav).length=u.ins.length:=qab _
    have m2:(u.outs.map zav).length=u.outs.length:=qab _
    simp only[]
    unfold nodC at hat
    refine Sound.err rfl (fun _=>rfl) ?_
    refine so Tryz.func137 ?_
    refine TR.dead ?_
    repeat' (first|refine wkt ?_|refine wka ?_|refine wkD ?_|refine wk ?_|exact wkc|intro hc|refine wk2 ?_ ?_|refine wsx ?_|refine wms ?_|refine wsy ?_ ?_|(apply TO.zuw;(iterate 4 exact rfl);assumption;assumption;decide;assumption)|fail)
    ·exact zk7 (by clear hat;simp;omega) rfl rfl rfl rfl
    ·(apply retB;decide;(clear hat;rw[if_neg (by simp;omega),if_pos (by omega)]);exact rfl)
    ·(apply retB;decide;(clear hat;rw[if_pos (by simp;omega)]);exact rfl)
   ·rw[if_neg hin]
    refine Sound.err rfl (fun _=>rfl) ?_
    refine so Tryz.func137 ?_
    refine TR.dead ?_
    repeat' (first|refine wkt ?_|refine wka ?_|refine wkD ?_|refine wk ?_|exact wkc|intro hc|refine wk2 ?_ ?_|refine wsx ?_|refine wms ?_|refine wsy ?_ ?_|(apply TO.zuw;(iterate 4 exact rfl);assumption;assumption;decide;assumption)|fail)
    (apply retB;decide;rfl;exact rfl)
end Go.Proofs.YthmbhfgflijapaaGreatDoor
namespace Go.TL
open Go
section rules
variable {P:Program}{all:Array Oper}
def zrV(g:Prop):List Oper->Prop
 | []=>g
 | _::_=>True
def zjZ(P:Program)(n:Nat)(K:TK)(g:Prop)(all:Array Oper)(full:Env)(H0:Heap):List Oper->List (SV×Bool)->Prop
 | [],[]=>True
 | o::l,(v,_)::t=>(∀env,TO false P n all [o] (zaM full (slotsOf all o)++env) H0 (NKP K (zrV g l) (putE o.dst v (zaM full (slotsOf all o)++env)) H0))/\zjZ P n K g all full H0 l t
 | _,_=>False
theorem zjZ.get{n:Nat}{K:TK}{g:Prop}{full:Env}{H0:Heap}:∀ {l:List Oper} {t:List (SV×Bool)},zjZ P n K g all full H0 l t->l.length=t.length/\∀(i:Nat) o v b,l[i]?=some o->t[i]?=some (v,b)->
  ∀env,TO false P n all [o] (zaM full (slotsOf all o)++env) H0 (NKP K (zrV g (l.drop (i+1))) (putE o.dst v (zaM full (slotsOf all o)++env)) H0)
 | [],[],_=>⟨rfl,fun i o v b h=>by simp at h⟩
 | [],_::_,h=>h.elim
 | _::_,[],h=>h.elim
 | o::l,(v,b)::t,h=>by
   obtain⟨h1,h2⟩:=h
   obtain⟨g1,g2⟩:=zjZ.get h2
   refine⟨by simp[g1],fun i o' v' b' ho hv=>?_⟩
   cases i with
   | zero=>simp at ho hv;obtain⟨rfl,rfl⟩:=hv;subst ho;exact h1
   | succ i=>exact g2 i o' v' b' (by simpa using ho) (by simpa using hv)
theorem TR.zjD{g:Prop}{n:Nat}{env0 envF:Env}{H0:Heap}{K:TK}{id':Nat}{l:List Oper}(t:List (SV×Bool))(hm:P.follows .mixedOrders=true)(hB:mixB l.toArray (t.map (·.2))=true)
  (hp:zjZ P n K g l.toArray (zbT l.toArray (t.map (·.1)) env0) H0 l t)(hE:zbK (zbT l.toArray (t.map (·.1)) env0)=some envF)(hne:0<l.length)(hK:g->K .normal envF H0):
  TR P n (.region id' l.toArray true) env0 H0 K:=by
 obtain⟨g1,g2⟩:=hp.get
 intro φ m a h1 h2 h3 h4
 let hs:=List.replicate (((t.map (·.2)).filter id).length+1) H0
 have hsg:∀(c:Nat) H,hs[c]?=some H->H=H0:=by
  exact zweo
 have hsi:∀c:Nat,c≤((t.map (·.2)).filter id).length->hs[c]?=some H0:=by
  intro c hc
  rw[qbL,if_pos (by omega)]
 have s0:Step m ⟨m.A,m.β,m.H,{ m.w with drawn:=m.w.drawn+1 }⟩/\HRel ⟨m.A,m.β,m.H,{ m.w with drawn:=m.w.drawn+1 }⟩:=zcJ h2 ⟨rfl,rfl,rfl,qae _,fun _ _=>rfl⟩
 refine zbs (wpIn_region_any hm ?_)
 refine zfe [] (G:=fun i=>zrV g (l.drop (i+1))) (vs:=t.map (·.1)) (fl:=t.map (·.2)) (hs:=hs) (HF:=H0) (m0:=m) (fun t ht=>by simp at ht) hB (by simp[g1]) (by simp[g1]) ?_ ?_ (hsi _ (qae _)) (fun hg=>by rw[zba hE]at hK;exact hK (by have:=hg (l.length-1) (by simp;omega);rw[qaY (by omega)]at this;exact this)) l.toArray.size (Array.replicate l.toArray.size false)
  ⟨m.A,m.β,m.H,{ m.w with drawn:=m.w.drawn+1 }⟩ a (by simp) ?_ ?_ ?_ s0.1 s0.2 ?_ (h4.step h2 s0.1)
 ·exact zwcf
 ·exact zwf
 ·exact zwfd
 ·exact zwcn
 ·exact zwbs
 ·exact zwi
end rules
end Go.TL
namespace Go.Proofs.YthmbhfgflijapaaGreatDoor
open Go Go.TL
attribute [local irreducible] TR TO Then zag RetK Sound zab Kf GG zaK
def ze7(p:Prog)(seen:List (Int×Str×Int))(node:Int)(vis:List Str)(left:Int)(x:Ex):Int:=
 if x.kind.1=2\/x.kind.1=8\/x.kind.1=9 then(if x.name∈vis then 0 else 6) else if x.kind.1=10 then zkf p seen node left x else 0
def zd8(p:Prog)(seen:List (Int×Str×Int))(node:Int)(vis:List Str)(left:Int)(e:Ex):Int:=orE (ze7 p seen node vis left e) (zac (ze7 p seen node vis 1) (flats e.args))
def lf(left:Int)(pre:List Ex):Int:=if pre=[] then left else 1
theorem zvq(left:Int)(pre:List Ex)(x:Ex):lf left (pre++[x])=1:=by simp[lf]
def panF(g:Int->Ex->Int)(left n q:Int)(Hd:Int->Heap)(pre:List Ex)(x:Ex):Out:=if g (lf left pre) x=0 then .go else .panic (zcp n q (g (lf left pre) x)) (Hd (lf left pre))
theorem zqz(g:Int->Ex->Int)(left n q:Int)(Hd:Int->Heap):∀(l pre:List Ex),pre≠ []->zbh (panF g left n q Hd) pre l=if zac (g 1) l=0 then .go else .panic (zcp n q (zac (g 1) l)) (Hd 1)
 | [],pre,_=>by simp[zbh,zac]
 | x::l,pre,hp=>by
   have h1:lf left pre=1:=by simp[lf,hp]
   simp only[zbh,panF,zac,h1]
   by_cases h:g 1 x=0
   ·exact zwfp
   ·simp[h]
theorem zsm(g:Int->Ex->Int)(left n q:Int)(Hd:Int->Heap)(x:Ex)(l:List Ex):zbh (panF g left n q Hd) [] (x::l)=if g left x=0 then(if zac (g 1) l=0 then .go else .panic (zcp n q (zac (g 1) l)) (Hd 1)) else .panic (zcp n q (g left x)) (Hd left):=by
 have h1:lf left []=left:=by simp[lf]
 simp only[zbh,panF,h1]
 by_cases h:g left x=0
 ·exact zwfp
 ·simp[h]
structure zgg (p:Prog):Prop where
 nodes:p.nodes.length≤1000000000
 each:∀u∈p.nodes,u.ins.length≤1000000000/\u.outs.length≤1000000000
def ExOk(x:Ex):Prop:=(x.kind.1=10->x.v.1=0\/x.v.1=1)/\x.name.length≤1000000000
set_option maxHeartbeats 4000000 in
theorem zei (p:Prog) (hp:zgg p) (n q:Int) (seen:List (Int×Str×Int)) (hse:zaW seen) (hsn:zcl p seen) (node left:Int) (h:Ch) (hk:h.ok) (e:Ex) (hw:wEx e≤1000000000) (hex:∀x∈flat e,ExOk x):
  SS 103 [.i node,.ref h.id 0,.t (.ag (exC e)),.i left] p n q seen h h (zd8 p seen node h.vis left e):=by
 revert hk
 revert h
 refine Ch.lt fun h=>?_
 cases h
 all_goals
  intro g hk
  have hs:=zdx e
  rw[zae]at hs
  have hc0:exC e=[T.n e.kind,T.n e.op,T.n e.t,T.n e.v,.s e.name,.sl 6 (e.args.map exT)]:=rfl
  rw[hc0]at hs⊢
  have hz:zd8 p seen node (g.vis) left e=zd8 p seen node (g.vis) left e:=rfl
  conv at hz=>rhs;unfold zd8 orE
  generalize zd8 p seen node (g.vis) left e=z at hz⊢
  refine Sound.err rfl (fun _=>rfl) ?_
  refine so Tryz.func103 ?_
  refine TR.dead ?_
  repeat' (first|refine wu ?_|exact wkc|intro hc|refine wk2 ?_ ?_|refine wv hs ?_|fail)
  refine TR.zep e (fun pre=>(full p n q seen g)++[.cells [.ref 0 0],.cells [.i node],.cells [.ref g.id 0],.cells [.t (T.n e.kind),.t (T.n e.op),.t (T.n e.t),.t (T.n e.v),.t (.s e.name),.t (.sl 6 (e.args.map exT))],.cells [.i (lf left pre)]]) (panF (ze7 p seen node (g.vis)) left n q (fun u=>.dead:: .dead::((g.heap)++[.cells [.ref 0 0],.cells [.i node],.cells [.ref g.id 0],.cells [.t (T.n e.kind),.t (T.n e.op),.t (T.n e.t),.t (T.n e.v),.t (.s e.name),.t (.sl 6 (e.args.map exT))],.cells [.i u]]))) rfl hw ?_ rfl rfl (fun _=>⟨rfl,rfl⟩) (fun pre x=>?_) (fun fn pre x post hsp=>?_) (fun fn=>?_)
  ·rw[show lf left []=left from rfl];rfl
  ·unfold panF
   split <;> rename_i hq <;> split at hq <;> cases hq
   ·trivial
   ·exact⟨rfl,rfl,rfl⟩
  ·have hxk:=hex x (by rw[hsp];simp)
   have hno:=hxk.2
   have hcx:exC x=[T.n x.kind,T.n x.op,T.n x.t,T.n x.v,.s x.name,.sl 6 (x.args.map exT)]:=rfl
   have hcal:=fun hv=>zlM p hp.nodes hp.each n q seen hse hsn node (lf left pre) x hv hno
   have ho:ze7 p seen node (g.vis) (lf left pre) x=ze7 p seen node (g.vis) (lf left pre) x:=rfl
   conv at ho=>rhs;unfold ze7
   have hpf:panF (ze7 p seen node (g.vis)) left n q (fun u=>.dead:: .dead::((g.heap)++[.cells [.ref 0 0],.cells [.i node],.cells [.ref g.id 0],.cells [.t (T.n e.kind),.t (T.n e.op),.t (T.n e.t),.t (T.n e.v),.t (.s e.name),.t (.sl 6 (e.args.map exT))],.cells [.i u]])) pre x=if ze7 p seen node (g.vis) (lf left pre) x=0 then .go else .panic (zcp n q (ze7 p seen node (g.vis) (lf left pre) x)) (.dead:: .dead::((g.heap)++[.cells [.ref 0 0],.cells [.i node],.cells [.ref g.id 0],.cells [.t (T.n e.kind),.t (T.n e.op),.t (T.n e.t),.t (T.n e.v),.t (.s e.name),.t (.sl 6 (e.args.map exT))],.cells [.i (lf left pre)]])):=rfl
   have hla:=zvq left pre x
   generalize panF (ze7 p seen node (g.vis)) left n q (fun u=>.dead:: .dead::((g.heap)++[.cells [.ref 0 0],.cells [.i node],.cells [.ref g.id 0],.cells [.t (T.n e.kind),.t (T.n e.op),.t (T.n e.t),.t (T.n e.v),.t (.s e.name),.t (.sl 6 (e.args.map exT))],.cells [.i u]]))=pf at*
   generalize ze7 p seen node (g.vis) (lf left pre) x=z1 at*
   generalize lf left pre=lv at*
   rw[hcx]at hcal⊢
   have hq:x.kind.1=10\/x.kind.1≠10:=by omega
   rcases hq with hq|hq
   ·have hcal:=hcal (hxk.1 hq)
    rw[if_neg (by omega),if_pos hq]at ho
    rw[<-ho]at hcal
    repeat' (first|refine wu ?_|exact wkc|intro hc|refine wk2 ?_ ?_|fail)
    refine⟨rfl,?_⟩
    repeat' (first|refine wkt ?_|refine wka ?_|refine wkD ?_|refine wk ?_|exact wkc|intro hc|refine wk2 ?_ ?_|refine wsx ?_|refine wms ?_|refine wsy ?_ ?_|refine we hcal ?_ ?_|fail)
    ·exact⟨by rw[hpf,if_pos hc],by simp only[hla];rfl,rfl⟩
    ·exact⟨_,by rw[hpf,if_neg hc];rfl,rfl,rfl⟩
   ·clear hcal
    repeat' (first|refine wu ?_|exact wkc|intro hc|refine wk2 ?_ ?_|fail)
    refine⟨rfl,?_⟩
    by_cases hm:x.name∈g.vis
    ·rw[if_pos hm]at ho
     repeat' (first|refine wkt ?_|refine TR.zjD (envF:=_) (g:=True) [(.ref 0 0,false),(.ref g.id 0,false),(.cp [T.n x.kind,T.n x.op,T.n x.t,T.n x.v,.s x.name,.sl 6 (x.args.map exT)] 4,false),(.s x.name,false),(.b true,true),(.tup [],true)] hmix (by dsimp only[List.map];decide +kernel) ?_ rfl (by decide) ?_|refine wk ?_|exact wkc|intro hc|refine wk2 ?_ ?_|exact qai (qai rfl rfl) trivial|refine qai (fun env=>?_) ?_|exact trivial|exact absurd hm hc|exact absurd hc hm|exact(fun hf=>hf.elim)|refine wms ?_|(apply TO.sees hk;(iterate 3 exact rfl);assumption)|fail)
     all_goals exact⟨by rw[hpf,if_pos (by rw[ho];clear hpf hs;grind)],by simp only[hla];rfl,rfl⟩
    ·rw[if_neg hm]at ho
     repeat' (first|refine wkt ?_|refine TR.zjD (envF:=_) (g:=False) [(.ref 0 0,false),(.ref g.id 0,false),(.cp [T.n x.kind,T.n x.op,T.n x.t,T.n x.v,.s x.name,.sl 6 (x.args.map exT)] 4,false),(.s x.name,false),(.b false,true),(.tup [],true)] hmix (by dsimp only[List.map];decide +kernel) ?_ rfl (by decide) ?_|refine wk ?_|exact wkc|intro hc|refine wk2 ?_ ?_|exact qai (qai rfl rfl) trivial|refine qai (fun env=>?_) ?_|exact trivial|exact absurd hm hc|exact absurd hc hm|exact(fun hf=>hf.elim)|refine wms ?_|(apply TO.sees hk;(iterate 3 exact rfl);assumption)|fail)
     all_goals first
      | exact⟨by rw[hpf,if_pos (by rw[ho];clear hpf hs;grind)],by simp only[hla];rfl,rfl⟩
      | (have h6:z1=6:=by rw[ho];clear hpf hs;grind
         rw[h6,if_neg (by decide)]at hpf
         exact⟨_,by rw[hpf];rfl,rfl,rfl⟩)
  ·rw[zbJ,zsm]
   by_cases z1:ze7 p seen node (g.vis) left e=0
   ·rw[if_pos z1]at hz⊢
    by_cases z2:zac (ze7 p seen node (g.vis) 1) (flats e.args)=0
    ·rw[if_pos z2]
     simp only[]
     rw[z2]at hz
     repeat' (first|refine wu ?_|exact wkc|intro hc|refine wk2 ?_ ?_|fail)
     exact zk7 hz rfl rfl rfl rfl
    ·rw[if_neg z2]
     simp only[]
     (repeat' (first|refine zab.panic ?_|refine wk ?_|fail))
     exact retB z2 hz.symm rfl
   ·rw[if_neg z1]at hz⊢
    simp only[]
    (repeat' (first|refine zab.panic ?_|refine wk ?_|fail))
    exact retB z1 hz.symm rfl
theorem Ch.app(h h':Ch)(p:Prog)(n q n' q':Int)(seen seen':List (Int×Str×Int)):full p n' q' seen' h'++(full p n q seen h).drop h.N=full p n' q' seen' h':=by
 rw[qaY (by rw[Ch.len];exact qae _),qaG]
theorem Ch.nb1(h:Ch):Nat.blt 0 h.N=true:=by cases h <;> rfl
theorem Ch.nb2(h:Ch):Nat.blt h.id h.N=true:=by cases h <;> rfl
section
variable {n:Nat}{env:Env}{K:TK}{all:Array Oper}{rest:List Oper}{d:Nat}{ty:TypeId}{pos:String}{aft:Array Edge}{p:Prog}{a q a' q':Int}{seen seen':List (Int×Str×Int)}{H H2:Heap}{args:Array Operand}{ts:Array TypeId}
theorem TO.zv6{h h':Ch}{c:Int}{cargs:List SV}{v pv:SV}{f:Operand}{fid:FuncId}{caps:List SV}{vs:List SV}
  (hs:Sound Tryz.prog fid cargs (full p a q seen h) (Err c v pv (full p a' q' seen' h')))(hn:h'.N=h.N)(hd:Nat.ble (d+1) n=true)(hf:env.val f=some (.fn fid caps))(ha:env.vals args.toList=some vs)(hl:Les (vs++caps) cargs)
  (hH:H.take h.N=full p a q seen h)(hu:unders h.N cargs=true)(hv:v.under h.N=true)(hpv:pv.under h.N=true)(hH2:full p a' q' seen' h'++H.drop h.N=H2)
  (k:c=0->TO false Tryz.prog n all rest ((d,v)::env) H2 K)(kp:c≠0->K (.panic pv) env (List.replicate h.N .dead++H.drop h.N)):
  TO false Tryz.prog n all (⟨some d,.call { callee:=.value f,args:=args,argTypes:=ts },ty,pos,aft,none⟩::rest) env H K:=by
 have hN:h.N≤H.length:=by have:=congrArg List.length hH;rw[Ch.len]at this;simp at this;omega
 exact TO.zkg h.N hs hd hf ha hl (by simpa using hN) hH hu (Ch.under h p a q seen) hv hpv ((Ch.len h' p a' q' seen').trans hn) (by have:=Ch.under h' p a' q' seen';rw[hn]at this;exact this) (by rw[<-hH2,zbg]) k kp
end
theorem wss{G Q1 Q2:Prop}{f:FuncId}{cargs:List SV}{v pv:SV}{c:Int}{p:Prog}{a q a' q':Int}{seen seen':List (Int×Str×Int)}{h h':Ch}(hs:Sound Tryz.prog f cargs (full p a q seen h) (Err c v pv (full p a' q' seen' h')))(k1:Q1)(k2:Q2)
  (hh:Sound Tryz.prog f cargs (full p a q seen h) (Err c v pv (full p a' q' seen' h'))->Hold Q1->Hold Q2->G:=by
  intro hs k1 k2
  (apply Go.Proofs.YthmbhfgflijapaaGreatDoor.TO.zv6 hs;(first|exact rfl|simp);(iterate 3 exact rfl);exact zqa;(first|exact rfl|exact Go.Proofs.YthmbhfgflijapaaGreatDoor.Ch.tk _ _ _ _ _);(first|exact rfl|(simp only[unders,SV.under,Go.Proofs.YthmbhfgflijapaaGreatDoor.Ch.nb1,Go.Proofs.YthmbhfgflijapaaGreatDoor.Ch.nb2,Bool.and_self]));exact rfl;exact rfl;(first|exact Go.Proofs.YthmbhfgflijapaaGreatDoor.Ch.app _ _ _ _ _ _ _ _ _|exact rfl);exact k1.p;exact k2.p)):G:=hh hs ⟨k1⟩ ⟨k2⟩
def zrv(p:Prog)(seen:List (Int×Str×Int))(node:Int)(vis:List Str)(l:List Tran):Int:=zac (fun t=>zd8 p seen node vis 1 t.cond) l
theorem ziE(p:Prog)(hp:zgg p)(n q:Int)(seen:List (Int×Str×Int))(hse:zaW seen)(hsn:zcl p seen)(node:Int)(h:Ch)(hk:h.ok)(l:List Tran)(hw:(T.sl 8 (l.map zay)).w≤1000000000)(hex:∀t∈l,∀x∈flat t.cond,ExOk x):
  SS 139 [.i node,.ref h.id 0,.t (.sl 8 (l.map zay))] p n q seen h h (zrv p seen node h.vis l):=by
 have hml:(l.map zay).length=l.length:=qab _
 have hlb:l.length≤1000000000:=qaq (qbY (zaB zay 8 l)) hw
 unfold zrv
 refine Sound.err rfl (fun _=>rfl) ?_
 refine so Tryz.func139 ?_
 refine TR.dead ?_
 repeat' (first|refine wu ?_|exact wkc|intro hc|refine wk2 ?_ ?_|fail)
 refine TR.zaA l.length (fun k=>zac (fun t=>zd8 p seen node h.vis 1 t.cond) (l.take k)=0) (fun k=>[(0,.ref 0 0),(1,.i node),(2,.ref h.id 0),(10,.t (.sl 8 (l.map zay))),(11,.i (l.map zay).length),(12,.i k)]) (fun _=>full p n q seen h) rfl (fun k hlt ha=>?_) (fun ha=>?_)
 ·have hx:=zlF hlt
  have g1:=zaJ (f:=fun t=>zd8 p seen node h.vis 1 t.cond) hlt ha
  have g2:=zaz (f:=fun t=>zd8 p seen node h.vis 1 t.cond) hlt ha
  have hwx:=zaN (f:=zay) (sz:=8) (qaf hlt)
  have hs:=zei p hp n q seen hse hsn node 1 h hk l[k].cond (by have:=zjV (t:=l[k]);omega) (hex _ (qaf hlt))
  generalize l[k]=x at*
  generalize zd8 p seen node h.vis 1 x.cond=z at*
  unfold zlo at hx
  unfold exC at hs
  repeat' (first|refine wkt ?_|refine wka ?_|refine wkD ?_|refine wk ?_|exact wkc|intro hc|refine wk2 ?_ ?_|refine wsx ?_|refine wms ?_|refine wsy ?_ ?_|refine wss hs ?_ ?_|fail)
  ·exact zab.zaI hlt (g2 hc)
  ·((repeat' (first|refine zab.panic ?_|refine wk ?_|fail));apply retS;(first|assumption|decide);(clear hx hs;first|grind|grind [orE]);(first|exact leB|exact Nat.le_refl _|(simp[Ch.len];done)|(simp[Ch.len];omega)))
 ·exact zwbq
def Lv.zdq(a:Lv)(s:Str):Lv:={ a with done:=ins a.done s,defs:=a.defs++[s] }
theorem Lv.ok.zdq{a:Lv}(h:a.ok){s:Str}(hs:s.length≤1000000000):(a.zdq s).ok:=⟨h.own,h.done.ins hs⟩
def zc9(vis low:List Str)(a:Lv)(s:Str):Lv×Int:=(a.zdq s,if s∈vis then(if s∈low\/s∈a.done then 7 else 0) else 6)
def equS(p:Prog)(seen:List (Int×Str×Int))(node:Int)(vis0 low:List Str)(a:Lv)(u:Equ):Lv×Int:=
 ((zai (zc9 (vis0++a.own) low) a u.left).1,orE (zai (zc9 (vis0++a.own) low) a u.left).2 (zd8 p seen node (vis0++a.own) u.left.length u.right))
theorem zsW{u:Equ}{s:Str}(h:s∈u.left):s.length≤(equT u).w:=by
 have h1:=zaN (f:=T.s) (sz:=1) h
 rw[w_s]at h1
 rw[show equT u= .ag (.sl 1 (u.left.map T.s)::exC u.right) from rfl,w_ag,qah,qay]
 omega
theorem zkp(p:Prog)(hp:zgg p)(n q:Int)(seen:List (Int×Str×Int))(hse:zaW seen)(hsn:zcl p seen)(node:Int)(h:Ch)(hne:h.N≠5)(hk0:h.ok)(u:Equ)(hw:(equT u).w≤1000000000)(hdl:h.top.defs.length+u.left.length≤2000000000)(hex:∀x∈flat u.right,ExOk x):
  SS 70 [.i node,.ref h.id 0,.t (.ag (equC u))] p n q seen h (h.set (equS p seen node h.vis0 h.low h.top u).1) (equS p seen node h.vis0 h.low h.top u).2:=by
 have hset:=fun{x:Lv} (hx:x.ok)=>Ch.zp4 hk0 hx
 have ht0:=Ch.zp5 hk0
 clear hk0
 revert hne hdl hset ht0
 revert h
 refine Ch.lt fun h=>?_
 cases h
 case one=>intro g hne;exact absurd rfl hne
 all_goals
  intro g hne hdl hset ht0
  clear hne
  have hml:(u.left.map T.s).length=u.left.length:=qab _
  have hlb:u.left.length≤1000000000:=qaq zeD hw
  have hwl:∀s∈u.left,s.length≤1000000000:=fun s hs=>qaq (zsW hs) hw
  have hwe:=qaq (zq7 (q:=u)) hw
  unfold equS equC
  refine Sound.err rfl (fun _=>rfl) ?_
  refine so Tryz.func70 ?_
  refine TR.dead ?_
  repeat' (first|refine wu ?_|exact wkc|intro hc|refine wk2 ?_ ?_|fail)
  refine TR.zaA u.left.length (fun k=>(zai (zc9 (g.vis0++g.top.own) g.low) g.top (u.left.take k)).2=0/\(zai (zc9 (g.vis0++g.top.own) g.low) g.top (u.left.take k)).1.ok/\(zai (zc9 (g.vis0++g.top.own) g.low) g.top (u.left.take k)).1.own=g.top.own/\(zai (zc9 (g.vis0++g.top.own) g.low) g.top (u.left.take k)).1.defs.length=g.top.defs.length+k) (fun k=>[(0,.ref 0 0),(1,.i node),(2,.ref g.id 0),(7,.cp [.sl 1 (u.left.map T.s),T.n u.right.kind,T.n u.right.op,T.n u.right.t,T.n u.right.v,.s u.right.name,.sl 6 (u.right.args.map exT)] 0),(11,.t (.sl 1 (u.left.map T.s))),(12,.i (u.left.map T.s).length),(13,.i k)]) (fun k=>full p n q seen (g.set (zai (zc9 (g.vis0++g.top.own) g.low) g.top (u.left.take k)).1)) ⟨rfl,ht0,rfl,rfl⟩ (fun k hlt ha=>?_) (fun ha=>?_)
  ·have hx:=at_s hlt
   have hno:=hwl _ (qaf hlt)
   have g1:=zcA (f:=(zc9 (g.vis0++g.top.own) g.low)) hlt ha.1
   have g2:=zbD (f:=(zc9 (g.vis0++g.top.own) g.low)) hlt ha.1
   obtain⟨ha1,ha2,ha3,ha4⟩:=ha
   generalize (zai (zc9 (g.vis0++g.top.own) g.low) g.top (u.left.take k)).1=st at*
   generalize u.left[k]=x at*
   have hk:=hset ha2
   have hdn:=ha2.done
   have hz:((zc9 (g.vis0++g.top.own) g.low) st x).2=if x∈g.vis0++g.top.own then(if x∈g.low\/x∈st.done then 7 else 0) else 6:=rfl
   have hz1:((zc9 (g.vis0++g.top.own) g.low) st x).1=st.zdq x:=rfl
   have hok:=ha2.zdq hno
   have hl1:(st.defs.map T.s).length=st.defs.length:=qab _
   have hma:(st.defs++[x]).map T.s=st.defs.map T.s++[T.s x]:=by simp
   generalize hfx:(zc9 (g.vis0++g.top.own) g.low) st x=fx at*
   repeat' (first|refine wkt ?_|refine wka ?_|refine wkD ?_|refine wk ?_|exact wkc|intro hc|refine wk2 ?_ ?_|refine wsx ?_|refine wms ?_|refine wsy ?_ ?_|(apply TO.zix zaf;(iterate 9 exact rfl);(exact qcH _);(iterate 4 exact rfl);(simp only[qal,qaz];omega);exact rfl)|fail)
   all_goals simp only[Ch.vis,Ch.zjH,Ch.zmt,Ch.zux]at*
   all_goals first
    | ((repeat' (first|refine zab.panic ?_|refine wk ?_|fail));apply retS;(first|assumption|decide);(clear hx;first|grind|grind [orE]);(first|exact leB|exact Nat.le_refl _|(simp[Ch.len];done)|(simp[Ch.len];omega)))
    | (refine zab.zaI hlt ⟨by rw[g2];clear hx;grind,by rw[g2,hz1];exact hok,by rw[g2,hz1];exact ha3,by rw[g2,hz1];simp[Lv.zdq,ha4];omega⟩ ?_ (by rw[g2,hz1];simp only[g,full,Ch.set,Ch.heap,Lv.zdq,nmB,rowB,hma];rfl)
       repeat' (first|exact trivial|refine qai rfl ?_|fail))
  ·obtain⟨ha1,ha2,ha3,ha4⟩:=ha
   rw[qap]at*
   have hk:=hset ha2
   have hs:=zei p hp n q seen hse hsn node u.left.length (g.set (zai (zc9 (g.vis0++g.top.own) g.low) g.top u.left).1) hk u.right hwe hex
   have hvis:Ch.vis (g.set (zai (zc9 (g.vis0++g.top.own) g.low) g.top u.left).1)=g.vis0++g.top.own:=by simp only[Ch.vis,Ch.zjH,Ch.zmt,ha3]
   rw[hvis,<-hml]at hs
   rw[<-hml]
   unfold exC at hs
   generalize zd8 p seen node (g.vis0++g.top.own) ((u.left.map T.s).length:Int) u.right=z at*
   generalize zai (zc9 (g.vis0++g.top.own) g.low) g.top u.left=st at*
   repeat' (first|refine wkt ?_|refine wka ?_|refine wkD ?_|refine wk ?_|exact wkc|intro hc|refine wk2 ?_ ?_|refine wsx ?_|refine wms ?_|refine wsy ?_ ?_|refine wss hs ?_ ?_|fail)
   ·exact zk7 (by clear hs;rw[ha1];simp[orE,hc]) rfl rfl rfl rfl
   ·(apply retB;assumption;(clear hs;rw[ha1];simp[orE]);exact rfl)
end Go.Proofs.YthmbhfgflijapaaGreatDoor
namespace Go.TL
open Go
theorem zvh{m:M}(hm:HRel m){R:Nat}{e:TypeId}{ts:List T}{p:Place}(hp:m.β[R]?=some p)(hH:m.H[R]?=some (.row e ts)):
  Step m ⟨m.A,m.β++[p],m.H.set R .dead++[.cells (ts.map .t)],m.w⟩/\HRel ⟨m.A,m.β++[p],m.H.set R .dead++[.cells (ts.map .t)],m.w⟩:=by
 have hR:=(qaa.1 hH).1
 have hlen:=hm.len
 have pick:∀(i:Nat) q c,(m.β++[p])[i]?=some q->(m.H.set R .dead++[Blk.cells (ts.map .t)])[i]?=some c->c.live=true->(i=m.H.length/\q=p/\c= .cells (ts.map .t))\/(i≠R/\i<m.H.length/\m.β[i]?=some q/\m.H[i]?=some c):=by
  intro i q c h1 h2 hl
  by_cases hi:i<m.H.length
  ·rw[qat (by rw[hlen];exact hi)]at h1
   rw[qat (by simpa using hi)]at h2
   by_cases hir:i=R
   ·subst hir
    rw[qav hR]at h2
    cases h2;cases hl
   ·rw[qaF (by omega)]at h2
    exact .inr ⟨hir,hi,h1,h2⟩
  ·rw[qaA (by rw[hlen];omega)]at h1
   rw[qaA (by simp;omega)]at h2
   have:i=m.H.length:=by
    have:=(qaa.1 h2).1
    simp at this;omega
   subst this
   simp[hlen]at h1 h2
   exact .inl ⟨rfl,h1.symm,h2.symm⟩
 have own:∀b o,Own ⟨m.A,m.β++[p],m.H.set R .dead++[.cells (ts.map .t)],m.w⟩ b o->Own m b o:=by
  rintro b o ⟨i,q,c,h1,h2,h3,h4⟩
  rcases pick i q c h1 h2 h3 with ⟨rfl,rfl,rfl⟩|⟨_,_,g1,g2⟩
  ·exact⟨R,q,_,hp,hH,rfl,h4⟩
  ·exact⟨i,q,c,g1,g2,h3,h4⟩
 have s:Step m ⟨m.A,m.β++[p],m.H.set R .dead++[.cells (ts.map .t)],m.w⟩:=by
  refine⟨rfl,rfl,rfl,qae _,fun _ _ h=>h,fun _ _ h=>.inl h,fun b o h=>.inl (own b o h),fun _ _ _ _=>rfl,fun _ _ _ _ _=>rfl,fun _ _ _=>rfl,fun _ _ h=>h,fun _ L h=>⟨L,h⟩,fun _ _ _ h=>h,fun i q hq=>⟨q,?_,?_⟩⟩
  ·show(m.β++[p])[i]?=some q
   exact zwev
  ·have hi:i<m.H.length:=by rw[<-hlen];exact(qaa.1 hq).1
   show zaZ m.H[i]? (m.H.set R .dead++[Blk.cells (ts.map .t)])[i]? q q
   rw[qat (by simpa using hi)]
   by_cases hir:i=R
   ·subst hir
    rw[qav hR,hH]
    intro n' h
    cases h
   ·rw[qaF (by omega)]
    exact zaZ.refl _ _
 obtain⟨⟨r1,r2,r3⟩,r4,r5⟩:=hm.blk R p _ hp hH
 refine⟨s,by simp[hlen],fun i q c h1 h2=>?_,fun i j q q' c c' hij h1 h2 h3 h4 hc hc'=>?_,fun b o h hn=>hm.still b o h (own b o hn),hm.inA,fun i q c h1 h2 hc hq=>?_,s.glob hm⟩
 ·cases hlv:c.live with
  | false=>cases c <;> simp[Blk.live]at hlv;trivial
  | true=>
    rcases pick i q c h1 h2 hlv with ⟨rfl,rfl,rfl⟩|⟨_,_,g1,g2⟩
    ·refine⟨by simp[r1];exact r2,r4,fun j c hc=>?_⟩
     rw[qar]at hc
     cases ht:ts[j]? with
     | none=>rw[ht]at hc;cases hc
     | some t=>
       rw[ht]at hc;cases hc
       obtain⟨y,y1,y2,y3⟩:=r5 j t ht
       exact⟨y,y1,y2,.t _ _ y3⟩
    ·exact(hm.blk i q c g1 g2).step hm s (fun o _ _=>⟨rfl,fun _=>rfl⟩) (fun _=>rfl)
 ·rcases pick i q c h1 h2 hc with ⟨rfl,rfl,rfl⟩|⟨a0,a1,a2,a3⟩
  ·rcases pick j q' c' h3 h4 hc' with ⟨rfl,rfl,rfl⟩|⟨b0,b1,b2,b3⟩
   ·exact absurd rfl hij
   ·exact hm.apart R j _ _ _ _ (fun e=>b0 e.symm) hp hH b2 b3 rfl hc'
  ·rcases pick j q' c' h3 h4 hc' with ⟨rfl,rfl,rfl⟩|⟨b0,b1,b2,b3⟩
   ·exact hm.apart i R _ _ _ _ a0 a2 a3 hp hH hc rfl
   ·exact hm.apart i j _ _ _ _ hij a2 a3 b2 b3 hc hc'
 ·rcases pick i q c h1 h2 hc with ⟨rfl,rfl,rfl⟩|⟨a0,a1,a2,a3⟩
  ·exact hm.inO R _ _ hp hH rfl hq
  ·exact hm.inO i q c a2 a3 hc hq
section rules
variable {P:Program}{n:Nat}{env:Env}{H:Heap}{K:TK}{all:Array Oper}{rest:List Oper}{tab:Tab}
variable {d:Nat}{ty:TypeId}{pos:String}{aft:Array Edge}{q:Bool}
theorem TO.fix(x:Nat){R len:Nat}{e:TypeId}{ts:List T}{H':Heap}{ops:List Oper}(hx:env.look x=some (.rw R len))(hH:H[R]?=some (.row e ts))(hl:len=ts.length)(hpos:0<ts.length)(hH':H.set R .dead++[.cells (ts.map .t)]=H')
  (k:TO false P n all ops ((x,.ms 1 H.length 0 len)::env) H' K):TO false P n all ops env H K:=by
 intro φ m a h1 h2 h3 h4
 obtain⟨y,y1,y2⟩:=h3.2 x _ hx
 cases y2 with
 | rw _ _ _ p hp hxs ho=>
   have hH1:m.H[R]?=some (.row e ts):=by rw[h1];exact hH
   obtain⟨s,hm'⟩:=zvh h2 hp hH1
   have hho:=(ho ts.length (by rw[hH1];rfl)).2 (by rw[hl])
   obtain⟨ad,cap,hyq,hc1,hc2,hc3,hc4⟩:=hho
   have hE:ERel ⟨m.A,m.β++[p],m.H.set R .dead++[.cells (ts.map .t)],m.w⟩ n ((x,.ms 1 H.length 0 len)::env) a.tmps:=by
    refine⟨h3.1,fun i v hv=>?_⟩
    by_cases hi:x=i
    ·subst hi
     rw[Env.zat]at hv
     cases hv
     refine⟨y,y1,?_⟩
     cases ad with
     | none=>simp only at hc4;omega
     | some a0=>
       obtain⟨hc4,hc5⟩:=hc4
       subst hyq hc4
       have hz:(⟨p.b,0,none⟩:Addr)=⟨p.b,p.lo+0,none⟩:=by rw[hc2]
       rw[hz]
       refine .ms 1 H.length 0 len cap p ?_ ?_ hc1 (by omega)
       ·show(m.β++[p])[H.length]?=some p
        rw[<-h1,<-h2.len,qaA (qae _)];simp
       ·intro n' hn
        have:(m.H.set R .dead++[Blk.cells (ts.map .t)])[H.length]?=some (.cells (ts.map .t)):=by
         rw[<-h1,qaA (by simp)];simp
        rw[show(M.H ⟨m.A,m.β++[p],m.H.set R .dead++[.cells (ts.map .t)],m.w⟩)[H.length]?=_ from this]at hn
        cases hn
    ·rw[Env.zak _ _ hi]at hv
     exact(h3.step h2 s).2 i v hv
   exact TO.zeM (m':=⟨m.A,m.β++[p],m.H.set R .dead++[.cells (ts.map .t)],m.w⟩) s (k φ ⟨m.A,m.β++[p],m.H.set R .dead++[.cells (ts.map .t)],m.w⟩ a (by show m.H.set R .dead++_=H';rw[h1];exact hH') hm' hE (h4.step h2 s))
theorem TO.effV{op:Op}{H':Heap}
  (h:∀(m:M) (a:Act),m.H=H->HRel m->ERel m n env a.tmps->∃x m',(execOp a.eval ⟨none,op,ty,pos,aft,none⟩).run P m.w= .ok (.value x) m'.w/\Step m m'/\HRel m'/\m'.H=H')
  (k:TO false P n all rest env H' K):TO false P n all (⟨none,op,ty,pos,aft,none⟩::rest) env H K:=by
 intro φ m a h1 h2 h3 h4
 obtain⟨x,m',hx,s,hm',hH'⟩:=h m a h1 h2 h3
 refine wpListIn_plain rfl fun K' hK=>?_
 unfold Oper.wpIn
 refine⟨fun _ _=>trivial,?_⟩
 rw[za6 hx (by intro d e;cases e)]
 simp only[Oper.uponIn]
 exact hK _ _ (TO.zeM s (k φ m' _ hH' hm' (by simpa [Act.put]using h3.step h2 s) (by simpa [Act.put]using h4.step h2 s)))
theorem TO.zu8(hT:zaw P tab){t e:TypeId}{i ie:TyI}{z:T}{x:Operand}{id off len:Nat}{cs:List SV}{H':Heap}(ht:tab.get t=some i)(hk:i.k= .slice e)(he:tab.get e=some ie)(hz:ie.zero=[z])(hag:ie.k.agg=false)
  (hx:env.val x=some (.ms 1 id off len))(hH:H[id]?=some (.cells cs))(hpos:0<len)(hl:off+len≤cs.length)(hH':H.set id (.cells (splice cs off (List.replicate len (.t z))))=H')
  (k:TO false P n all rest env H' K):TO false P n all (⟨none,.call { callee:=.builtin .clear,args:=#[x],argTypes:=#[t] },ty,pos,aft,none⟩::rest) env H K:=
 TO.effV (fun m ac h1 h2 h3=>by
  obtain⟨zz,hz1,hz2,_,hz4⟩:=(hT e ie he).zero
  obtain⟨g1,g0,g2⟩:=zb3 (A:=m.A) (w:=m.w) _ _ hz2
  have hzz:zz.cells= #[zz]:=by
   exact zwft
  have h:=h3.val hx
  generalize hq:ac.eval x=u at h
  cases h with
  | ms _ _ _ _ cap p hp hn hc hh=>
    have hH1:m.H[id]?=some (.cells cs):=by rw[h1];exact hH
    obtain⟨b1,b2,b3⟩:=h2.blk id p _ hp hH1
    have hzr:TRel m.A m.w z zz:=g2 0 z zz (by rw[hz];rfl) (by rw[hzz];rfl)
    obtain⟨s,hm'⟩:=zh7 h2 (off:=off) (vs:=List.replicate len (.t z)) (ys:=List.replicate len zz) hp hH1 (by simpa using hl) (by simpa using hpos) (by simp) (fun u hu=>by rw[List.eq_of_mem_replicate hu];exact hz4 hag)
     (fun j c y hc hy=>by
       rw[qbL]at hc hy
       split at hc
       ·rename_i hj
        rw[if_pos hj]at hy
        cases hc;cases hy
        exact .t _ _ hzr
       ·cases hc)
    refine⟨.tuple #[],_,?_,s,hm',by rw[h1];exact hH'⟩
    have hun:=(hT t i ht).slice hk
    have hrun:=Go.Lib.run_clear_slice (P:=P) m.w t e ty zz hun (fun w=>hz1 w) hzz (hz4 hag) p.b (p.lo+off) len cap hpos (fun j hj=>(b2 _ (by omega) (by omega)).1) (fun j hj=>(b2 _ (by omega) (by omega)).2)
    simp[execOp,resolve,invoke,hq,builtin,hrun]) k
theorem TO.zoI(hT:zaw P tab){t e:TypeId}{i ie:TyI}{x z:Operand}{sz id off len b:Nat}{ik:IntKind}(hd:Nat.ble (d+1) n=true)(ht:tab.get t=some i)(hk:i.k= .slice e)(he:tab.get e=some ie)(hsz:ie.size=sz)
  (hx:env.val x=some (.ms sz id off len))(hz:env.val z=some (.t (.v (.int ik (b:Int)))))(h2:b<len)
  (k:TO q P n all rest ((d,.ms sz id (off+b*sz) (len-b))::env) H K):TO q P n all (⟨some d,.slice t x (some z) none none,ty,pos,aft,none⟩::rest) env H K:=
 TO.op hd (fun m ac g1 g2 g3=>by
  have h:=g3.val hx
  generalize hq:ac.eval x=v at h
  cases h with
  | ms _ _ _ _ cap p hp hn hc hh=>
    refine⟨.slice (some ⟨p.b,p.lo+(off+b*sz),none⟩) (len-b) (cap-b),fun w' hw'=>?_,.ms sz id (off+b*sz) (len-b) (cap-b) p hp hn (by omega) ?_⟩
    ·have:=zdj (P:=P) hT ht hk he (some ⟨p.b,p.lo+off,none⟩) len cap (some (ac.eval z)) none b len w' (.inr ⟨ik,by rw[(g3.val hz).v_eq]⟩) (.inl ⟨rfl,rfl⟩) (by omega) (by omega)
     rw[if_neg (by omega),hsz]at this
     simp only[qaW,zbv,qa4]at this
     simp[execOp,hq,this]
    ·have:b*sz+(cap-b)*sz=cap*sz:=by rw[<-qaX];congr 1;omega
     omega) k
theorem TO.zpC{ops:List Oper}(i sz id len:Nat){cs:List SV}{es:List T}{H':Heap}(hi:env.look i=some (.ms sz id 0 len))(hH:H[id]?=some (.cells cs))(hcl:es.length*sz≤cs.length)(hcs:∀(j:Nat) c,((es.map T.cells).flatten.map SV.t)[j]?=some c->cs[j]?=some c)(hlen:len=es.length)(hsz:∀e∈es,e.cells.length=sz)
  (hpos:Nat.ble 1 sz=true)(hH':H.set id .dead=H')(k:TO false P n all ops ((i,.t (.sl sz es))::env) H' K):TO false P n all ops env H K:=by
 intro φ m a h1 h2 h3 h4
 have hp':=qag hpos
 obtain⟨x,hx1,hx2⟩:=h3.2 i _ hi
 subst hlen
 obtain⟨l1,l2⟩:=zcr es hsz
 cases hx2 with
 | ms _ _ _ _ cap p hp hn hc hh=>
   have hH1:m.H[id]?=some (.cells cs):=by rw[h1];exact hH
   obtain⟨b1,b2,b3⟩:=h2.blk id p _ hp hH1
   have hex:∀j,∃y,j<cs.length->m.w.cell? ⟨p.b,p.lo+j,none⟩=some y/\y.oneCell'=true/\∀c,cs[j]?=some c->SRel m c y:=by
    exact zwbf
   let f:Nat->Value:=fun j=>Classical.choose (hex j)
   have hf:=fun j=>qb7 (hex j)
   obtain⟨s,hm'⟩:=ze4 h2 (k1:=.dead) (p':=p) (A':=fun b o=>m.A b o\/(b=p.b/\p.lo≤o/\o<p.lo+cs.length)) (w':=m.w) hp hH1 rfl rfl rfl rfl (qae _) (fun _ _ _ _=>rfl) (fun _ _ _ _ _=>rfl) (fun _ _ _=>rfl) (fun _ _ _ h=>h) (fun _ _ h=>h)
    (fun _ _ h=>.inl h) (fun b o h=>by
      rcases h with h|h
      ·exact .inl h
      ·exact .inr (.inl (by omega))) (fun h=>by cases h) (fun h=>by cases h) (fun o q1 q2=>(b2 o q1 q2).1) ⟨rfl,fun n'=>by simp[tlOf]⟩ (fun _=>trivial)
   have hlt:∀q j,q<es.length->j<sz->q*sz+j<cs.length:=fun q j hq hj=>by
    exact zwdz
   have hr:SRel ⟨fun b o=>m.A b o\/(b=p.b/\p.lo≤o/\o<p.lo+cs.length),m.β.set id p,m.H.set id .dead,m.w⟩ (.t (.sl sz es)) (.slice (some ⟨p.b,p.lo+0,none⟩) es.length cap):=by
    exact zwg
   refine TO.zeM (m':=⟨fun b o=>m.A b o\/(b=p.b/\p.lo≤o/\o<p.lo+cs.length),m.β.set id p,m.H.set id .dead,m.w⟩) s (k φ ⟨fun b o=>m.A b o\/(b=p.b/\p.lo≤o/\o<p.lo+cs.length),m.β.set id p,m.H.set id .dead,m.w⟩ a (by rw[h1];exact hH') hm' ⟨h3.1,fun j v hv=>?_⟩ (h4.step h2 s))
   by_cases hj:i=j
   ·exact zwfw
   ·exact zwfl
end rules
end Go.TL
