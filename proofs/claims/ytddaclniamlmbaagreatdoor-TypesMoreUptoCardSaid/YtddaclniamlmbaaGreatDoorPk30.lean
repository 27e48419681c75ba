import Derived.Test.YtddaclniamlmbaaGreatDoorPk25
import Derived.Test.YtddaclniamlmbaaGreatDoorPk29
set_option linter.unusedSimpArgs false
set_option linter.unusedVariables false
namespace Go.Proofs.YtddaclniamlmbaaGreatDoor
open Go Go.TL
attribute [local irreducible] TR TO Then InBlock RetK Sound LoopK Kf GG ThenL
theorem wkD{G Q:Prop}(k:Q)(h:Hold Q->G:=by
  first
  | (intro k;apply Go.TL.TR.regionD2 hmix;decide +kernel;exact rfl;exact k.p)
  | (intro k;apply Go.TL.TR.regionD1 hmix;decide +kernel;exact rfl;exact k.p)):G:=h ⟨k⟩
theorem wsx{G Q:Prop}(k:Q)(h:Hold Q->G:=by
  intro k
  first
  | (apply TO.nilGet;exact rfl;exact rfl;exact rfl;assumption;exact k.p)
  | (apply TO.setPut;exact rfl;exact rfl;exact rfl;exact rfl;assumption;assumption;exact rfl;exact k.p)):G:=h ⟨k⟩
theorem wsy{G Q R:Prop}(k:Q)(l:R)(h:Hold Q->Hold R->G:=by
  intro k l
  first
  | (apply TO.setGet;exact rfl;exact rfl;exact rfl;exact rfl;assumption;assumption;exact k.p;exact l.p)
  | (apply TO.sees hk;exact rfl;exact rfl;(first|exact rfl|exact Ch.tk _ _ _ _ _);assumption;exact k.p;exact l.p)
  | (apply TO.defined hk;exact rfl;exact rfl;(first|exact rfl|exact Ch.tk _ _ _ _ _);assumption;exact k.p;exact l.p)):G:=h ⟨k⟩ ⟨l⟩
def callE(p:Prog)(seen:List (Int×Str×Int))(node left:Int)(x:Ex):Int:=
 match seenGet seen 1 x.name with
 | none=>6
 | some i=>if i<node then(match p.nodes[i.toNat]? with
   | none=>0
   | some n=>if(x.args.length:Int)≠n.ins.length+x.v.1 then 9 else if(n.outs.length:Int)≠left then 9 else 0) else 6
def SeenN(p:Prog)(seen:List (Int×Str×Int)):Prop:=∀s i,seenGet seen 1 s=some i->0≤i/\i<p.nodes.length
section
variable {n:Nat}{env:Env}{K:TK}{all:Array Oper}{rest:List Oper}{d id:Nat}{ty:TypeId}{pos:String}{aft:Array Edge}{H:Heap}{x y:Operand}{q:Bool}
theorem TO.seenS{l:List (Int×Str×Int)}{s:Str}{k v:Int}(hd:Nat.ble (d+1) n=true)(hx:env.val x=some (.mp id))(hH:H[id]?=some (seenB l))(hy:env.val y=some (.t (.ag [.i k,.s s])))(hg:seenGet l k s=some v)(hl:SeenOk l)(hk:0≤k/\k≤2)(hs:s.length≤1000000000)
  (k1:TO q Tryz.prog n all rest ((d,.tup [.i v,.b true])::env) H K):
  TO q Tryz.prog n all (⟨some d,.lookup 116 x y true,ty,pos,aft,none⟩::rest) env H K:=
 TO.seenLook hd hx hH hy hl hk hs (fun w hw=>by rw[hg]at hw;cases hw;exact k1) (fun hn=>by rw[hg]at hn;cases hn)
theorem TO.seenNo{l:List (Int×Str×Int)}{s:Str}{k:Int}(hd:Nat.ble (d+1) n=true)(hx:env.val x=some (.mp id))(hH:H[id]?=some (seenB l))(hy:env.val y=some (.t (.ag [.i k,.s s])))(hg:seenGet l k s=none)(hl:SeenOk l)(hk:0≤k/\k≤2)(hs:s.length≤1000000000)
  (k1:TO q Tryz.prog n all rest ((d,.tup [.i 0,.b false])::env) H K):
  TO q Tryz.prog n all (⟨some d,.lookup 116 x y true,ty,pos,aft,none⟩::rest) env H K:=
 TO.seenLook hd hx hH hy hl hk hs (fun w hw=>by rw[hg]at hw;cases hw) (fun _=>k1)
end
theorem retB{rs:List ResultVar}{env:Env}{H H1:Heap}{n q c c':Int}{N:Nat}{v:SV}(h0:c'≠0)(hc:c'=c)(hN:Nat.ble N H.length=true):
  DeadK (RetK tab rs N (Err0 c v (failS n q c) H1 N)) (.panic (failS n q c')) env H:=retS h0 hc (Nat.le_of_ble_eq_true hN)
theorem callM_sound(p:Prog)(hp:p.nodes.length≤1000000000)(hq:∀u∈p.nodes,u.ins.length≤1000000000/\u.outs.length≤1000000000)(a q:Int)(seen:List (Int×Str×Int))(hse:SeenOk seen)(hsn:SeenN p seen)(node left:Int)(x:Ex)(hv:x.v.1=0\/x.v.1=1)(hno:x.name.length≤1000000000):
  Sound Tryz.prog 282 [.ref 0 0,.i node,.t (.ag (exC x)),.i left] [lkB p a q,seenB seen] (Err (callE p seen node left x) (.tup []) (failS a q (callE p seen node left x)) [lkB p a q,seenB seen]):=by
 have hml:(p.nodes.map nodT).length=p.nodes.length:=List.length_map _
 have hmx:(x.args.map exT).length=x.args.length:=List.length_map _
 unfold callE exC
 cases hg:seenGet seen 1 x.name with
 | none=>
   simp only[]
   refine Sound.err rfl (fun _=>rfl) ?_
   refine so Tryz.func282 ?_
   refine TR.dead ?_
   repeat' (first|refine wkt ?_|refine wka ?_|refine wkD ?_|refine wk ?_|exact wkc|intro hc|refine wk2 ?_ ?_|refine wsx ?_|refine wms ?_|refine wsy ?_ ?_|(apply TO.seenNo;exact rfl;exact rfl;exact rfl;exact rfl;assumption;assumption;decide;assumption)|fail)
   (apply retB;decide;rfl;exact rfl)
 | some i=>
   obtain⟨hi0,hi1⟩:=hsn _ _ hg
   simp only[]
   by_cases hin:i<node
   ·rw[if_pos hin]
    obtain⟨k,rfl⟩:∃k:Nat,i=k:=⟨i.toNat,by omega⟩
    have hk:k<p.nodes.length:=by omega
    have hat:(p.nodes.map nodT)[((k:Int)).toNat]?=some (.ag (nodC p.nodes[k])):=at_nod hk
    have hat2:p.nodes[((k:Int)).toNat]?=some p.nodes[k]:=List.getElem?_eq_getElem hk
    rw[hat2]
    have hqk:=hq _ (List.getElem_mem hk)
    generalize p.nodes[k]=u at*
    have m1:(u.ins.map declT).length=u.ins.length:=List.length_map _
    have m2:(u.outs.map declT).length=u.outs.length:=List.length_map _
    simp only[]
    unfold nodC at hat
    refine Sound.err rfl (fun _=>rfl) ?_
    refine so Tryz.func282 ?_
    refine TR.dead ?_
    repeat' (first|refine wkt ?_|refine wka ?_|refine wkD ?_|refine wk ?_|exact wkc|intro hc|refine wk2 ?_ ?_|refine wsx ?_|refine wms ?_|refine wsy ?_ ?_|(apply TO.seenS;exact rfl;exact rfl;exact rfl;exact rfl;assumption;assumption;decide;assumption)|fail)
    ·exact retSN (by clear hat;simp;omega) rfl rfl rfl rfl
    ·(apply retB;decide;(clear hat;rw[if_neg (by simp;omega),if_pos (by omega)]);exact rfl)
    ·(apply retB;decide;(clear hat;rw[if_pos (by simp;omega)]);exact rfl)
   ·rw[if_neg hin]
    refine Sound.err rfl (fun _=>rfl) ?_
    refine so Tryz.func282 ?_
    refine TR.dead ?_
    repeat' (first|refine wkt ?_|refine wka ?_|refine wkD ?_|refine wk ?_|exact wkc|intro hc|refine wk2 ?_ ?_|refine wsx ?_|refine wms ?_|refine wsy ?_ ?_|(apply TO.seenS;exact rfl;exact rfl;exact rfl;exact rfl;assumption;assumption;decide;assumption)|fail)
    (apply retB;decide;rfl;exact rfl)
def oneS(p:Prog)(seen:List (Int×Str×Int))(node:Int)(vis:List Str)(left:Int)(x:Ex):Int:=
 if x.kind.1=2\/x.kind.1=8\/x.kind.1=9 then(if x.name∈vis then 0 else 6) else if x.kind.1=10 then callE p seen node left x else 0
def exprS(p:Prog)(seen:List (Int×Str×Int))(node:Int)(vis:List Str)(left:Int)(e:Ex):Int:=orE (oneS p seen node vis left e) (firstE (oneS p seen node vis 1) (flats e.args))
def lf(left:Int)(pre:List Ex):Int:=if pre=[] then left else 1
theorem lf_add(left:Int)(pre:List Ex)(x:Ex):lf left (pre++[x])=1:=by simp[lf]
def panF(g:Int->Ex->Int)(left n q:Int)(Hd:Int->Heap)(pre:List Ex)(x:Ex):Out:=if g (lf left pre) x=0 then .go else .panic (failS n q (g (lf left pre) x)) (Hd (lf left pre))
theorem scan_pan1(g:Int->Ex->Int)(left n q:Int)(Hd:Int->Heap):∀(l pre:List Ex),pre≠ []->scanO (panF g left n q Hd) pre l=if firstE (g 1) l=0 then .go else .panic (failS n q (firstE (g 1) l)) (Hd 1)
 | [],pre,_=>by simp[scanO,firstE]
 | x::l,pre,hp=>by
   have h1:lf left pre=1:=by simp[lf,hp]
   simp only[scanO,panF,firstE,h1]
   by_cases h:g 1 x=0
   ·simp only[h,if_true];exact scan_pan1 g left n q Hd l _ (by simp)
   ·simp[h]
theorem scan_pan(g:Int->Ex->Int)(left n q:Int)(Hd:Int->Heap)(x:Ex)(l:List Ex):scanO (panF g left n q Hd) [] (x::l)=if g left x=0 then(if firstE (g 1) l=0 then .go else .panic (failS n q (firstE (g 1) l)) (Hd 1)) else .panic (failS n q (g left x)) (Hd left):=by
 have h1:lf left []=left:=by simp[lf]
 simp only[scanO,panF,h1]
 by_cases h:g left x=0
 ·simp only[h,if_true];exact scan_pan1 g left n q Hd l _ (by simp)
 ·simp[h]
structure SmallC (p:Prog):Prop where
 nodes:p.nodes.length≤1000000000
 each:∀u∈p.nodes,u.ins.length≤1000000000/\u.outs.length≤1000000000
def ExOk(x:Ex):Prop:=(x.kind.1=10->x.v.1=0\/x.v.1=1)/\x.name.length≤1000000000
set_option maxHeartbeats 4000000 in
theorem expr_sound (p:Prog) (hp:SmallC p) (n q:Int) (seen:List (Int×Str×Int)) (hse:SeenOk seen) (hsn:SeenN p seen) (node left:Int) (h:Ch) (hk:h.ok) (e:Ex) (hw:wEx e≤1000000000) (hex:∀x∈flat e,ExOk x):
  SS 205 [.i node,.ref h.id 0,.t (.ag (exC e)),.i left] p n q seen h h (exprS p seen node h.vis left e):=by
 revert hk
 revert h
 refine Ch.lt fun h=>?_
 cases h
 all_goals
  intro g hk
  have hs:=Each_sound e
  rw[exT_eq]at hs
  have hc0:exC e=[T.n e.kind,T.n e.op,T.n e.t,T.n e.v,.s e.name,.sl 6 (e.args.map exT)]:=rfl
  rw[hc0]at hs⊢
  have hz:exprS p seen node (g.vis) left e=exprS p seen node (g.vis) left e:=rfl
  conv at hz=>rhs;unfold exprS orE
  generalize exprS p seen node (g.vis) left e=z at hz⊢
  refine Sound.err rfl (fun _=>rfl) ?_
  refine so Tryz.func205 ?_
  refine TR.dead ?_
  repeat' (first|refine wu ?_|exact wkc|intro hc|refine wk2 ?_ ?_|refine wv hs ?_|fail)
  refine TR.rangeEach e (fun pre=>(full p n q seen g)++[.cells [.ref 0 0],.cells [.i node],.cells [.ref g.id 0],.cells [.t (T.n e.kind),.t (T.n e.op),.t (T.n e.t),.t (T.n e.v),.t (.s e.name),.t (.sl 6 (e.args.map exT))],.cells [.i (lf left pre)]]) (panF (oneS p seen node (g.vis)) left n q (fun u=>.dead:: .dead::((g.heap)++[.cells [.ref 0 0],.cells [.i node],.cells [.ref g.id 0],.cells [.t (T.n e.kind),.t (T.n e.op),.t (T.n e.t),.t (T.n e.v),.t (.s e.name),.t (.sl 6 (e.args.map exT))],.cells [.i u]]))) rfl hw ?_ rfl rfl (fun _=>⟨rfl,rfl⟩) (fun pre x=>?_) (fun fn pre x post hsp=>?_) (fun fn=>?_)
  ·rw[show lf left []=left from rfl];rfl
  ·unfold panF
   split <;> rename_i hq <;> split at hq <;> cases hq
   ·trivial
   ·exact⟨rfl,rfl,rfl⟩
  ·have hxk:=hex x (by rw[hsp];simp)
   have hno:=hxk.2
   have hcx:exC x=[T.n x.kind,T.n x.op,T.n x.t,T.n x.v,.s x.name,.sl 6 (x.args.map exT)]:=rfl
   have hcal:=fun hv=>callM_sound p hp.nodes hp.each n q seen hse hsn node (lf left pre) x hv hno
   have ho:oneS p seen node (g.vis) (lf left pre) x=oneS p seen node (g.vis) (lf left pre) x:=rfl
   conv at ho=>rhs;unfold oneS
   have hpf:panF (oneS p seen node (g.vis)) left n q (fun u=>.dead:: .dead::((g.heap)++[.cells [.ref 0 0],.cells [.i node],.cells [.ref g.id 0],.cells [.t (T.n e.kind),.t (T.n e.op),.t (T.n e.t),.t (T.n e.v),.t (.s e.name),.t (.sl 6 (e.args.map exT))],.cells [.i u]])) pre x=if oneS p seen node (g.vis) (lf left pre) x=0 then .go else .panic (failS n q (oneS p seen node (g.vis) (lf left pre) x)) (.dead:: .dead::((g.heap)++[.cells [.ref 0 0],.cells [.i node],.cells [.ref g.id 0],.cells [.t (T.n e.kind),.t (T.n e.op),.t (T.n e.t),.t (T.n e.v),.t (.s e.name),.t (.sl 6 (e.args.map exT))],.cells [.i (lf left pre)]])):=rfl
   have hla:=lf_add left pre x
   generalize panF (oneS p seen node (g.vis)) left n q (fun u=>.dead:: .dead::((g.heap)++[.cells [.ref 0 0],.cells [.i node],.cells [.ref g.id 0],.cells [.t (T.n e.kind),.t (T.n e.op),.t (T.n e.t),.t (T.n e.v),.t (.s e.name),.t (.sl 6 (e.args.map exT))],.cells [.i u]]))=pf at*
   generalize oneS p seen node (g.vis) (lf left pre) x=z1 at*
   generalize lf left pre=lv at*
   rw[hcx]at hcal⊢
   have hq:x.kind.1=10\/x.kind.1≠10:=by omega
   rcases hq with hq|hq
   ·have hcal:=hcal (hxk.1 hq)
    rw[if_neg (by omega),if_pos hq]at ho
    rw[<-ho]at hcal
    repeat' (first|refine wu ?_|exact wkc|intro hc|refine wk2 ?_ ?_|fail)
    refine⟨rfl,?_⟩
    repeat' (first|refine wkt ?_|refine wka ?_|refine wkD ?_|refine wk ?_|exact wkc|intro hc|refine wk2 ?_ ?_|refine wsx ?_|refine wms ?_|refine wsy ?_ ?_|refine we hcal ?_ ?_|fail)
    ·exact⟨by rw[hpf,if_pos hc],by simp only[hla];rfl,rfl⟩
    ·exact⟨_,by rw[hpf,if_neg hc];rfl,rfl,rfl⟩
   ·clear hcal
    repeat' (first|refine wu ?_|exact wkc|intro hc|refine wk2 ?_ ?_|fail)
    refine⟨rfl,?_⟩
    by_cases hm:x.name∈g.vis
    ·rw[if_pos hm]at ho
     repeat' (first|refine wkt ?_|refine Go.TL.TR.regionS (envF:=_) (g:=True) [(.ref 0 0,false),(.ref g.id 0,false),(.cp [T.n x.kind,T.n x.op,T.n x.t,T.n x.v,.s x.name,.sl 6 (x.args.map exT)] 4,false),(.s x.name,false),(.b true,true),(.tup [],true)] hmix (by dsimp only[List.map];decide +kernel) ?_ rfl (by decide) ?_|refine wk ?_|exact wkc|intro hc|refine wk2 ?_ ?_|exact And.intro (And.intro rfl rfl) trivial|refine And.intro (fun env=>?_) ?_|exact trivial|exact absurd hm hc|exact absurd hc hm|exact(fun hf=>hf.elim)|refine wms ?_|(apply TO.sees hk;exact rfl;exact rfl;exact rfl;assumption)|fail)
     all_goals exact⟨by rw[hpf,if_pos (by rw[ho];clear hpf hs;grind)],by simp only[hla];rfl,rfl⟩
    ·rw[if_neg hm]at ho
     repeat' (first|refine wkt ?_|refine Go.TL.TR.regionS (envF:=_) (g:=False) [(.ref 0 0,false),(.ref g.id 0,false),(.cp [T.n x.kind,T.n x.op,T.n x.t,T.n x.v,.s x.name,.sl 6 (x.args.map exT)] 4,false),(.s x.name,false),(.b false,true),(.tup [],true)] hmix (by dsimp only[List.map];decide +kernel) ?_ rfl (by decide) ?_|refine wk ?_|exact wkc|intro hc|refine wk2 ?_ ?_|exact And.intro (And.intro rfl rfl) trivial|refine And.intro (fun env=>?_) ?_|exact trivial|exact absurd hm hc|exact absurd hc hm|exact(fun hf=>hf.elim)|refine wms ?_|(apply TO.sees hk;exact rfl;exact rfl;exact rfl;assumption)|fail)
     all_goals first
      | exact⟨by rw[hpf,if_pos (by rw[ho];clear hpf hs;grind)],by simp only[hla];rfl,rfl⟩
      | (have h6:z1=6:=by rw[ho];clear hpf hs;grind
         rw[h6,if_neg (by decide)]at hpf
         exact⟨_,by rw[hpf];rfl,rfl,rfl⟩)
  ·rw[flat_eq,scan_pan]
   by_cases z1:oneS p seen node (g.vis) left e=0
   ·rw[if_pos z1]at hz⊢
    by_cases z2:firstE (oneS p seen node (g.vis) 1) (flats e.args)=0
    ·rw[if_pos z2]
     simp only[]
     rw[z2]at hz
     repeat' (first|refine wu ?_|exact wkc|intro hc|refine wk2 ?_ ?_|fail)
     exact retSN hz rfl rfl rfl rfl
    ·rw[if_neg z2]
     simp only[]
     (repeat' (first|refine LoopK.panic ?_|refine wk ?_|fail))
     exact retB z2 hz.symm rfl
   ·rw[if_neg z1]at hz⊢
    simp only[]
    (repeat' (first|refine LoopK.panic ?_|refine wk ?_|fail))
    exact retB z1 hz.symm rfl
theorem Ch.app(h h':Ch)(p:Prog)(n q n' q':Int)(seen seen':List (Int×Str×Int)):full p n' q' seen' h'++(full p n q seen h).drop h.N=full p n' q' seen' h':=by
 rw[List.drop_of_length_le (by rw[Ch.len];exact Nat.le_refl _),List.append_nil]
theorem Ch.nb1(h:Ch):Nat.blt 0 h.N=true:=by cases h <;> rfl
theorem Ch.nb2(h:Ch):Nat.blt h.id h.N=true:=by cases h <;> rfl
section
variable {n:Nat}{env:Env}{K:TK}{all:Array Oper}{rest:List Oper}{d:Nat}{ty:TypeId}{pos:String}{aft:Array Edge}{p:Prog}{a q a' q':Int}{seen seen':List (Int×Str×Int)}{H H2:Heap}{args:Array Operand}{ts:Array TypeId}
theorem TO.callS{h h':Ch}{c:Int}{cargs:List SV}{v pv:SV}{f:Operand}{fid:FuncId}{caps:List SV}{vs:List SV}
  (hs:Sound Tryz.prog fid cargs (full p a q seen h) (Err c v pv (full p a' q' seen' h')))(hn:h'.N=h.N)(hd:Nat.ble (d+1) n=true)(hf:env.val f=some (.fn fid caps))(ha:env.vals args.toList=some vs)(hl:Les (vs++caps) cargs)
  (hH:H.take h.N=full p a q seen h)(hu:unders h.N cargs=true)(hv:v.under h.N=true)(hpv:pv.under h.N=true)(hH2:full p a' q' seen' h'++H.drop h.N=H2)
  (k:c=0->TO false Tryz.prog n all rest ((d,v)::env) H2 K)(kp:c≠0->K (.panic pv) env (List.replicate h.N .dead++H.drop h.N)):
  TO false Tryz.prog n all (⟨some d,.call { callee:=.value f,args:=args,argTypes:=ts },ty,pos,aft,none⟩::rest) env H K:=by
 have hN:h.N≤H.length:=by have:=congrArg List.length hH;rw[Ch.len]at this;simp at this;omega
 exact TO.callEN h.N hs hd hf ha hl (by simpa using hN) hH hu (Ch.under h p a q seen) hv hpv ((Ch.len h' p a' q' seen').trans hn) (by have:=Ch.under h' p a' q' seen';rw[hn]at this;exact this) (by rw[<-hH2,forceL_self]) k kp
end
theorem wss{G Q1 Q2:Prop}{f:FuncId}{cargs:List SV}{v pv:SV}{c:Int}{p:Prog}{a q a' q':Int}{seen seen':List (Int×Str×Int)}{h h':Ch}(hs:Sound Tryz.prog f cargs (full p a q seen h) (Err c v pv (full p a' q' seen' h')))(k1:Q1)(k2:Q2)
  (hh:Sound Tryz.prog f cargs (full p a q seen h) (Err c v pv (full p a' q' seen' h'))->Hold Q1->Hold Q2->G:=by
  intro hs k1 k2
  (apply Go.Proofs.YtddaclniamlmbaaGreatDoor.TO.callS hs;(first|exact rfl|simp);exact rfl;exact rfl;exact rfl;(repeat' (first|exact trivial|exact Go.TL.Le.refl _|refine And.intro ?_ ?_|exact Go.TL.Le.any _|exact Go.TL.Le.nil _|exact Go.TL.Le.own _ _ _|refine Go.TL.Le.tree rfl ?_|exact Go.TL.TLe.refl _|exact Go.TL.TLe.nil _|refine Go.TL.TLe.ags ?_|fail));(first|exact rfl|exact Go.Proofs.YtddaclniamlmbaaGreatDoor.Ch.tk _ _ _ _ _);(first|exact rfl|(simp only[unders,SV.under,Go.Proofs.YtddaclniamlmbaaGreatDoor.Ch.nb1,Go.Proofs.YtddaclniamlmbaaGreatDoor.Ch.nb2,Bool.and_self]));exact rfl;exact rfl;(first|exact Go.Proofs.YtddaclniamlmbaaGreatDoor.Ch.app _ _ _ _ _ _ _ _ _|exact rfl);exact k1.p;exact k2.p)):G:=hh hs ⟨k1⟩ ⟨k2⟩
def condS(p:Prog)(seen:List (Int×Str×Int))(node:Int)(vis:List Str)(l:List Tran):Int:=firstE (fun t=>exprS p seen node vis 1 t.cond) l
theorem cond_sound(p:Prog)(hp:SmallC p)(n q:Int)(seen:List (Int×Str×Int))(hse:SeenOk seen)(hsn:SeenN p seen)(node:Int)(h:Ch)(hk:h.ok)(l:List Tran)(hw:(T.sl 8 (l.map tranT)).w≤1000000000)(hex:∀t∈l,∀x∈flat t.cond,ExOk x):
  SS 284 [.i node,.ref h.id 0,.t (.sl 8 (l.map tranT))] p n q seen h h (condS p seen node h.vis l):=by
 have hml:(l.map tranT).length=l.length:=List.length_map _
 have hlb:l.length≤1000000000:=Nat.le_trans (Nat.le_of_lt (w_lenM tranT 8 l)) hw
 unfold condS
 refine Sound.err rfl (fun _=>rfl) ?_
 refine so Tryz.func284 ?_
 refine TR.dead ?_
 repeat' (first|refine wu ?_|exact wkc|intro hc|refine wk2 ?_ ?_|fail)
 refine TR.loopN l.length (fun k=>firstE (fun t=>exprS p seen node h.vis 1 t.cond) (l.take k)=0) (fun k=>[(0,.ref 0 0),(1,.i node),(2,.ref h.id 0),(10,.t (.sl 8 (l.map tranT))),(11,.i (l.map tranT).length),(12,.i k)]) (fun _=>full p n q seen h) rfl (fun k hlt ha=>?_) (fun ha=>?_)
 ·have hx:=at_tran hlt
  have g1:=firstE_at (f:=fun t=>exprS p seen node h.vis 1 t.cond) hlt ha
  have g2:=firstE_next (f:=fun t=>exprS p seen node h.vis 1 t.cond) hlt ha
  have hwx:=w_inM (f:=tranT) (sz:=8) (List.getElem_mem hlt)
  have hs:=expr_sound p hp n q seen hse hsn node 1 h hk l[k].cond (by have:=wEx_tran (t:=l[k]);omega) (hex _ (List.getElem_mem hlt))
  generalize l[k]=x at*
  generalize exprS p seen node h.vis 1 x.cond=z at*
  unfold tranC at hx
  unfold exC at hs
  repeat' (first|refine wkt ?_|refine wka ?_|refine wkD ?_|refine wk ?_|exact wkc|intro hc|refine wk2 ?_ ?_|refine wsx ?_|refine wms ?_|refine wsy ?_ ?_|refine wss hs ?_ ?_|fail)
  ·exact LoopK.nextN hlt (g2 hc)
  ·((repeat' (first|refine LoopK.panic ?_|refine wk ?_|fail));apply retS;(first|assumption|decide);(clear hx hs;first|grind|grind [orE]);(first|exact Nat.le_of_ble_eq_true rfl|exact Nat.le_refl _|(simp[Ch.len];done)|(simp[Ch.len];omega)))
 ·have e1:=firstE_all ha
  repeat' (first|refine wu ?_|exact wkc|intro hc|refine wk2 ?_ ?_|fail)
  exact retSN e1 (Ch.ble _ _ _ _ _) (Ch.ble _ _ _ _ _) (Ch.tkl _ _ _ _ _) (Ch.und _ _ _ _ _)
def Lv.addDone(a:Lv)(s:Str):Lv:={ a with done:=ins a.done s,defs:=a.defs++[s] }
theorem Lv.ok.addDone{a:Lv}(h:a.ok){s:Str}(hs:s.length≤1000000000):(a.addDone s).ok:=⟨h.own,h.done.ins hs⟩
def leftF(vis low:List Str)(a:Lv)(s:Str):Lv×Int:=(a.addDone s,if s∈vis then(if s∈low\/s∈a.done then 7 else 0) else 6)
def equS(p:Prog)(seen:List (Int×Str×Int))(node:Int)(vis0 low:List Str)(a:Lv)(u:Equ):Lv×Int:=
 ((foldS (leftF (vis0++a.own) low) a u.left).1,orE (foldS (leftF (vis0++a.own) low) a u.left).2 (exprS p seen node (vis0++a.own) u.left.length u.right))
theorem left_w{u:Equ}{s:Str}(h:s∈u.left):s.length≤(equT u).w:=by
 have h1:=w_inM (f:=T.s) (sz:=1) h
 rw[w_s]at h1
 rw[show equT u= .ag (.sl 1 (u.left.map T.s)::exC u.right) from rfl,w_ag,List.map_cons,List.sum_cons]
 omega
theorem equ_sound(p:Prog)(hp:SmallC p)(n q:Int)(seen:List (Int×Str×Int))(hse:SeenOk seen)(hsn:SeenN p seen)(node:Int)(h:Ch)(hne:h.N≠5)(hk0:h.ok)(u:Equ)(hw:(equT u).w≤1000000000)(hdl:h.top.defs.length+u.left.length≤2000000000)(hex:∀x∈flat u.right,ExOk x):
  SS 140 [.i node,.ref h.id 0,.t (.ag (equC u))] p n q seen h (h.set (equS p seen node h.vis0 h.low h.top u).1) (equS p seen node h.vis0 h.low h.top u).2:=by
 have hset:=fun{x:Lv} (hx:x.ok)=>Ch.ok_set hk0 hx
 have ht0:=Ch.ok_top hk0
 clear hk0
 revert hne hdl hset ht0
 revert h
 refine Ch.lt fun h=>?_
 cases h
 case one=>intro g hne;exact absurd rfl hne
 all_goals
  intro g hne hdl hset ht0
  clear hne
  have hml:(u.left.map T.s).length=u.left.length:=List.length_map _
  have hlb:u.left.length≤1000000000:=Nat.le_trans left_equ hw
  have hwl:∀s∈u.left,s.length≤1000000000:=fun s hs=>Nat.le_trans (left_w hs) hw
  have hwe:=Nat.le_trans (wEx_equ (q:=u)) hw
  unfold equS equC
  refine Sound.err rfl (fun _=>rfl) ?_
  refine so Tryz.func140 ?_
  refine TR.dead ?_
  repeat' (first|refine wu ?_|exact wkc|intro hc|refine wk2 ?_ ?_|fail)
  refine TR.loopN u.left.length (fun k=>(foldS (leftF (g.vis0++g.top.own) g.low) g.top (u.left.take k)).2=0/\(foldS (leftF (g.vis0++g.top.own) g.low) g.top (u.left.take k)).1.ok/\(foldS (leftF (g.vis0++g.top.own) g.low) g.top (u.left.take k)).1.own=g.top.own/\(foldS (leftF (g.vis0++g.top.own) g.low) g.top (u.left.take k)).1.defs.length=g.top.defs.length+k) (fun k=>[(0,.ref 0 0),(1,.i node),(2,.ref g.id 0),(7,.cp [.sl 1 (u.left.map T.s),T.n u.right.kind,T.n u.right.op,T.n u.right.t,T.n u.right.v,.s u.right.name,.sl 6 (u.right.args.map exT)] 0),(11,.t (.sl 1 (u.left.map T.s))),(12,.i (u.left.map T.s).length),(13,.i k)]) (fun k=>full p n q seen (g.set (foldS (leftF (g.vis0++g.top.own) g.low) g.top (u.left.take k)).1)) ⟨rfl,ht0,rfl,rfl⟩ (fun k hlt ha=>?_) (fun ha=>?_)
  ·have hx:=at_s hlt
   have hno:=hwl _ (List.getElem_mem hlt)
   have g1:=foldS_at (f:=(leftF (g.vis0++g.top.own) g.low)) hlt ha.1
   have g2:=foldS_next (f:=(leftF (g.vis0++g.top.own) g.low)) hlt ha.1
   obtain⟨ha1,ha2,ha3,ha4⟩:=ha
   generalize (foldS (leftF (g.vis0++g.top.own) g.low) g.top (u.left.take k)).1=st at*
   generalize u.left[k]=x at*
   have hk:=hset ha2
   have hdn:=ha2.done
   have hz:((leftF (g.vis0++g.top.own) g.low) st x).2=if x∈g.vis0++g.top.own then(if x∈g.low\/x∈st.done then 7 else 0) else 6:=rfl
   have hz1:((leftF (g.vis0++g.top.own) g.low) st x).1=st.addDone x:=rfl
   have hok:=ha2.addDone hno
   have hl1:(st.defs.map T.s).length=st.defs.length:=List.length_map _
   have hma:(st.defs++[x]).map T.s=st.defs.map T.s++[T.s x]:=by simp
   generalize hfx:(leftF (g.vis0++g.top.own) g.low) st x=fx at*
   repeat' (first|refine wkt ?_|refine wka ?_|refine wkD ?_|refine wk ?_|exact wkc|intro hc|refine wk2 ?_ ?_|refine wsx ?_|refine wms ?_|refine wsy ?_ ?_|(apply TO.append_row tabOk;exact rfl;exact rfl;exact rfl;exact rfl;exact rfl;exact rfl;exact rfl;exact rfl;exact rfl;(exact Nat.beq_refl _);exact rfl;exact rfl;exact rfl;exact rfl;(simp only[List.length_cons,List.length_nil];omega);exact rfl)|fail)
   all_goals simp only[Ch.vis,Ch.set_vis0,Ch.set_top,Ch.set_low]at*
   all_goals first
    | ((repeat' (first|refine LoopK.panic ?_|refine wk ?_|fail));apply retS;(first|assumption|decide);(clear hx;first|grind|grind [orE]);(first|exact Nat.le_of_ble_eq_true rfl|exact Nat.le_refl _|(simp[Ch.len];done)|(simp[Ch.len];omega)))
    | (refine LoopK.nextN hlt ⟨by rw[g2];clear hx;grind,by rw[g2,hz1];exact hok,by rw[g2,hz1];exact ha3,by rw[g2,hz1];simp[Lv.addDone,ha4];omega⟩ ?_ (by rw[g2,hz1];simp only[g,full,Ch.set,Ch.heap,Lv.addDone,nmB,rowB,hma];rfl)
       repeat' (first|exact trivial|refine And.intro rfl ?_|fail))
  ·obtain⟨ha1,ha2,ha3,ha4⟩:=ha
   rw[List.take_length]at*
   have hk:=hset ha2
   have hs:=expr_sound p hp n q seen hse hsn node u.left.length (g.set (foldS (leftF (g.vis0++g.top.own) g.low) g.top u.left).1) hk u.right hwe hex
   have hvis:Ch.vis (g.set (foldS (leftF (g.vis0++g.top.own) g.low) g.top u.left).1)=g.vis0++g.top.own:=by simp only[Ch.vis,Ch.set_vis0,Ch.set_top,ha3]
   rw[hvis,<-hml]at hs
   rw[<-hml]
   unfold exC at hs
   generalize exprS p seen node (g.vis0++g.top.own) ((u.left.map T.s).length:Int) u.right=z at*
   generalize foldS (leftF (g.vis0++g.top.own) g.low) g.top u.left=st at*
   repeat' (first|refine wkt ?_|refine wka ?_|refine wkD ?_|refine wk ?_|exact wkc|intro hc|refine wk2 ?_ ?_|refine wsx ?_|refine wms ?_|refine wsy ?_ ?_|refine wss hs ?_ ?_|fail)
   ·exact retSN (by clear hs;rw[ha1];simp[orE,hc]) rfl rfl rfl rfl
   ·(apply retB;assumption;(clear hs;rw[ha1];simp[orE]);exact rfl)
end Go.Proofs.YtddaclniamlmbaaGreatDoor
