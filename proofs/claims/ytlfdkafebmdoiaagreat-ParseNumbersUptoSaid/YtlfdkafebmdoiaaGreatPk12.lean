import Derived.Test.YtlfdkafebmdoiaaGreatPk7
import Derived.Test.YtlfdkafebmdoiaaGreatPk9
import Derived.Test.YtlfdkafebmdoiaaGreatPk10
import Derived.Test.YtlfdkafebmdoiaaGreatPk11
set_option linter.unusedSimpArgs false
set_option linter.unusedVariables false
namespace Go.Proofs.YtlfdkafebmdoiaaGreat
open Go Go.TL
theorem hmix:Tryz.prog.follows .mixedOrders=true:=by kernel_rfl
attribute [local irreducible] TR TO Then InBlock RetK Sound LoopK Kf GG ThenL
structure Hold (Q:Prop):Prop where
 p:Q
theorem wk{G Q:Prop}(k:Q)(h:Hold Q->G:=by
  first
  | (intro k;apply Go.TL.TO.go tabOk 300 false;exact rfl;(first|apply Go.TL.GG.to|apply Go.TL.GG.stop|apply Go.TL.GG.tr0|apply Go.TL.GG.tr|apply Go.TL.GG.ex);exact k.p)
  | (intro k;apply Go.TL.TR.go0 tabOk 300 false;exact rfl;(first|apply Go.TL.GG.to|apply Go.TL.GG.stop|apply Go.TL.GG.tr0|apply Go.TL.GG.tr|apply Go.TL.GG.ex);exact k.p)
  | (intro k;apply Go.TL.TR.go tabOk 300 false;exact rfl;(first|apply Go.TL.GG.to|apply Go.TL.GG.stop|apply Go.TL.GG.tr0|apply Go.TL.GG.tr|apply Go.TL.GG.ex);exact k.p)
  | (intro k;apply Go.TL.TO.go0 tabOk 300 false;exact rfl;(first|apply Go.TL.GG.to|apply Go.TL.GG.stop|apply Go.TL.GG.tr0|apply Go.TL.GG.tr|apply Go.TL.GG.ex);exact k.p)
  | (intro k;apply Go.TL.ThenL.go;exact k.p)
  | (intro k;apply Go.TL.TExit.go tabOk 300 false;exact rfl;(first|apply Go.TL.GG.to|apply Go.TL.GG.stop|apply Go.TL.GG.tr0|apply Go.TL.GG.tr|apply Go.TL.GG.ex);exact k.p)
  | (intro k;apply Go.TL.TExit.fin;exact k.p)
  | (intro k;apply Go.TL.TO.want;exact rfl;exact k.p)
  | (intro k;apply Go.TL.TO.add;exact rfl;exact rfl;exact rfl;(first|omega|(simp only[List.length_append,List.length_cons,List.length_nil];omega));(first|omega|(simp only[List.length_append,List.length_cons,List.length_nil];omega));exact k.p)
  | (intro k;apply Go.TL.TO.sub64;exact rfl;exact rfl;exact rfl;(first|omega|(simp only[List.length_append,List.length_cons,List.length_nil];omega));(first|omega|(simp only[List.length_append,List.length_cons,List.length_nil];omega));exact k.p)
  | (intro k;apply Go.TL.TO.elem_nat tabOk;exact rfl;exact rfl;exact rfl;exact rfl;exact rfl;exact rfl;exact rfl;exact rfl;assumption;exact rfl;exact k.p)
  | (intro k;apply Go.TL.TO.elem_nat (j:=0) tabOk;exact rfl;exact rfl;exact rfl;exact rfl;exact rfl;exact rfl;exact rfl;exact rfl;exact rfl;exact rfl;exact k.p)
  | (intro k;apply Go.TL.TO.elem_nat (j:=1) tabOk;exact rfl;exact rfl;exact rfl;exact rfl;exact rfl;exact rfl;exact rfl;exact rfl;exact rfl;exact rfl;exact k.p)
  | (intro k;apply Go.TL.TO.elem_nat (j:=2) tabOk;exact rfl;exact rfl;exact rfl;exact rfl;exact rfl;exact rfl;exact rfl;exact rfl;exact rfl;exact rfl;exact k.p)
  | (intro k;apply Go.TL.TO.indexAddr tabOk;exact rfl;exact rfl;exact rfl;exact rfl;exact rfl;exact rfl;exact rfl;exact rfl;omega;assumption;exact k.p)
  | (intro k;apply Go.TL.TO.index_nat tabOk;exact rfl;exact rfl;exact rfl;exact rfl;exact rfl;assumption;exact k.p)
  | (intro k;apply Go.TL.TO.index_str tabOk;exact rfl;exact rfl;exact rfl;exact rfl;exact rfl;decide;exact rfl;exact k.p)
  | (intro k;apply Go.TL.TO.index_str tabOk;exact rfl;exact rfl;exact rfl;exact rfl;exact rfl;omega;assumption;exact k.p)
  | (intro k;apply Go.TL.TO.maxi;exact rfl;exact rfl;exact rfl;exact k.p)
  | (intro k;apply Go.TL.TO.mini;exact rfl;exact rfl;exact rfl;exact k.p)
  | (intro k;apply Go.TL.TR.regionLf hmix;decide +kernel;exact rfl;exact k.p)
  | (intro k;apply Go.TL.TR.regionL2 hmix;decide +kernel;exact rfl;exact k.p)
  | (intro k;apply Go.TL.TR.regionL1 hmix;decide +kernel;exact rfl;exact k.p)
  | (intro k;apply Go.TL.TR.regionQ hmix;kernel_rfl;exact rfl;exact k.p)
  | (intro k;apply Go.TL.TO.appendB tabOk;exact rfl;exact rfl;exact rfl;exact rfl;exact rfl;exact rfl;exact rfl;exact rfl;exact rfl;exact rfl;exact rfl;exact rfl;exact rfl;(first|omega|(simp only[List.length_append,List.length_cons,List.length_nil];omega));exact rfl;exact k.p)
  | (intro k;apply Go.TL.TO.ssl2 tabOk;exact rfl;exact rfl;exact rfl;exact rfl;exact rfl;exact rfl;exact rfl;exact rfl;exact rfl;omega;omega;exact k.p)
  | (intro k;apply Go.TL.TO.ssl_lo tabOk;exact rfl;exact rfl;exact rfl;exact rfl;exact rfl;exact rfl;exact rfl;exact rfl;omega;exact k.p)
  | (intro k;apply Go.TL.TO.ssl_hi tabOk;exact rfl;exact rfl;exact rfl;exact rfl;exact rfl;exact rfl;exact rfl;exact rfl;omega;exact k.p)
  | (intro k;apply Go.TL.TO.slice2 tabOk;exact rfl;exact rfl;exact rfl;exact rfl;exact rfl;exact rfl;omega;omega;exact k.p)
  | (intro k;apply Go.TL.TO.slice_lo tabOk;exact rfl;exact rfl;exact rfl;exact rfl;exact rfl;omega;exact k.p)
  | (intro k;apply Go.TL.TO.slice_hi tabOk;exact rfl;exact rfl;exact rfl;exact rfl;exact rfl;omega;exact k.p)
  | (intro k;apply Go.TL.TO.convert_u8;exact rfl;kernel_rfl;kernel_rfl;exact rfl;exact k.p)
  | (intro k;apply Go.TL.TO.eqb;exact rfl;exact rfl;exact rfl;kernel_rfl;exact k.p)
  | (intro k;apply Go.TL.TO.neb;exact rfl;exact rfl;exact rfl;kernel_rfl;exact k.p)
  | (intro k;apply Go.TL.TO.go tabOk 0 false;exact rfl;(first|apply Go.TL.GG.to|apply Go.TL.GG.stop|apply Go.TL.GG.tr0|apply Go.TL.GG.tr|apply Go.TL.GG.ex);exact k.p)
  | (intro k;apply Go.TL.TR.go0 tabOk 0 false;exact rfl;(first|apply Go.TL.GG.to|apply Go.TL.GG.stop|apply Go.TL.GG.tr0|apply Go.TL.GG.tr|apply Go.TL.GG.ex);exact k.p)
  | (intro k;apply Go.TL.TR.go tabOk 0 false;exact rfl;(first|apply Go.TL.GG.to|apply Go.TL.GG.stop|apply Go.TL.GG.tr0|apply Go.TL.GG.tr|apply Go.TL.GG.ex);exact k.p)
  | (intro k;apply Go.TL.TO.go0 tabOk 0 false;exact rfl;(first|apply Go.TL.GG.to|apply Go.TL.GG.stop|apply Go.TL.GG.tr0|apply Go.TL.GG.tr|apply Go.TL.GG.ex);exact k.p)
  | (intro k;apply Go.TL.TExit.go tabOk 0 false;exact rfl;(first|apply Go.TL.GG.to|apply Go.TL.GG.stop|apply Go.TL.GG.tr0|apply Go.TL.GG.tr|apply Go.TL.GG.ex);exact k.p)
  | (intro k;apply Go.TL.LoopK.exit;exact k.p)
  | (intro k;apply Go.TL.LoopK.ret;exact k.p)):G:=h ⟨k⟩
theorem wkt{G Q:Prop}(k:Q)(h:Hold Q->G:=by
  first
  | (intro k;apply Go.TL.TO.go tabOk 300 true;exact rfl;(first|apply Go.TL.GG.to|apply Go.TL.GG.stop|apply Go.TL.GG.tr0|apply Go.TL.GG.tr|apply Go.TL.GG.ex);exact k.p)
  | (intro k;apply Go.TL.TR.go0 tabOk 300 true;exact rfl;(first|apply Go.TL.GG.to|apply Go.TL.GG.stop|apply Go.TL.GG.tr0|apply Go.TL.GG.tr|apply Go.TL.GG.ex);exact k.p)
  | (intro k;apply Go.TL.TR.go tabOk 300 true;exact rfl;(first|apply Go.TL.GG.to|apply Go.TL.GG.stop|apply Go.TL.GG.tr0|apply Go.TL.GG.tr|apply Go.TL.GG.ex);exact k.p)
  | (intro k;apply Go.TL.TO.go0 tabOk 300 true;exact rfl;(first|apply Go.TL.GG.to|apply Go.TL.GG.stop|apply Go.TL.GG.tr0|apply Go.TL.GG.tr|apply Go.TL.GG.ex);exact k.p)
  | (intro k;apply Go.TL.TExit.go tabOk 300 true;exact rfl;(first|apply Go.TL.GG.to|apply Go.TL.GG.stop|apply Go.TL.GG.tr0|apply Go.TL.GG.tr|apply Go.TL.GG.ex);exact k.p)
  | (intro k;apply Go.TL.TO.allocC tabOk;exact rfl;exact rfl;exact rfl;exact rfl;exact rfl;exact rfl;exact Nat.le_of_ble_eq_true rfl;exact k.p)):G:=h ⟨k⟩
theorem wkb{G Q:Prop}(k:Q)(h:Hold Q->G:=by
  first
  | (intro k;apply Go.TL.TO.go tabOk 300 true;exact rfl;(first|apply Go.TL.GG.to|apply Go.TL.GG.stop|apply Go.TL.GG.tr0|apply Go.TL.GG.tr|apply Go.TL.GG.ex);exact k.p)
  | (intro k;apply Go.TL.TR.go0 tabOk 300 true;exact rfl;(first|apply Go.TL.GG.to|apply Go.TL.GG.stop|apply Go.TL.GG.tr0|apply Go.TL.GG.tr|apply Go.TL.GG.ex);exact k.p)
  | (intro k;apply Go.TL.TR.go tabOk 300 true;exact rfl;(first|apply Go.TL.GG.to|apply Go.TL.GG.stop|apply Go.TL.GG.tr0|apply Go.TL.GG.tr|apply Go.TL.GG.ex);exact k.p)
  | (intro k;apply Go.TL.TO.go0 tabOk 300 true;exact rfl;(first|apply Go.TL.GG.to|apply Go.TL.GG.stop|apply Go.TL.GG.tr0|apply Go.TL.GG.tr|apply Go.TL.GG.ex);exact k.p)
  | (intro k;apply Go.TL.TExit.go tabOk 300 true;exact rfl;(first|apply Go.TL.GG.to|apply Go.TL.GG.stop|apply Go.TL.GG.tr0|apply Go.TL.GG.tr|apply Go.TL.GG.ex);exact k.p)):G:=h ⟨k⟩
theorem wu{G Q:Prop}(k:Q)(h:Hold Q->G:=by first|(intro k;exact wkt k.p)|(intro k;exact wk k.p)):G:=h ⟨k⟩
theorem wk2{G Q1 Q2:Prop}(k1:Q1)(k2:Q2)(h:Hold Q1->Hold Q2->G:=by
  intro k1 k2
  first
  | (apply Go.TL.TO.ceq;exact rfl;exact rfl;exact rfl;exact k1.p;exact k2.p)
  | (apply Go.TL.TO.cne;exact rfl;exact rfl;exact rfl;exact k1.p;exact k2.p)
  | (apply Go.TL.TO.clt;exact rfl;exact rfl;exact rfl;exact k1.p;exact k2.p)
  | (apply Go.TL.TO.cle;exact rfl;exact rfl;exact rfl;exact k1.p;exact k2.p)
  | (apply Go.TL.TO.cgt;exact rfl;exact rfl;exact rfl;exact k1.p;exact k2.p)
  | (apply Go.TL.TO.cge;exact rfl;exact rfl;exact rfl;exact k1.p;exact k2.p)
  | (apply Go.TL.TO.seq';exact rfl;exact rfl;exact rfl;exact k1.p;exact k2.p)
  | (apply Go.TL.TO.sne';exact rfl;exact rfl;exact rfl;exact k1.p;exact k2.p)
  | (apply Go.TL.TR.condB;exact rfl;exact k1.p;exact k2.p)):G:=h ⟨k1⟩ ⟨k2⟩
theorem wkc{G:Prop}(h:G:=by
  first
  | (intro hc;exact absurd hc (by decide))
  | (intro hc;exfalso;simp only[List.length_cons,List.length_nil]at hc;omega)
  | (intro hc;exfalso;simp only[decide_eq_true_eq,decide_eq_false_iff_not,beq_iff_eq,beq_eq_false_iff_ne,bne_iff_ne,bne_eq_false_iff_eq,ne_eq,Decidable.not_not,not_true_eq_false]at hc <;> omega)
  | (intro hc;exfalso;omega)):G:=h
theorem wv{G Q:Prop}{f:FuncId}{cargs:List SV}{v:SV}(hs:Pure Tryz.prog f cargs v)(k:Q)(h:Pure Tryz.prog f cargs v->Hold Q->G:=by
  intro hs k
  first
  | (apply Go.TL.TO.callV hs;exact rfl;exact rfl;exact rfl;(repeat' (first|exact trivial|exact Go.TL.Le.refl _|refine And.intro ?_ ?_|exact Go.TL.Le.any _|exact Go.TL.Le.nil _|exact Go.TL.Le.own _ _ _|refine Go.TL.Le.tree rfl ?_|exact Go.TL.TLe.refl _|exact Go.TL.TLe.nil _|refine Go.TL.TLe.ags ?_|fail));exact rfl;exact rfl;exact k.p)
  | (apply Go.TL.TO.callB hs;exact rfl;exact rfl;exact rfl;(repeat' (first|exact trivial|exact Go.TL.LeB.t _|exact Go.TL.LeB.cp _ _|exact Go.TL.LeB.fn0 _|exact Go.TL.LeB.any _|refine And.intro ?_ ?_|fail));exact Go.TL.Rigid.v _;exact k.p)):G:=h hs ⟨k⟩
theorem wb{G Q1 Q2:Prop}{f:FuncId}{cargs:List SV}{b:Bool}(hs:Pure Tryz.prog f cargs (.t (.v (.bool b))))(k1:Q1)(k2:Q2)(h:Pure Tryz.prog f cargs (.t (.v (.bool b)))->Hold Q1->Hold Q2->G:=by
  intro hs k1 k2
  apply Go.TL.TO.callBb hs;exact rfl;exact rfl;exact rfl
  (repeat' (first|exact trivial|exact Go.TL.LeB.t _|exact Go.TL.LeB.cp _ _|exact Go.TL.LeB.fn0 _|exact Go.TL.LeB.any _|refine And.intro ?_ ?_|refine Go.TL.LeB.tree rfl ?_|exact Go.TL.TLe.refl _|exact Go.TL.TLe.nil _|refine Go.TL.TLe.ags ?_|fail))
  exact k1.p
  exact k2.p):G:=h hs ⟨k1⟩ ⟨k2⟩
theorem wd{G Q:Prop}{f:FuncId}{cargs:List SV}{v:SV}{Hc Hc1:Heap}(hs:Sound Tryz.prog f cargs Hc fun r H'=>r= .ret v/\H'=Hc1)(k:Q)(h:(Sound Tryz.prog f cargs Hc fun r H'=>r= .ret v/\H'=Hc1)->Hold Q->G:=by
  intro hs k
  first
  | (apply Go.TL.TO.callD 1 hs;exact rfl;exact rfl;exact rfl;(repeat' (first|exact trivial|exact Go.TL.Le.refl _|refine And.intro ?_ ?_|exact Go.TL.Le.any _|exact Go.TL.Le.nil _|exact Go.TL.Le.own _ _ _|refine Go.TL.Le.tree rfl ?_|exact Go.TL.TLe.refl _|exact Go.TL.TLe.nil _|refine Go.TL.TLe.ags ?_|fail));exact rfl;exact rfl;exact rfl;exact rfl;exact rfl;exact rfl;exact rfl;exact rfl;exact k.p)
  | (apply Go.TL.TO.callD 2 hs;exact rfl;exact rfl;exact rfl;(repeat' (first|exact trivial|exact Go.TL.Le.refl _|refine And.intro ?_ ?_|exact Go.TL.Le.any _|exact Go.TL.Le.nil _|exact Go.TL.Le.own _ _ _|refine Go.TL.Le.tree rfl ?_|exact Go.TL.TLe.refl _|exact Go.TL.TLe.nil _|refine Go.TL.TLe.ags ?_|fail));exact rfl;exact rfl;exact rfl;exact rfl;exact rfl;exact rfl;exact rfl;exact rfl;exact k.p)
  | (apply Go.TL.TO.callD 3 hs;exact rfl;exact rfl;exact rfl;(repeat' (first|exact trivial|exact Go.TL.Le.refl _|refine And.intro ?_ ?_|exact Go.TL.Le.any _|exact Go.TL.Le.nil _|exact Go.TL.Le.own _ _ _|refine Go.TL.Le.tree rfl ?_|exact Go.TL.TLe.refl _|exact Go.TL.TLe.nil _|refine Go.TL.TLe.ags ?_|fail));exact rfl;exact rfl;exact rfl;exact rfl;exact rfl;exact rfl;exact rfl;exact rfl;exact k.p)):G:=h hs ⟨k⟩
theorem wkr{G:Prop}(h:G:=by
  first
  | exact RetK.pure rfl (Le.refl _) rfl
  | exact RetK.pureN rfl (Le.refl _) rfl
  | ((first|refine RetK.pure rfl ?_ rfl|refine RetK.pureN rfl ?_ rfl);repeat' (first|exact Le.refl _|exact trivial|refine Le.tup ⟨?_,?_⟩|refine And.intro ?_ ?_|exact Le.any _|refine Le.tree rfl ?_|exact TLe.refl _|exact TLe.nil _|refine TLe.ags ⟨?_,?_⟩|fail))):G:=h
end Go.Proofs.YtlfdkafebmdoiaaGreat
namespace Go.Proofs.YtlfdkafebmdoiaaGreat
open Go Go.TL
attribute [local irreducible] TR TO Then InBlock RetK Sound LoopK Kf GG ThenL
abbrev I64:={n:Int // -9223372036854775808≤n/\n≤9223372036854775807}
instance:Inhabited I64:=⟨⟨0,by decide⟩⟩
abbrev _root_.Go.TL.T.n (n:I64):T:=.v (.int .i64 n.1)
abbrev _root_.Go.TL.SV.n (n:I64):SV:=.t (.v (.int .i64 n.1))
inductive Ex where
 | mk (kind op t v:I64) (name:Str) (args:List Ex)
instance:Inhabited Ex:=⟨.mk default default default default [] []⟩
namespace Ex
def kind:Ex->I64| .mk k _ _ _ _ _=>k
def op:Ex->I64| .mk _ o _ _ _ _=>o
def t:Ex->I64| .mk _ _ t _ _ _=>t
def v:Ex->I64| .mk _ _ _ v _ _=>v
def name:Ex->Str| .mk _ _ _ _ n _=>n
def args:Ex->List Ex| .mk _ _ _ _ _ l=>l
end Ex
def exT:Ex->T
 | .mk k o t v n l=>.ag [T.n k,T.n o,T.n t,T.n v,.s n,.sl 6 (l.attach.map fun x=>exT x.1)]
decreasing_by
 have:=List.sizeOf_lt_of_mem x.2
 simp;omega
theorem exT_mk(k o t v:I64)(n:Str)(l:List Ex):exT (.mk k o t v n l)= .ag [T.n k,T.n o,T.n t,T.n v,.s n,.sl 6 (l.map exT)]:=by
 rw[exT];simp
def exC(e:Ex):List T:=[T.n e.kind,T.n e.op,T.n e.t,T.n e.v,.s e.name,.sl 6 (e.args.map exT)]
theorem exT_eq(e:Ex):exT e= .ag (exC e):=by cases e;rw[exT_mk];rfl
structure OnC where
 name:Str
 t:I64
 tag:I64
structure Decl where
 name:Str
 ty:I64
 clock:List OnC
structure Equ where
 left:List Str
 right:Ex
structure Tran where
 cond:Ex
 to:I64
 resume:Bool
mutual
inductive Auto where
 | mk (states:List Sta)
inductive Sta where
 | mk (name:Str) (locals:List Decl) (eqs:List Equ) (autos:List Auto) (unl unt:List Tran)
end
structure Nod where
 name:Str
 ins:List Decl
 outs:List Decl
 locals:List Decl
 eqs:List Equ
 autos:List Auto
 assume:List Ex
 ensure:List Ex
structure En where
 name:Str
 tags:List Str
structure Prog where
 enums:List En
 nodes:List Nod
namespace Auto
def states:Auto->List Sta| .mk l=>l
end Auto
namespace Sta
def name:Sta->Str| .mk n _ _ _ _ _=>n
def locals:Sta->List Decl| .mk _ l _ _ _ _=>l
def eqs:Sta->List Equ| .mk _ _ l _ _ _=>l
def autos:Sta->List Auto| .mk _ _ _ l _ _=>l
def unl:Sta->List Tran| .mk _ _ _ _ l _=>l
def unt:Sta->List Tran| .mk _ _ _ _ _ l=>l
end Sta
def onT(o:OnC):T:=.ag [.s o.name,T.n o.t,T.n o.tag]
def declT(d:Decl):T:=.ag [.s d.name,T.n d.ty,.sl 3 (d.clock.map onT)]
def equT(q:Equ):T:=.ag (.sl 1 (q.left.map T.s)::exC q.right)
def tranT(q:Tran):T:=.ag [T.n q.cond.kind,T.n q.cond.op,T.n q.cond.t,T.n q.cond.v,.s q.cond.name,.sl 6 (q.cond.args.map exT),T.n q.to,.b q.resume]
mutual
def autoT:Auto->T
 | .mk l=>.ag [.sl 6 (l.attach.map fun x=>staT x.1)]
decreasing_by
 have:=List.sizeOf_lt_of_mem x.2
 simp;omega
def staT:Sta->T
 | .mk n l q a u v=>.ag [.s n,.sl 3 (l.map declT),.sl 7 (q.map equT),.sl 1 (a.attach.map fun x=>autoT x.1),.sl 8 (u.map tranT),.sl 8 (v.map tranT)]
decreasing_by
 have:=List.sizeOf_lt_of_mem x.2
 simp;omega
end
theorem autoT_eq(a:Auto):autoT a= .ag [.sl 6 (a.states.map staT)]:=by cases a;rw[autoT];simp[Auto.states]
theorem staT_eq(s:Sta):staT s= .ag [.s s.name,.sl 3 (s.locals.map declT),.sl 7 (s.eqs.map equT),.sl 1 (s.autos.map autoT),.sl 8 (s.unl.map tranT),.sl 8 (s.unt.map tranT)]:=by
 cases s;rw[staT];simp[Sta.name,Sta.locals,Sta.eqs,Sta.autos,Sta.unl,Sta.unt]
def nodT(n:Nod):T:=.ag [.s n.name,.sl 3 (n.ins.map declT),.sl 3 (n.outs.map declT),.sl 3 (n.locals.map declT),.sl 7 (n.eqs.map equT),.sl 1 (n.autos.map autoT),.sl 6 (n.assume.map exT),.sl 6 (n.ensure.map exT)]
def enT(e:En):T:=.ag [.s e.name,.sl 1 (e.tags.map T.s)]
def progT(p:Prog):T:=.ag [.sl 2 (p.enums.map enT),.sl 8 (p.nodes.map nodT)]
def wEx:Ex->Nat
 | .mk _ _ _ _ _ l=>1+(l.attach.map fun x=>wEx x.1).sum
decreasing_by
 have:=List.sizeOf_lt_of_mem x.2
 simp;omega
theorem wEx_eq(e:Ex):wEx e=1+(e.args.map wEx).sum:=by cases e;rw[wEx];simp[Ex.args]
theorem sum_mem{α:Type}(f:α->Nat):∀ {l:List α} {x:α},x∈l->f x≤(l.map f).sum
 | a::l,x,h=>by
   rcases List.mem_cons.1 h with rfl|h
   ·simp
   ·have:=sum_mem f h
    simp;omega
theorem sum_len{α:Type}(f:α->Nat)(hf:∀x,1≤f x):∀(l:List α),l.length≤(l.map f).sum
 | []=>by simp
 | a::l=>by
   have:=sum_len f hf l
   have:=hf a
   simp;omega
theorem wEx_pos(e:Ex):1≤wEx e:=by rw[wEx_eq];omega
theorem wEx_arg{e x:Ex}(h:x∈e.args):wEx x<wEx e:=by
 have:=sum_mem wEx h
 rw[wEx_eq e];omega
theorem wEx_args(e:Ex):e.args.length<wEx e:=by
 have:=sum_len wEx wEx_pos e.args
 rw[wEx_eq];omega
theorem at_map{α:Type}(f:α->T){l:List α}{k:Nat}(h:k<l.length):(l.map f)[k]?=some (f l[k]):=by simp[h]
theorem at_exT{l:List Ex}{k:Nat}(h:k<l.length):(l.map exT)[k]?=some (.ag (exC l[k])):=by simp[h,exT_eq]
end Go.Proofs.YtlfdkafebmdoiaaGreat
namespace Go.Proofs.YtlfdkafebmdoiaaGreat
open Go Go.TL
variable {H:Type}
theorem ty_s{n:Nat}{d:DataW H}{ts:List T}(h:TyD Tryz.prog n 9 d ts):∃l:Str,ts=[T.s l]:=by
 cases n with
 | zero=>exact h.elim
 | succ n=>
   simp only[TyD,Tryz.underlying9]at h
   obtain⟨l,_,h2,_⟩:=h
   exact⟨l,h2⟩
theorem ty_b{n:Nat}{d:DataW H}{ts:List T}(h:TyD Tryz.prog n 4 d ts):∃b:Bool,ts=[T.b b]:=by
 cases n with
 | zero=>exact h.elim
 | succ n=>
   simp only[TyD,Tryz.underlying4]at h
   obtain⟨b,_,h2⟩:=h
   exact⟨b,h2⟩
theorem ty_sl{α:Type}(f:α->T){n sz:Nat}{t e:TypeId}(hu:Tryz.prog.underlying t=some (.slice e))(hs:Tryz.prog.cellsOf e=sz){d:DataW H}{ts:List T}(h:TyD Tryz.prog n t d ts)
  (dec:∀m,m<n->∀(d:DataW H) ts,TyD Tryz.prog m e d ts->∃a:α,mkT (aggB Tryz.prog e) ts=f a):∃l:List α,ts=[.sl sz (l.map f)]:=by
 cases n with
 | zero=>exact h.elim
 | succ n=>
   simp only[TyD,hu]at h
   obtain⟨els,sp,es,_,hy,hl,hm,he⟩:=h
   have key:∀(es:List T) (els:List (DataW H)),es.length=els.length->(∀(i:Nat) x y,els[i]?=some x->es[i]?=some y->y=mkT (aggB Tryz.prog e) y.cells/\TyD Tryz.prog n e x y.cells)->∃l:List α,es=l.map f:=by
    intro es
    induction es with
    | nil=>intro els _ _;exact⟨[],rfl⟩
    | cons y es ih=>
      intro els hl he
      cases els with
      | nil=>simp at hl
      | cons x els=>
        obtain⟨l,hl1⟩:=ih els (by simpa using hl) (fun i x y hx hy=>he (i+1) x y (by simpa using hx) (by simpa using hy))
        obtain⟨g1,g2⟩:=he 0 x y rfl rfl
        obtain⟨a,g3⟩:=dec n (Nat.lt_succ_self n) x y.cells g2
        exact⟨a::l,by rw[hl1,g1,g3];rfl⟩
   obtain⟨l,rfl⟩:=key es els hl he
   exact⟨l,by rw[hy,hs]⟩
theorem c1_str:Tryz.prog.cellsOf 9=1:=by kernel_rfl
end Go.Proofs.YtlfdkafebmdoiaaGreat
namespace Go.Proofs.YtlfdkafebmdoiaaGreat
open Go Go.TL
variable {H:Type}
theorem agg_str:aggB Tryz.prog 9=false:=by unfold aggB;rw[Tryz.underlying9]
theorem c1_ss:Tryz.prog.cellsOf 55=1:=by kernel_rfl
theorem cz_ens:Tryz.prog.cellsOf 72=2:=by kernel_rfl
theorem agg_en:aggB Tryz.prog 72=true:=by unfold aggB;rw[Tryz.underlying72]
theorem cz_ss:Tryz.prog.cellsOf 9=1:=by kernel_rfl
theorem ty_en{n:Nat}{d:DataW H}{ts:List T}(h:TyD Tryz.prog n 72 d ts):∃o:En,mkT true ts=enT o:=by
 cases n with
 | zero=>exact h.elim
 | succ m=>
   simp only[TyD,Tryz.underlying72]at h
   obtain⟨xs,rfl,hl,hx,hf⟩:=h
   rw[cz_ens]at hl
   match xs,hx,ts,hl with
   | [x0,x1],_,[a,b],_=>
     have f0:TyD Tryz.prog m 9 x0 (([a,b].drop 0).take (Tryz.prog.cellsOf 9)):=hf 0 _ x0 rfl rfl
     have f1:TyD Tryz.prog m 55 x1 (([a,b].drop 1).take (Tryz.prog.cellsOf 55)):=hf 1 _ x1 rfl rfl
     simp only[c1_ss,c1_str,List.drop_zero,List.drop_succ_cons,List.take_succ_cons,List.take_zero]at f0 f1
     obtain⟨v0,e0⟩:=ty_s f0
     obtain⟨v1,e1⟩:=ty_sl T.s Tryz.underlying55 cz_ss f1 (fun k hk d ts ht=>by
      obtain⟨u,hu⟩:=ty_s ht
      exact⟨u,by rw[agg_str,hu];rfl⟩)
     simp only[List.cons.injEq,and_true]at e0 e1
     refine⟨⟨v0,v1⟩,?_⟩
     simp_all
     try rfl
end Go.Proofs.YtlfdkafebmdoiaaGreat
namespace Go.TL
open Go
def zerosOf(z:List T)(n:Nat):List SV:=(List.replicate n z).flatten.map .t
theorem rep_get{α:Type}(z:List α)(hz:0<z.length):∀(n j:Nat),j<n*z.length->(List.replicate n z).flatten[j]?=z[j % z.length]?
 | 0,j,h=>by simp at h
 | n+1,j,h=>by
   rw[List.replicate_succ,List.flatten_cons]
   by_cases hj:j<z.length
   ·rw[List.getElem?_append_left hj,Nat.mod_eq_of_lt hj]
   ·rw[List.getElem?_append_right (by omega),rep_get z hz n (j-z.length) (by rw[Nat.succ_mul]at h;omega),<-Nat.mod_eq_sub_mod (by omega)]
theorem zerosOf_len(z:List T)(n:Nat):(zerosOf z n).length=n*z.length:=by simp[zerosOf]
theorem grow_zeros{m:M}(hm:HRel m){ts:List T}{z:Array Value}{e:TypeId}{arr:Array Value}{c N:Nat}(hz:fitsAll ts z.toList=true)(hpos:0<ts.length)(hN:c≤N)(hsz:arr.size=N*ts.length)(harr:∀j,j<N*ts.length->arr[j]?=z[j % ts.length]?):
  Step m ⟨m.A,m.β++[⟨m.w.heap.size,0,arr.size⟩],m.H++[.cells (zerosOf ts c)],m.w.alloc (.cells arr e)⟩/\HRel ⟨m.A,m.β++[⟨m.w.heap.size,0,arr.size⟩],m.H++[.cells (zerosOf ts c)],m.w.alloc (.cells arr e)⟩:=by
 obtain⟨g1,g0,g2⟩:=zero_rel (A:=m.A) (w:=m.w) _ _ hz
 have hcN:c*ts.length≤N*ts.length:=Nat.mul_le_mul_right _ hN
 refine grow_cells hm _ arr e (by rw[zerosOf_len,hsz];exact hcN) (fun j y hy=>?_) (fun j s y hs hy=>?_)
 ·have hj:=(Array.getElem?_eq_some_iff.1 hy).1
  rw[harr j (by omega)]at hy
  exact g0 _ y (by simpa using hy)
 ·have hj:=(Array.getElem?_eq_some_iff.1 hy).1
  rw[harr j (by omega)]at hy
  have hjs:=(List.getElem?_eq_some_iff.1 hs).1
  rw[zerosOf_len]at hjs
  unfold zerosOf at hs
  rw[List.getElem?_map,rep_get ts hpos c j hjs]at hs
  cases hq:ts[j % ts.length]? with
  | none=>rw[hq]at hs;cases hs
  | some u=>rw[hq]at hs;cases hs;exact .t _ _ (g2 _ u y hq (by simpa using hy))
theorem zeroCells_get(z:Array Value)(n j:Nat)(hz:0<z.size)(hj:j<n*z.size):(Builtin.zeroCells z n)[j]?=z[j % z.size]? :=by
 have h2:j % z.size<z.size:=Nat.mod_lt _ hz
 unfold Builtin.zeroCells
 rw[Array.getElem?_map,Array.getElem?_eq_getElem (by simpa using hj)]
 simp[h2]
theorem zeroCells_size(z:Array Value)(n:Nat):(Builtin.zeroCells z n).size=n*z.size:=by simp[Builtin.zeroCells]
section rules
variable {P:Program}{n:Nat}{env:Env}{H:Heap}{K:TK}{all:Array Oper}{rest:List Oper}{tab:Tab}
variable {d:Nat}{ty:TypeId}{pos:String}{aft:Array Edge}
theorem flat_cells{sz:Nat}:∀(es:List T),(∀e∈es,e.cells.length=sz)->((es.map T.cells).flatten.length=es.length*sz/\∀(i j:Nat) e c,es[i]?=some e->e.cells[j]?=some c->((es.map T.cells).flatten)[i*sz+j]?=some c)
 | [],_=>by simp
 | e::es,h=>by
   obtain⟨h1,h2⟩:=flat_cells es (fun x hx=>h x (List.mem_cons_of_mem _ hx))
   have he:=h e List.mem_cons_self
   refine⟨by rw[List.map_cons,List.flatten_cons,List.length_append,h1,he,List.length_cons,Nat.succ_mul];omega,fun i j x c hx hc=>?_⟩
   rw[List.map_cons,List.flatten_cons]
   cases i with
   | zero=>
     simp at hx;subst hx
     have:=(List.getElem?_eq_some_iff.1 hc).1
     rw[Nat.zero_mul,Nat.zero_add,List.getElem?_append_left this];exact hc
   | succ i=>
     rw[List.getElem?_append_right (by rw[he,Nat.succ_mul];omega),he,show(i+1)*sz+j-sz=i*sz+j from by rw[Nat.succ_mul];omega]
     exact h2 i j x c (by simpa using hx) hc
end rules
theorem unders_t(k:Nat):∀(ts:List T),unders k (ts.map .t)=true
 | []=>rfl
 | t::ts=>by simp[unders,SV.under,unders_t k ts]
section rules
variable {P:Program}{n:Nat}{env:Env}{H:Heap}{K:TK}{all:Array Oper}{rest:List Oper}{tab:Tab}
variable {d:Nat}{ty:TypeId}{pos:String}{aft:Array Edge}
theorem hands_none(H:Heap):Hands H [] []:=hands_range (N:=0) (Nat.zero_le _) rfl rfl
end rules
end Go.TL
namespace Go.Proofs.YtlfdkafebmdoiaaGreat
open Go Go.TL
attribute [local irreducible] TR TO Then InBlock RetK Sound LoopK Kf GG ThenL
def flat:Ex->List Ex
 | .mk k o t v n l=>.mk k o t v n l::(l.attach.map fun x=>flat x.1).flatten
decreasing_by
 have:=List.sizeOf_lt_of_mem x.2
 simp;omega
def flats(l:List Ex):List Ex:=(l.map flat).flatten
theorem flat_eq(e:Ex):flat e=e::flats e.args:=by
 cases e
 rw[flat];simp[flats,Ex.args]
inductive Out where
 | go
 | jump (c:Code) (H:Heap)
 | panic (v:SV) (H:Heap)
def scanO(f:List Ex->Ex->Out):List Ex->List Ex->Out
 | _,[]=>.go
 | pre,x::l=>match f pre x with
   | .go=>scanO f (pre++[x]) l
   | o=>o
theorem scanO_append(f:List Ex->Ex->Out):∀(a b pre:List Ex),scanO f pre (a++b)=match scanO f pre a with
  | .go=>scanO f (pre++a) b
  | o=>o
 | [],b,pre=>by simp[scanO]
 | x::a,b,pre=>by
   simp only[List.cons_append,scanO]
   cases f pre x with
   | go=>simp only[];rw[scanO_append f a b (pre++[x])];simp
   | jump c H=>rfl
   | panic v H=>rfl
structure EachS where
 L0:Nat
 Hb:List Ex->Heap
 lp:LoopState->Option Code->Blk
 f:List Ex->Ex->Out
def EachS.ok(S:EachS):Prop:=
 (∀pre,(S.Hb pre).length=S.L0/\blksUnder (S.L0+1) (S.Hb pre)=true)/\(∀st pe,(S.lp st pe).under (S.L0+1)=true)/\
 ∀pre x,match S.f pre x with
  | .go=>True
  | .jump c H=>H.length=S.L0/\blksUnder (S.L0+1) H=true
  | .panic v H=>v.under (S.L0+1)=true/\H.length=S.L0/\blksUnder (S.L0+1) H=true
def EachR(S:EachS)(pre xs:List Ex)(r:Res)(H:Heap):Prop:=
 match scanO S.f pre xs with
 | .go=>r= .ret (.b true)/\H=S.Hb (pre++xs)++[S.lp .ready none]
 | .jump c H0=>r= .ret (.b false)/\H=H0++[S.lp .done (some c)]
 | .panic v H0=>r= .panic v/\H=H0++[S.lp .busy none]
theorem flats_append(a b:List Ex):flats (a++b)=flats a++flats b:=by simp[flats]
theorem flats_split(l:List Ex){j:Nat}(h:j<l.length):flats l=flats (l.take j)++(flat l[j]++flats (l.drop (j+1))):=by
 have:l=l.take j++([l[j]]++l.drop (j+1)):=by
  rw[List.singleton_append,<-List.drop_eq_getElem_cons h,List.take_append_drop]
 conv=>lhs;rw[this]
 rw[flats_append,flats_append]
 simp[flats]
theorem flats_take(l:List Ex){j:Nat}(h:j<l.length):flats (l.take (j+1))=flats (l.take j)++flat l[j]:=by
 rw[List.take_succ_eq_append_getElem h,flats_append];simp[flats]
theorem flat_pos(e:Ex):0<(flat e).length:=by rw[flat_eq];simp
theorem flats_len:∀l:List Ex,l.length≤(flats l).length
 | []=>Nat.zero_le _
 | x::l=>by
   have h1:=flats_len l
   have:=flat_pos x
   simp only[flats,List.map_cons,List.flatten_cons,List.length_append,List.length_cons]at h1⊢
   omega
theorem flat_len(e:Ex):(flat e).length=wEx e:=by
 generalize hn:wEx e=n
 induction n using Nat.strongRecOn generalizing e with
 | ind n ih=>
   have h:∀l:List Ex,(∀x∈l,wEx x<n)->(flats l).length=(l.map wEx).sum:=by
    intro l
    induction l with
    | nil=>intro _;rfl
    | cons x l ihl=>
      intro hx
      have h1:=ihl fun y hy=>hx y (List.mem_cons_of_mem _ hy)
      have h2:=ih (wEx x) (hx x List.mem_cons_self) x rfl
      simp only[flats,List.map_cons,List.flatten_cons,List.length_append,List.sum_cons]at h1⊢
      omega
   rw[flat_eq,List.length_cons,h e.args (fun x hx=>by have:=wEx_arg hx;omega)]
   rw[wEx_eq]at hn
   omega
theorem blksUnder_append{k:Nat}:∀ {a b:Heap},blksUnder k a=true->blksUnder k b=true->blksUnder k (a++b)=true
 | [],b,_,h=>h
 | x::a,b,h1,h2=>by
   simp only[blksUnder,Bool.and_eq_true]at h1
   simp[blksUnder,h1.1,blksUnder_append h1.2 h2]
theorem scanO_out{S:EachS}(h:S.ok):∀(xs pre:List Ex),match scanO S.f pre xs with
  | .go=>True
  | .jump c H=>H.length=S.L0/\blksUnder (S.L0+1) H=true
  | .panic v H=>v.under (S.L0+1)=true/\H.length=S.L0/\blksUnder (S.L0+1) H=true
 | [],pre=>by simp[scanO]
 | x::xs,pre=>by
   have h2:=h.2.2 pre x
   simp only[scanO]
   cases hq:S.f pre x with
   | go=>exact scanO_out h xs (pre++[x])
   | jump c H=>rw[hq]at h2;exact h2
   | panic v H=>rw[hq]at h2;exact h2
theorem eachR_within{S:EachS}(h:S.ok)(pre xs:List Ex):Within (S.L0+1) (EachR S pre xs):=by
 have ho:=scanO_out h xs pre
 have one:∀st pe,blksUnder (S.L0+1) [S.lp st pe]=true:=fun st pe=>by simp[blksUnder,h.2.1]
 constructor
 ·intro v H' hr
  unfold EachR at hr
  split at hr
  ·obtain⟨h1,rfl⟩:=hr
   cases h1
   exact⟨rfl,by simp[(h.1 _).1],blksUnder_append (h.1 _).2 (one _ _)⟩
  ·rename_i c H0 hq
   rw[hq]at ho
   obtain⟨h1,rfl⟩:=hr
   cases h1
   exact⟨rfl,by simp[ho.1],blksUnder_append ho.2 (one _ _)⟩
  ·obtain⟨h1,_⟩:=hr;cases h1
 ·intro v H' hr
  unfold EachR at hr
  split at hr
  ·obtain⟨h1,_⟩:=hr;cases h1
  ·obtain⟨h1,_⟩:=hr;cases h1
  ·rename_i u H0 hq
   rw[hq]at ho
   obtain⟨h1,rfl⟩:=hr
   cases h1
   exact⟨ho.1,by simp[ho.2.1],blksUnder_append ho.2.2 (one _ _)⟩
end Go.Proofs.YtlfdkafebmdoiaaGreat
