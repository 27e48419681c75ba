import Derived.Test.YtcbhlhmebbkgnaaGreatPk9
import Derived.Test.YtcbhlhmebbkgnaaGreatPk12
import Derived.Test.YtcbhlhmebbkgnaaGreatPk13
set_option linter.unusedSimpArgs false
set_option linter.unusedVariables false
namespace Go.Proofs.YtcbhlhmebbkgnaaGreat
open Go Go.TL
theorem hmix:Tryz.prog.follows .mixedOrders=true:=by kernel_rfl
attribute [local irreducible] TR TO Then InBlock RetK Sound LoopK Kf GG ThenL
structure Hold (Q:Prop):Prop where
 p:Q
theorem wk{G Q:Prop}(k:Q)(h:Hold Q->G:=by
  first
  | (intro k;apply Go.TL.TO.go tabOk 300 false;exact rfl;(first|apply Go.TL.GG.to|apply Go.TL.GG.stop|apply Go.TL.GG.tr0|apply Go.TL.GG.tr|apply Go.TL.GG.ex);exact k.p)
  | (intro k;apply Go.TL.TR.go0 tabOk 300 false;exact rfl;(first|apply Go.TL.GG.to|apply Go.TL.GG.stop|apply Go.TL.GG.tr0|apply Go.TL.GG.tr|apply Go.TL.GG.ex);exact k.p)
  | (intro k;apply Go.TL.TR.go tabOk 300 false;exact rfl;(first|apply Go.TL.GG.to|apply Go.TL.GG.stop|apply Go.TL.GG.tr0|apply Go.TL.GG.tr|apply Go.TL.GG.ex);exact k.p)
  | (intro k;apply Go.TL.TO.go0 tabOk 300 false;exact rfl;(first|apply Go.TL.GG.to|apply Go.TL.GG.stop|apply Go.TL.GG.tr0|apply Go.TL.GG.tr|apply Go.TL.GG.ex);exact k.p)
  | (intro k;apply Go.TL.ThenL.go;exact k.p)
  | (intro k;apply Go.TL.TExit.go tabOk 300 false;exact rfl;(first|apply Go.TL.GG.to|apply Go.TL.GG.stop|apply Go.TL.GG.tr0|apply Go.TL.GG.tr|apply Go.TL.GG.ex);exact k.p)
  | (intro k;apply Go.TL.TExit.fin;exact k.p)
  | (intro k;apply Go.TL.TO.want;exact rfl;exact k.p)
  | (intro k;apply Go.TL.TO.add;exact rfl;exact rfl;exact rfl;(first|omega|(simp only[List.length_append,List.length_cons,List.length_nil];omega));(first|omega|(simp only[List.length_append,List.length_cons,List.length_nil];omega));exact k.p)
  | (intro k;apply Go.TL.TO.sub64;exact rfl;exact rfl;exact rfl;(first|omega|(simp only[List.length_append,List.length_cons,List.length_nil];omega));(first|omega|(simp only[List.length_append,List.length_cons,List.length_nil];omega));exact k.p)
  | (intro k;apply Go.TL.TO.elem_nat tabOk;exact rfl;exact rfl;exact rfl;exact rfl;exact rfl;exact rfl;exact rfl;exact rfl;assumption;exact rfl;exact k.p)
  | (intro k;apply Go.TL.TO.elem_nat (j:=0) tabOk;exact rfl;exact rfl;exact rfl;exact rfl;exact rfl;exact rfl;exact rfl;exact rfl;exact rfl;exact rfl;exact k.p)
  | (intro k;apply Go.TL.TO.elem_nat (j:=1) tabOk;exact rfl;exact rfl;exact rfl;exact rfl;exact rfl;exact rfl;exact rfl;exact rfl;exact rfl;exact rfl;exact k.p)
  | (intro k;apply Go.TL.TO.elem_nat (j:=2) tabOk;exact rfl;exact rfl;exact rfl;exact rfl;exact rfl;exact rfl;exact rfl;exact rfl;exact rfl;exact rfl;exact k.p)
  | (intro k;apply Go.TL.TO.indexAddr tabOk;exact rfl;exact rfl;exact rfl;exact rfl;exact rfl;exact rfl;exact rfl;exact rfl;omega;assumption;exact k.p)
  | (intro k;apply Go.TL.TO.index_nat tabOk;exact rfl;exact rfl;exact rfl;exact rfl;exact rfl;assumption;exact k.p)
  | (intro k;apply Go.TL.TO.index_str tabOk;exact rfl;exact rfl;exact rfl;exact rfl;exact rfl;decide;exact rfl;exact k.p)
  | (intro k;apply Go.TL.TO.index_str tabOk;exact rfl;exact rfl;exact rfl;exact rfl;exact rfl;omega;assumption;exact k.p)
  | (intro k;apply Go.TL.TO.maxi;exact rfl;exact rfl;exact rfl;exact k.p)
  | (intro k;apply Go.TL.TO.mini;exact rfl;exact rfl;exact rfl;exact k.p)
  | (intro k;apply Go.TL.TR.regionLf hmix;decide +kernel;exact rfl;exact k.p)
  | (intro k;apply Go.TL.TR.regionL2 hmix;decide +kernel;exact rfl;exact k.p)
  | (intro k;apply Go.TL.TR.regionL1 hmix;decide +kernel;exact rfl;exact k.p)
  | (intro k;apply Go.TL.TR.regionQ hmix;kernel_rfl;exact rfl;exact k.p)
  | (intro k;apply Go.TL.TO.appendB tabOk;exact rfl;exact rfl;exact rfl;exact rfl;exact rfl;exact rfl;exact rfl;exact rfl;exact rfl;exact rfl;exact rfl;exact rfl;exact rfl;(first|omega|(simp only[List.length_append,List.length_cons,List.length_nil];omega));exact rfl;exact k.p)
  | (intro k;apply Go.TL.TO.ssl2 tabOk;exact rfl;exact rfl;exact rfl;exact rfl;exact rfl;exact rfl;exact rfl;exact rfl;exact rfl;omega;omega;exact k.p)
  | (intro k;apply Go.TL.TO.ssl_lo tabOk;exact rfl;exact rfl;exact rfl;exact rfl;exact rfl;exact rfl;exact rfl;exact rfl;omega;exact k.p)
  | (intro k;apply Go.TL.TO.ssl_hi tabOk;exact rfl;exact rfl;exact rfl;exact rfl;exact rfl;exact rfl;exact rfl;exact rfl;omega;exact k.p)
  | (intro k;apply Go.TL.TO.slice2 tabOk;exact rfl;exact rfl;exact rfl;exact rfl;exact rfl;exact rfl;omega;omega;exact k.p)
  | (intro k;apply Go.TL.TO.slice_lo tabOk;exact rfl;exact rfl;exact rfl;exact rfl;exact rfl;omega;exact k.p)
  | (intro k;apply Go.TL.TO.slice_hi tabOk;exact rfl;exact rfl;exact rfl;exact rfl;exact rfl;omega;exact k.p)
  | (intro k;apply Go.TL.TO.convert_u8;exact rfl;kernel_rfl;kernel_rfl;exact rfl;exact k.p)
  | (intro k;apply Go.TL.TO.eqb;exact rfl;exact rfl;exact rfl;kernel_rfl;exact k.p)
  | (intro k;apply Go.TL.TO.neb;exact rfl;exact rfl;exact rfl;kernel_rfl;exact k.p)
  | (intro k;apply Go.TL.TO.go tabOk 0 false;exact rfl;(first|apply Go.TL.GG.to|apply Go.TL.GG.stop|apply Go.TL.GG.tr0|apply Go.TL.GG.tr|apply Go.TL.GG.ex);exact k.p)
  | (intro k;apply Go.TL.TR.go0 tabOk 0 false;exact rfl;(first|apply Go.TL.GG.to|apply Go.TL.GG.stop|apply Go.TL.GG.tr0|apply Go.TL.GG.tr|apply Go.TL.GG.ex);exact k.p)
  | (intro k;apply Go.TL.TR.go tabOk 0 false;exact rfl;(first|apply Go.TL.GG.to|apply Go.TL.GG.stop|apply Go.TL.GG.tr0|apply Go.TL.GG.tr|apply Go.TL.GG.ex);exact k.p)
  | (intro k;apply Go.TL.TO.go0 tabOk 0 false;exact rfl;(first|apply Go.TL.GG.to|apply Go.TL.GG.stop|apply Go.TL.GG.tr0|apply Go.TL.GG.tr|apply Go.TL.GG.ex);exact k.p)
  | (intro k;apply Go.TL.TExit.go tabOk 0 false;exact rfl;(first|apply Go.TL.GG.to|apply Go.TL.GG.stop|apply Go.TL.GG.tr0|apply Go.TL.GG.tr|apply Go.TL.GG.ex);exact k.p)
  | (intro k;apply Go.TL.LoopK.exit;exact k.p)
  | (intro k;apply Go.TL.LoopK.ret;exact k.p)):G:=h ⟨k⟩
theorem wkt{G Q:Prop}(k:Q)(h:Hold Q->G:=by
  first
  | (intro k;apply Go.TL.TO.go tabOk 300 true;exact rfl;(first|apply Go.TL.GG.to|apply Go.TL.GG.stop|apply Go.TL.GG.tr0|apply Go.TL.GG.tr|apply Go.TL.GG.ex);exact k.p)
  | (intro k;apply Go.TL.TR.go0 tabOk 300 true;exact rfl;(first|apply Go.TL.GG.to|apply Go.TL.GG.stop|apply Go.TL.GG.tr0|apply Go.TL.GG.tr|apply Go.TL.GG.ex);exact k.p)
  | (intro k;apply Go.TL.TR.go tabOk 300 true;exact rfl;(first|apply Go.TL.GG.to|apply Go.TL.GG.stop|apply Go.TL.GG.tr0|apply Go.TL.GG.tr|apply Go.TL.GG.ex);exact k.p)
  | (intro k;apply Go.TL.TO.go0 tabOk 300 true;exact rfl;(first|apply Go.TL.GG.to|apply Go.TL.GG.stop|apply Go.TL.GG.tr0|apply Go.TL.GG.tr|apply Go.TL.GG.ex);exact k.p)
  | (intro k;apply Go.TL.TExit.go tabOk 300 true;exact rfl;(first|apply Go.TL.GG.to|apply Go.TL.GG.stop|apply Go.TL.GG.tr0|apply Go.TL.GG.tr|apply Go.TL.GG.ex);exact k.p)
  | (intro k;apply Go.TL.TO.allocC tabOk;exact rfl;exact rfl;exact rfl;exact rfl;exact rfl;exact rfl;exact Nat.le_of_ble_eq_true rfl;exact k.p)):G:=h ⟨k⟩
theorem wkb{G Q:Prop}(k:Q)(h:Hold Q->G:=by
  first
  | (intro k;apply Go.TL.TO.go tabOk 300 true;exact rfl;(first|apply Go.TL.GG.to|apply Go.TL.GG.stop|apply Go.TL.GG.tr0|apply Go.TL.GG.tr|apply Go.TL.GG.ex);exact k.p)
  | (intro k;apply Go.TL.TR.go0 tabOk 300 true;exact rfl;(first|apply Go.TL.GG.to|apply Go.TL.GG.stop|apply Go.TL.GG.tr0|apply Go.TL.GG.tr|apply Go.TL.GG.ex);exact k.p)
  | (intro k;apply Go.TL.TR.go tabOk 300 true;exact rfl;(first|apply Go.TL.GG.to|apply Go.TL.GG.stop|apply Go.TL.GG.tr0|apply Go.TL.GG.tr|apply Go.TL.GG.ex);exact k.p)
  | (intro k;apply Go.TL.TO.go0 tabOk 300 true;exact rfl;(first|apply Go.TL.GG.to|apply Go.TL.GG.stop|apply Go.TL.GG.tr0|apply Go.TL.GG.tr|apply Go.TL.GG.ex);exact k.p)
  | (intro k;apply Go.TL.TExit.go tabOk 300 true;exact rfl;(first|apply Go.TL.GG.to|apply Go.TL.GG.stop|apply Go.TL.GG.tr0|apply Go.TL.GG.tr|apply Go.TL.GG.ex);exact k.p)):G:=h ⟨k⟩
theorem wk2{G Q1 Q2:Prop}(k1:Q1)(k2:Q2)(h:Hold Q1->Hold Q2->G:=by
  intro k1 k2
  first
  | (apply Go.TL.TO.ceq;exact rfl;exact rfl;exact rfl;exact k1.p;exact k2.p)
  | (apply Go.TL.TO.cne;exact rfl;exact rfl;exact rfl;exact k1.p;exact k2.p)
  | (apply Go.TL.TO.clt;exact rfl;exact rfl;exact rfl;exact k1.p;exact k2.p)
  | (apply Go.TL.TO.cle;exact rfl;exact rfl;exact rfl;exact k1.p;exact k2.p)
  | (apply Go.TL.TO.cgt;exact rfl;exact rfl;exact rfl;exact k1.p;exact k2.p)
  | (apply Go.TL.TO.cge;exact rfl;exact rfl;exact rfl;exact k1.p;exact k2.p)
  | (apply Go.TL.TO.seq';exact rfl;exact rfl;exact rfl;exact k1.p;exact k2.p)
  | (apply Go.TL.TO.sne';exact rfl;exact rfl;exact rfl;exact k1.p;exact k2.p)
  | (apply Go.TL.TR.condB;exact rfl;exact k1.p;exact k2.p)):G:=h ⟨k1⟩ ⟨k2⟩
theorem wkc{G:Prop}(h:G:=by
  first
  | (intro hc;exact absurd hc (by decide))
  | (intro hc;exfalso;simp only[List.length_cons,List.length_nil]at hc;omega)
  | (intro hc;exfalso;simp only[decide_eq_true_eq,decide_eq_false_iff_not,beq_iff_eq,beq_eq_false_iff_ne,bne_iff_ne,bne_eq_false_iff_eq,ne_eq,Decidable.not_not,not_true_eq_false]at hc <;> omega)
  | (intro hc;exfalso;omega)):G:=h
theorem wv{G Q:Prop}{f:FuncId}{cargs:List SV}{v:SV}(hs:Pure Tryz.prog f cargs v)(k:Q)(h:Pure Tryz.prog f cargs v->Hold Q->G:=by
  intro hs k
  first
  | (apply Go.TL.TO.callV hs;exact rfl;exact rfl;exact rfl;(repeat' (first|exact trivial|exact Go.TL.Le.refl _|refine And.intro ?_ ?_|exact Go.TL.Le.any _|exact Go.TL.Le.nil _|exact Go.TL.Le.own _ _ _|refine Go.TL.Le.tree rfl ?_|exact Go.TL.TLe.refl _|exact Go.TL.TLe.nil _|refine Go.TL.TLe.ags ?_|fail));exact rfl;exact rfl;exact k.p)
  | (apply Go.TL.TO.callB hs;exact rfl;exact rfl;exact rfl;(repeat' (first|exact trivial|exact Go.TL.LeB.t _|exact Go.TL.LeB.cp _ _|exact Go.TL.LeB.fn0 _|exact Go.TL.LeB.any _|refine And.intro ?_ ?_|fail));exact Go.TL.Rigid.v _;exact k.p)):G:=h hs ⟨k⟩
theorem wb{G Q1 Q2:Prop}{f:FuncId}{cargs:List SV}{b:Bool}(hs:Pure Tryz.prog f cargs (.t (.v (.bool b))))(k1:Q1)(k2:Q2)(h:Pure Tryz.prog f cargs (.t (.v (.bool b)))->Hold Q1->Hold Q2->G:=by
  intro hs k1 k2
  apply Go.TL.TO.callBb hs;exact rfl;exact rfl;exact rfl
  (repeat' (first|exact trivial|exact Go.TL.LeB.t _|exact Go.TL.LeB.cp _ _|exact Go.TL.LeB.fn0 _|exact Go.TL.LeB.any _|refine And.intro ?_ ?_|refine Go.TL.LeB.tree rfl ?_|exact Go.TL.TLe.refl _|exact Go.TL.TLe.nil _|refine Go.TL.TLe.ags ?_|fail))
  exact k1.p
  exact k2.p):G:=h hs ⟨k1⟩ ⟨k2⟩
theorem wd{G Q:Prop}{f:FuncId}{cargs:List SV}{v:SV}{Hc Hc1:Heap}(hs:Sound Tryz.prog f cargs Hc fun r H'=>r= .ret v/\H'=Hc1)(k:Q)(h:(Sound Tryz.prog f cargs Hc fun r H'=>r= .ret v/\H'=Hc1)->Hold Q->G:=by
  intro hs k
  first
  | (apply Go.TL.TO.callD 1 hs;exact rfl;exact rfl;exact rfl;(repeat' (first|exact trivial|exact Go.TL.Le.refl _|refine And.intro ?_ ?_|exact Go.TL.Le.any _|exact Go.TL.Le.nil _|exact Go.TL.Le.own _ _ _|refine Go.TL.Le.tree rfl ?_|exact Go.TL.TLe.refl _|exact Go.TL.TLe.nil _|refine Go.TL.TLe.ags ?_|fail));exact rfl;exact rfl;exact rfl;exact rfl;exact rfl;exact rfl;exact rfl;exact rfl;exact k.p)
  | (apply Go.TL.TO.callD 2 hs;exact rfl;exact rfl;exact rfl;(repeat' (first|exact trivial|exact Go.TL.Le.refl _|refine And.intro ?_ ?_|exact Go.TL.Le.any _|exact Go.TL.Le.nil _|exact Go.TL.Le.own _ _ _|refine Go.TL.Le.tree rfl ?_|exact Go.TL.TLe.refl _|exact Go.TL.TLe.nil _|refine Go.TL.TLe.ags ?_|fail));exact rfl;exact rfl;exact rfl;exact rfl;exact rfl;exact rfl;exact rfl;exact rfl;exact k.p)
  | (apply Go.TL.TO.callD 3 hs;exact rfl;exact rfl;exact rfl;(repeat' (first|exact trivial|exact Go.TL.Le.refl _|refine And.intro ?_ ?_|exact Go.TL.Le.any _|exact Go.TL.Le.nil _|exact Go.TL.Le.own _ _ _|refine Go.TL.Le.tree rfl ?_|exact Go.TL.TLe.refl _|exact Go.TL.TLe.nil _|refine Go.TL.TLe.ags ?_|fail));exact rfl;exact rfl;exact rfl;exact rfl;exact rfl;exact rfl;exact rfl;exact rfl;exact k.p)):G:=h hs ⟨k⟩
theorem wkr{G:Prop}(h:G:=by
  first
  | exact RetK.pure rfl (Le.refl _) rfl
  | exact RetK.pureN rfl (Le.refl _) rfl
  | ((first|refine RetK.pure rfl ?_ rfl|refine RetK.pureN rfl ?_ rfl);repeat' (first|exact Le.refl _|exact trivial|refine Le.tup ⟨?_,?_⟩|refine And.intro ?_ ?_|exact Le.any _|refine Le.tree rfl ?_|exact TLe.refl _|exact TLe.nil _|refine TLe.ags ⟨?_,?_⟩|fail))):G:=h
end Go.Proofs.YtcbhlhmebbkgnaaGreat
namespace Go.Proofs.YtcbhlhmebbkgnaaGreat
open Go Go.TL
attribute [local irreducible] TR TO Then InBlock RetK Sound LoopK Kf GG ThenL
abbrev I64:={n:Int // -9223372036854775808≤n/\n≤9223372036854775807}
instance:Inhabited I64:=⟨⟨0,by decide⟩⟩
abbrev _root_.Go.TL.T.n (n:I64):T:=.v (.int .i64 n.1)
abbrev _root_.Go.TL.SV.n (n:I64):SV:=.t (.v (.int .i64 n.1))
inductive Ex where
 | mk (kind op t v:I64) (name:Str) (args:List Ex)
instance:Inhabited Ex:=⟨.mk default default default default [] []⟩
namespace Ex
def kind:Ex->I64| .mk k _ _ _ _ _=>k
def op:Ex->I64| .mk _ o _ _ _ _=>o
def t:Ex->I64| .mk _ _ t _ _ _=>t
def v:Ex->I64| .mk _ _ _ v _ _=>v
def name:Ex->Str| .mk _ _ _ _ n _=>n
def args:Ex->List Ex| .mk _ _ _ _ _ l=>l
end Ex
def exT:Ex->T
 | .mk k o t v n l=>.ag [T.n k,T.n o,T.n t,T.n v,.s n,.sl 6 (l.attach.map fun x=>exT x.1)]
decreasing_by
 have:=List.sizeOf_lt_of_mem x.2
 simp;omega
theorem exT_mk(k o t v:I64)(n:Str)(l:List Ex):exT (.mk k o t v n l)= .ag [T.n k,T.n o,T.n t,T.n v,.s n,.sl 6 (l.map exT)]:=by
 rw[exT];simp
def exC(e:Ex):List T:=[T.n e.kind,T.n e.op,T.n e.t,T.n e.v,.s e.name,.sl 6 (e.args.map exT)]
theorem exT_eq(e:Ex):exT e= .ag (exC e):=by cases e;rw[exT_mk];rfl
structure OnC where
 name:Str
 t:I64
 tag:I64
structure Decl where
 name:Str
 ty:I64
 clock:List OnC
structure Equ where
 left:List Str
 right:Ex
structure Tran where
 cond:Ex
 to:I64
 resume:Bool
mutual
inductive Auto where
 | mk (states:List Sta)
inductive Sta where
 | mk (name:Str) (locals:List Decl) (eqs:List Equ) (autos:List Auto) (unl unt:List Tran)
end
structure Nod where
 name:Str
 ins:List Decl
 outs:List Decl
 locals:List Decl
 eqs:List Equ
 autos:List Auto
 assume:List Ex
 ensure:List Ex
structure En where
 name:Str
 tags:List Str
structure Prog where
 enums:List En
 nodes:List Nod
namespace Auto
def states:Auto->List Sta| .mk l=>l
end Auto
namespace Sta
def name:Sta->Str| .mk n _ _ _ _ _=>n
def locals:Sta->List Decl| .mk _ l _ _ _ _=>l
def eqs:Sta->List Equ| .mk _ _ l _ _ _=>l
def autos:Sta->List Auto| .mk _ _ _ l _ _=>l
def unl:Sta->List Tran| .mk _ _ _ _ l _=>l
def unt:Sta->List Tran| .mk _ _ _ _ _ l=>l
end Sta
def onT(o:OnC):T:=.ag [.s o.name,T.n o.t,T.n o.tag]
def declT(d:Decl):T:=.ag [.s d.name,T.n d.ty,.sl 3 (d.clock.map onT)]
def equT(q:Equ):T:=.ag (.sl 1 (q.left.map T.s)::exC q.right)
def tranT(q:Tran):T:=.ag [T.n q.cond.kind,T.n q.cond.op,T.n q.cond.t,T.n q.cond.v,.s q.cond.name,.sl 6 (q.cond.args.map exT),T.n q.to,.b q.resume]
mutual
def autoT:Auto->T
 | .mk l=>.ag [.sl 6 (l.attach.map fun x=>staT x.1)]
decreasing_by
 have:=List.sizeOf_lt_of_mem x.2
 simp;omega
def staT:Sta->T
 | .mk n l q a u v=>.ag [.s n,.sl 3 (l.map declT),.sl 7 (q.map equT),.sl 1 (a.attach.map fun x=>autoT x.1),.sl 8 (u.map tranT),.sl 8 (v.map tranT)]
decreasing_by
 have:=List.sizeOf_lt_of_mem x.2
 simp;omega
end
theorem autoT_eq(a:Auto):autoT a= .ag [.sl 6 (a.states.map staT)]:=by cases a;rw[autoT];simp[Auto.states]
theorem staT_eq(s:Sta):staT s= .ag [.s s.name,.sl 3 (s.locals.map declT),.sl 7 (s.eqs.map equT),.sl 1 (s.autos.map autoT),.sl 8 (s.unl.map tranT),.sl 8 (s.unt.map tranT)]:=by
 cases s;rw[staT];simp[Sta.name,Sta.locals,Sta.eqs,Sta.autos,Sta.unl,Sta.unt]
def nodT(n:Nod):T:=.ag [.s n.name,.sl 3 (n.ins.map declT),.sl 3 (n.outs.map declT),.sl 3 (n.locals.map declT),.sl 7 (n.eqs.map equT),.sl 1 (n.autos.map autoT),.sl 6 (n.assume.map exT),.sl 6 (n.ensure.map exT)]
def enT(e:En):T:=.ag [.s e.name,.sl 1 (e.tags.map T.s)]
def wEx:Ex->Nat
 | .mk _ _ _ _ _ l=>1+(l.attach.map fun x=>wEx x.1).sum
decreasing_by
 have:=List.sizeOf_lt_of_mem x.2
 simp;omega
theorem wEx_eq(e:Ex):wEx e=1+(e.args.map wEx).sum:=by cases e;rw[wEx];simp[Ex.args]
theorem sum_mem{α:Type}(f:α->Nat):∀ {l:List α} {x:α},x∈l->f x≤(l.map f).sum
 | a::l,x,h=>by
   rcases List.mem_cons.1 h with rfl|h
   ·simp
   ·have:=sum_mem f h
    simp;omega
theorem sum_len{α:Type}(f:α->Nat)(hf:∀x,1≤f x):∀(l:List α),l.length≤(l.map f).sum
 | []=>by simp
 | a::l=>by
   have:=sum_len f hf l
   have:=hf a
   simp;omega
theorem wEx_pos(e:Ex):1≤wEx e:=by rw[wEx_eq];omega
theorem wEx_arg{e x:Ex}(h:x∈e.args):wEx x<wEx e:=by
 have:=sum_mem wEx h
 rw[wEx_eq e];omega
theorem wEx_args(e:Ex):e.args.length<wEx e:=by
 have:=sum_len wEx wEx_pos e.args
 rw[wEx_eq];omega
theorem at_map{α:Type}(f:α->T){l:List α}{k:Nat}(h:k<l.length):(l.map f)[k]?=some (f l[k]):=by simp[h]
theorem at_exT{l:List Ex}{k:Nat}(h:k<l.length):(l.map exT)[k]?=some (.ag (exC l[k])):=by simp[h,exT_eq]
end Go.Proofs.YtcbhlhmebbkgnaaGreat
namespace Go.Proofs.YtcbhlhmebbkgnaaGreat
open Go Go.TL
variable {H:Type}
theorem ty_i{n:Nat}{d:DataW H}{ts:List T}(h:TyD Tryz.prog n 3 d ts):∃i:I64,ts=[T.n i]:=by
 cases n with
 | zero=>exact h.elim
 | succ n=>
   simp only[TyD,Tryz.underlying3]at h
   obtain⟨i,rfl,rfl,hw⟩:=h
   have h2:-9223372036854775808≤i/\i≤9223372036854775807:=by
    simpa [Lit.wf,IntKind.min,IntKind.max,IntKind.signed,IntKind.bits]using hw
   exact⟨⟨i,h2⟩,rfl⟩
theorem ty_s{n:Nat}{d:DataW H}{ts:List T}(h:TyD Tryz.prog n 9 d ts):∃l:Str,ts=[T.s l]:=by
 cases n with
 | zero=>exact h.elim
 | succ n=>
   simp only[TyD,Tryz.underlying9]at h
   obtain⟨l,_,h2,_⟩:=h
   exact⟨l,h2⟩
theorem ty_b{n:Nat}{d:DataW H}{ts:List T}(h:TyD Tryz.prog n 4 d ts):∃b:Bool,ts=[T.b b]:=by
 cases n with
 | zero=>exact h.elim
 | succ n=>
   simp only[TyD,Tryz.underlying4]at h
   obtain⟨b,_,h2⟩:=h
   exact⟨b,h2⟩
theorem ty_sl{α:Type}(f:α->T){n sz:Nat}{t e:TypeId}(hu:Tryz.prog.underlying t=some (.slice e))(hs:Tryz.prog.cellsOf e=sz){d:DataW H}{ts:List T}(h:TyD Tryz.prog n t d ts)
  (dec:∀m,m<n->∀(d:DataW H) ts,TyD Tryz.prog m e d ts->∃a:α,mkT (aggB Tryz.prog e) ts=f a):∃l:List α,ts=[.sl sz (l.map f)]:=by
 cases n with
 | zero=>exact h.elim
 | succ n=>
   simp only[TyD,hu]at h
   obtain⟨els,sp,es,_,hy,hl,hm,he⟩:=h
   have key:∀(es:List T) (els:List (DataW H)),es.length=els.length->(∀(i:Nat) x y,els[i]?=some x->es[i]?=some y->y=mkT (aggB Tryz.prog e) y.cells/\TyD Tryz.prog n e x y.cells)->∃l:List α,es=l.map f:=by
    intro es
    induction es with
    | nil=>intro els _ _;exact⟨[],rfl⟩
    | cons y es ih=>
      intro els hl he
      cases els with
      | nil=>simp at hl
      | cons x els=>
        obtain⟨l,hl1⟩:=ih els (by simpa using hl) (fun i x y hx hy=>he (i+1) x y (by simpa using hx) (by simpa using hy))
        obtain⟨g1,g2⟩:=he 0 x y rfl rfl
        obtain⟨a,g3⟩:=dec n (Nat.lt_succ_self n) x y.cells g2
        exact⟨a::l,by rw[hl1,g1,g3];rfl⟩
   obtain⟨l,rfl⟩:=key es els hl he
   exact⟨l,by rw[hy,hs]⟩
theorem c1_int:Tryz.prog.cellsOf 3=1:=by kernel_rfl
theorem c1_str:Tryz.prog.cellsOf 9=1:=by kernel_rfl
theorem c1_exs:Tryz.prog.cellsOf 33=1:=by kernel_rfl
theorem c6_ex:Tryz.prog.cellsOf 35=6:=by kernel_rfl
theorem agg_ex:aggB Tryz.prog 35=true:=by unfold aggB;rw[Tryz.underlying35]
theorem ty_ex:∀(n m:Nat),m≤n->∀(d:DataW H) (ts:List T),TyD Tryz.prog m 35 d ts->∃e:Ex,ts=exC e:=by
 intro n
 induction n with
 | zero=>intro m hm d ts h;have:m=0:=by omega
         subst this;exact h.elim
 | succ n ih=>
   intro m hm d ts h
   cases m with
   | zero=>exact h.elim
   | succ m=>
     simp only[TyD,Tryz.underlying35]at h
     obtain⟨xs,rfl,hl,hx,hf⟩:=h
     rw[c6_ex]at hl
     match xs,hx,ts,hl with
     | [x0,x1,x2,x3,x4,x5],_,[a,b,c,e,g,i],_=>
       have f0:TyD Tryz.prog m 3 x0 (([a,b,c,e,g,i].drop 0).take (Tryz.prog.cellsOf 3)):=hf 0 _ x0 rfl rfl
       have f1:TyD Tryz.prog m 3 x1 (([a,b,c,e,g,i].drop 1).take (Tryz.prog.cellsOf 3)):=hf 1 _ x1 rfl rfl
       have f2:TyD Tryz.prog m 3 x2 (([a,b,c,e,g,i].drop 2).take (Tryz.prog.cellsOf 3)):=hf 2 _ x2 rfl rfl
       have f3:TyD Tryz.prog m 3 x3 (([a,b,c,e,g,i].drop 3).take (Tryz.prog.cellsOf 3)):=hf 3 _ x3 rfl rfl
       have f4:TyD Tryz.prog m 9 x4 (([a,b,c,e,g,i].drop 4).take (Tryz.prog.cellsOf 9)):=hf 4 _ x4 rfl rfl
       have f5:TyD Tryz.prog m 33 x5 (([a,b,c,e,g,i].drop 5).take (Tryz.prog.cellsOf 33)):=hf 5 _ x5 rfl rfl
       simp only[c1_int,c1_str,c1_exs,List.drop_zero,List.drop_succ_cons,List.take_succ_cons,List.take_zero]at f0 f1 f2 f3 f4 f5
       obtain⟨i0,e0⟩:=ty_i f0
       obtain⟨i1,e1⟩:=ty_i f1
       obtain⟨i2,e2⟩:=ty_i f2
       obtain⟨i3,e3⟩:=ty_i f3
       obtain⟨s4,e4⟩:=ty_s f4
       obtain⟨l,e5⟩:=ty_sl exT Tryz.underlying33 c6_ex f5 (fun k hk d ts ht=>by
        obtain⟨a,ha⟩:=ih k (by omega) d ts ht
        exact⟨a,by rw[agg_ex,ha,exT_eq];rfl⟩)
       simp only[List.cons.injEq,and_true]at e0 e1 e2 e3 e4 e5
       subst e0 e1 e2 e3 e4 e5
       exact⟨.mk i0 i1 i2 i3 s4 l,rfl⟩
end Go.Proofs.YtcbhlhmebbkgnaaGreat
namespace Go.Proofs.YtcbhlhmebbkgnaaGreat
open Go Go.TL
variable {H:Type}
theorem c1_bool:Tryz.prog.cellsOf 4=1:=by kernel_rfl
theorem agg_str:aggB Tryz.prog 9=false:=by unfold aggB;rw[Tryz.underlying9]
theorem c1_ss:Tryz.prog.cellsOf 37=1:=by kernel_rfl
theorem c1_ons:Tryz.prog.cellsOf 53=1:=by kernel_rfl
theorem cz_ons:Tryz.prog.cellsOf 83=3:=by kernel_rfl
theorem agg_on:aggB Tryz.prog 83=true:=by unfold aggB;rw[Tryz.underlying83]
theorem c1_decls:Tryz.prog.cellsOf 47=1:=by kernel_rfl
theorem cz_decls:Tryz.prog.cellsOf 55=3:=by kernel_rfl
theorem agg_decl:aggB Tryz.prog 55=true:=by unfold aggB;rw[Tryz.underlying55]
theorem c1_eqs:Tryz.prog.cellsOf 48=1:=by kernel_rfl
theorem cz_eqs:Tryz.prog.cellsOf 81=7:=by kernel_rfl
theorem agg_equ:aggB Tryz.prog 81=true:=by unfold aggB;rw[Tryz.underlying81]
theorem c1_trans:Tryz.prog.cellsOf 109=1:=by kernel_rfl
theorem cz_trans:Tryz.prog.cellsOf 154=8:=by kernel_rfl
theorem agg_tran:aggB Tryz.prog 154=true:=by unfold aggB;rw[Tryz.underlying154]
theorem c1_autos:Tryz.prog.cellsOf 49=1:=by kernel_rfl
theorem cz_autos:Tryz.prog.cellsOf 102=1:=by kernel_rfl
theorem agg_auto:aggB Tryz.prog 102=true:=by unfold aggB;rw[Tryz.underlying102]
theorem c1_states:Tryz.prog.cellsOf 100=1:=by kernel_rfl
theorem cz_states:Tryz.prog.cellsOf 111=6:=by kernel_rfl
theorem agg_sta:aggB Tryz.prog 111=true:=by unfold aggB;rw[Tryz.underlying111]
theorem c1_nodes:Tryz.prog.cellsOf 23=1:=by kernel_rfl
theorem cz_nodes:Tryz.prog.cellsOf 51=8:=by kernel_rfl
theorem agg_nod:aggB Tryz.prog 51=true:=by unfold aggB;rw[Tryz.underlying51]
theorem c1_ens:Tryz.prog.cellsOf 22=1:=by kernel_rfl
theorem cz_ens:Tryz.prog.cellsOf 75=2:=by kernel_rfl
theorem agg_en:aggB Tryz.prog 75=true:=by unfold aggB;rw[Tryz.underlying75]
theorem cz_ss:Tryz.prog.cellsOf 9=1:=by kernel_rfl
theorem cz_exs:Tryz.prog.cellsOf 35=6:=by kernel_rfl
theorem ty_on{n:Nat}{d:DataW H}{ts:List T}(h:TyD Tryz.prog n 83 d ts):∃o:OnC,ts=[.s o.name,T.n o.t,T.n o.tag]:=by
 cases n with
 | zero=>exact h.elim
 | succ m=>
   simp only[TyD,Tryz.underlying83]at h
   obtain⟨xs,rfl,hl,hx,hf⟩:=h
   rw[cz_ons]at hl
   match xs,hx,ts,hl with
   | [x0,x1,x2],_,[a,b,c],_=>
     have f0:TyD Tryz.prog m 9 x0 (([a,b,c].drop 0).take (Tryz.prog.cellsOf 9)):=hf 0 _ x0 rfl rfl
     have f1:TyD Tryz.prog m 3 x1 (([a,b,c].drop 1).take (Tryz.prog.cellsOf 3)):=hf 1 _ x1 rfl rfl
     have f2:TyD Tryz.prog m 3 x2 (([a,b,c].drop 2).take (Tryz.prog.cellsOf 3)):=hf 2 _ x2 rfl rfl
     simp only[c1_int,c1_str,List.drop_zero,List.drop_succ_cons,List.take_succ_cons,List.take_zero]at f0 f1 f2
     obtain⟨v0,e0⟩:=ty_s f0
     obtain⟨v1,e1⟩:=ty_i f1
     obtain⟨v2,e2⟩:=ty_i f2
     simp only[List.cons.injEq,and_true]at e0 e1 e2
     refine⟨⟨v0,v1,v2⟩,?_⟩
     simp_all
     try rfl
theorem ty_decl{n:Nat}{d:DataW H}{ts:List T}(h:TyD Tryz.prog n 55 d ts):∃o:Decl,ts=[.s o.name,T.n o.ty,.sl 3 (o.clock.map onT)]:=by
 cases n with
 | zero=>exact h.elim
 | succ m=>
   simp only[TyD,Tryz.underlying55]at h
   obtain⟨xs,rfl,hl,hx,hf⟩:=h
   rw[cz_decls]at hl
   match xs,hx,ts,hl with
   | [x0,x1,x2],_,[a,b,c],_=>
     have f0:TyD Tryz.prog m 9 x0 (([a,b,c].drop 0).take (Tryz.prog.cellsOf 9)):=hf 0 _ x0 rfl rfl
     have f1:TyD Tryz.prog m 3 x1 (([a,b,c].drop 1).take (Tryz.prog.cellsOf 3)):=hf 1 _ x1 rfl rfl
     have f2:TyD Tryz.prog m 53 x2 (([a,b,c].drop 2).take (Tryz.prog.cellsOf 53)):=hf 2 _ x2 rfl rfl
     simp only[c1_int,c1_ons,c1_str,List.drop_zero,List.drop_succ_cons,List.take_succ_cons,List.take_zero]at f0 f1 f2
     obtain⟨v0,e0⟩:=ty_s f0
     obtain⟨v1,e1⟩:=ty_i f1
     obtain⟨v2,e2⟩:=ty_sl onT Tryz.underlying53 cz_ons f2 (fun k hk d ts ht=>by
      obtain⟨u,hu⟩:=ty_on ht
      exact⟨u,by rw[agg_on];first|exact hu|(rw[hu];rfl)⟩)
     simp only[List.cons.injEq,and_true]at e0 e1 e2
     refine⟨⟨v0,v1,v2⟩,?_⟩
     simp_all
     try rfl
theorem ty_equ{n:Nat}{d:DataW H}{ts:List T}(h:TyD Tryz.prog n 81 d ts):∃o:Equ,mkT true ts=equT o:=by
 cases n with
 | zero=>exact h.elim
 | succ m=>
   simp only[TyD,Tryz.underlying81]at h
   obtain⟨xs,rfl,hl,hx,hf⟩:=h
   rw[cz_eqs]at hl
   match xs,hx,ts,hl with
   | [x0,x1],_,[a,b,c,e,g,i,j],_=>
     have f0:TyD Tryz.prog m 37 x0 (([a,b,c,e,g,i,j].drop 0).take (Tryz.prog.cellsOf 37)):=hf 0 _ x0 rfl rfl
     have f1:TyD Tryz.prog m 35 x1 (([a,b,c,e,g,i,j].drop 1).take (Tryz.prog.cellsOf 35)):=hf 1 _ x1 rfl rfl
     simp only[c1_ss,c6_ex,List.drop_zero,List.drop_succ_cons,List.take_succ_cons,List.take_zero]at f0 f1
     obtain⟨v0,e0⟩:=ty_sl T.s Tryz.underlying37 cz_ss f0 (fun k hk d ts ht=>by
      obtain⟨u,hu⟩:=ty_s ht
      exact⟨u,by rw[agg_str,hu];rfl⟩)
     obtain⟨v1,e1⟩:=ty_ex m m (Nat.le_refl _) _ _ f1
     unfold exC at e1
     simp only[List.cons.injEq,and_true]at e0 e1
     refine⟨⟨v0,v1⟩,?_⟩
     simp_all
     try rfl
theorem ty_tran{n:Nat}{d:DataW H}{ts:List T}(h:TyD Tryz.prog n 154 d ts):∃o:Tran,mkT true ts=tranT o:=by
 cases n with
 | zero=>exact h.elim
 | succ m=>
   simp only[TyD,Tryz.underlying154]at h
   obtain⟨xs,rfl,hl,hx,hf⟩:=h
   rw[cz_trans]at hl
   match xs,hx,ts,hl with
   | [x0,x1,x2],_,[a,b,c,e,g,i,j,k],_=>
     have f0:TyD Tryz.prog m 35 x0 (([a,b,c,e,g,i,j,k].drop 0).take (Tryz.prog.cellsOf 35)):=hf 0 _ x0 rfl rfl
     have f1:TyD Tryz.prog m 3 x1 (([a,b,c,e,g,i,j,k].drop 6).take (Tryz.prog.cellsOf 3)):=hf 1 _ x1 rfl rfl
     have f2:TyD Tryz.prog m 4 x2 (([a,b,c,e,g,i,j,k].drop 7).take (Tryz.prog.cellsOf 4)):=hf 2 _ x2 rfl rfl
     simp only[c1_bool,c1_int,c6_ex,List.drop_zero,List.drop_succ_cons,List.take_succ_cons,List.take_zero]at f0 f1 f2
     obtain⟨v0,e0⟩:=ty_ex m m (Nat.le_refl _) _ _ f0
     obtain⟨v1,e1⟩:=ty_i f1
     obtain⟨v2,e2⟩:=ty_b f2
     unfold exC at e0
     simp only[List.cons.injEq,and_true]at e0 e1 e2
     refine⟨⟨v0,v1,v2⟩,?_⟩
     simp_all
     try rfl
theorem ty_en{n:Nat}{d:DataW H}{ts:List T}(h:TyD Tryz.prog n 75 d ts):∃o:En,mkT true ts=enT o:=by
 cases n with
 | zero=>exact h.elim
 | succ m=>
   simp only[TyD,Tryz.underlying75]at h
   obtain⟨xs,rfl,hl,hx,hf⟩:=h
   rw[cz_ens]at hl
   match xs,hx,ts,hl with
   | [x0,x1],_,[a,b],_=>
     have f0:TyD Tryz.prog m 9 x0 (([a,b].drop 0).take (Tryz.prog.cellsOf 9)):=hf 0 _ x0 rfl rfl
     have f1:TyD Tryz.prog m 37 x1 (([a,b].drop 1).take (Tryz.prog.cellsOf 37)):=hf 1 _ x1 rfl rfl
     simp only[c1_ss,c1_str,List.drop_zero,List.drop_succ_cons,List.take_succ_cons,List.take_zero]at f0 f1
     obtain⟨v0,e0⟩:=ty_s f0
     obtain⟨v1,e1⟩:=ty_sl T.s Tryz.underlying37 cz_ss f1 (fun k hk d ts ht=>by
      obtain⟨u,hu⟩:=ty_s ht
      exact⟨u,by rw[agg_str,hu];rfl⟩)
     simp only[List.cons.injEq,and_true]at e0 e1
     refine⟨⟨v0,v1⟩,?_⟩
     simp_all
     try rfl
end Go.Proofs.YtcbhlhmebbkgnaaGreat
