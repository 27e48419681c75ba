import Derived.Test.YtjgmcnemcembmaaGreatDoorPk12
import Derived.Test.YtjgmcnemcembmaaGreatDoorPk13
set_option linter.unusedSimpArgs false
set_option linter.unusedVariables false
namespace Go.Proofs.YtjgmcnemcembmaaGreatDoor
open Go Go.TL
theorem hmix:Tryz.prog.follows .mixedOrders=true:=by kernel_rfl
attribute [local irreducible] TR TO Then InBlock RetK Sound LoopK Kf GG ThenL
structure Hold (Q:Prop):Prop where
 p:Q
theorem wk{G Q:Prop}(k:Q)(h:Hold Q->G:=by
  first
  | (intro k;apply Go.TL.TO.go tabOk 300 false;exact rfl;(first|apply Go.TL.GG.to|apply Go.TL.GG.stop|apply Go.TL.GG.tr0|apply Go.TL.GG.tr|apply Go.TL.GG.ex);exact k.p)
  | (intro k;apply Go.TL.TR.go0 tabOk 300 false;exact rfl;(first|apply Go.TL.GG.to|apply Go.TL.GG.stop|apply Go.TL.GG.tr0|apply Go.TL.GG.tr|apply Go.TL.GG.ex);exact k.p)
  | (intro k;apply Go.TL.TR.go tabOk 300 false;exact rfl;(first|apply Go.TL.GG.to|apply Go.TL.GG.stop|apply Go.TL.GG.tr0|apply Go.TL.GG.tr|apply Go.TL.GG.ex);exact k.p)
  | (intro k;apply Go.TL.TO.go0 tabOk 300 false;exact rfl;(first|apply Go.TL.GG.to|apply Go.TL.GG.stop|apply Go.TL.GG.tr0|apply Go.TL.GG.tr|apply Go.TL.GG.ex);exact k.p)
  | (intro k;apply Go.TL.ThenL.go;exact k.p)
  | (intro k;apply Go.TL.TExit.go tabOk 300 false;exact rfl;(first|apply Go.TL.GG.to|apply Go.TL.GG.stop|apply Go.TL.GG.tr0|apply Go.TL.GG.tr|apply Go.TL.GG.ex);exact k.p)
  | (intro k;apply Go.TL.TExit.fin;exact k.p)
  | (intro k;apply Go.TL.TO.want;exact rfl;exact k.p)
  | (intro k;apply Go.TL.TO.add;exact rfl;exact rfl;exact rfl;(first|omega|(simp only[List.length_append,List.length_cons,List.length_nil];omega));(first|omega|(simp only[List.length_append,List.length_cons,List.length_nil];omega));exact k.p)
  | (intro k;apply Go.TL.TO.sub64;exact rfl;exact rfl;exact rfl;(first|omega|(simp only[List.length_append,List.length_cons,List.length_nil];omega));(first|omega|(simp only[List.length_append,List.length_cons,List.length_nil];omega));exact k.p)
  | (intro k;apply Go.TL.TO.elem_nat tabOk;exact rfl;exact rfl;exact rfl;exact rfl;exact rfl;exact rfl;exact rfl;exact rfl;assumption;exact rfl;exact k.p)
  | (intro k;apply Go.TL.TO.elem_nat (j:=0) tabOk;exact rfl;exact rfl;exact rfl;exact rfl;exact rfl;exact rfl;exact rfl;exact rfl;exact rfl;exact rfl;exact k.p)
  | (intro k;apply Go.TL.TO.elem_nat (j:=1) tabOk;exact rfl;exact rfl;exact rfl;exact rfl;exact rfl;exact rfl;exact rfl;exact rfl;exact rfl;exact rfl;exact k.p)
  | (intro k;apply Go.TL.TO.elem_nat (j:=2) tabOk;exact rfl;exact rfl;exact rfl;exact rfl;exact rfl;exact rfl;exact rfl;exact rfl;exact rfl;exact rfl;exact k.p)
  | (intro k;apply Go.TL.TO.indexAddr tabOk;exact rfl;exact rfl;exact rfl;exact rfl;exact rfl;exact rfl;exact rfl;exact rfl;omega;assumption;exact k.p)
  | (intro k;apply Go.TL.TO.index_nat tabOk;exact rfl;exact rfl;exact rfl;exact rfl;exact rfl;assumption;exact k.p)
  | (intro k;apply Go.TL.TO.index_str tabOk;exact rfl;exact rfl;exact rfl;exact rfl;exact rfl;decide;exact rfl;exact k.p)
  | (intro k;apply Go.TL.TO.index_str tabOk;exact rfl;exact rfl;exact rfl;exact rfl;exact rfl;omega;assumption;exact k.p)
  | (intro k;apply Go.TL.TO.maxi;exact rfl;exact rfl;exact rfl;exact k.p)
  | (intro k;apply Go.TL.TO.mini;exact rfl;exact rfl;exact rfl;exact k.p)
  | (intro k;apply Go.TL.TR.regionLf hmix;decide +kernel;exact rfl;exact k.p)
  | (intro k;apply Go.TL.TR.regionL2 hmix;decide +kernel;exact rfl;exact k.p)
  | (intro k;apply Go.TL.TR.regionL1 hmix;decide +kernel;exact rfl;exact k.p)
  | (intro k;apply Go.TL.TR.regionQ hmix;kernel_rfl;exact rfl;exact k.p)
  | (intro k;apply Go.TL.TO.appendB tabOk;exact rfl;exact rfl;exact rfl;exact rfl;exact rfl;exact rfl;exact rfl;exact rfl;exact rfl;exact rfl;exact rfl;exact rfl;exact rfl;(first|omega|(simp only[List.length_append,List.length_cons,List.length_nil];omega));exact rfl;exact k.p)
  | (intro k;apply Go.TL.TO.ssl2 tabOk;exact rfl;exact rfl;exact rfl;exact rfl;exact rfl;exact rfl;exact rfl;exact rfl;exact rfl;omega;omega;exact k.p)
  | (intro k;apply Go.TL.TO.ssl_lo tabOk;exact rfl;exact rfl;exact rfl;exact rfl;exact rfl;exact rfl;exact rfl;exact rfl;omega;exact k.p)
  | (intro k;apply Go.TL.TO.ssl_hi tabOk;exact rfl;exact rfl;exact rfl;exact rfl;exact rfl;exact rfl;exact rfl;exact rfl;omega;exact k.p)
  | (intro k;apply Go.TL.TO.slice2 tabOk;exact rfl;exact rfl;exact rfl;exact rfl;exact rfl;exact rfl;omega;omega;exact k.p)
  | (intro k;apply Go.TL.TO.slice_lo tabOk;exact rfl;exact rfl;exact rfl;exact rfl;exact rfl;omega;exact k.p)
  | (intro k;apply Go.TL.TO.slice_hi tabOk;exact rfl;exact rfl;exact rfl;exact rfl;exact rfl;omega;exact k.p)
  | (intro k;apply Go.TL.TO.convert_u8;exact rfl;kernel_rfl;kernel_rfl;exact rfl;exact k.p)
  | (intro k;apply Go.TL.TO.eqb;exact rfl;exact rfl;exact rfl;kernel_rfl;exact k.p)
  | (intro k;apply Go.TL.TO.neb;exact rfl;exact rfl;exact rfl;kernel_rfl;exact k.p)
  | (intro k;apply Go.TL.TO.go tabOk 0 false;exact rfl;(first|apply Go.TL.GG.to|apply Go.TL.GG.stop|apply Go.TL.GG.tr0|apply Go.TL.GG.tr|apply Go.TL.GG.ex);exact k.p)
  | (intro k;apply Go.TL.TR.go0 tabOk 0 false;exact rfl;(first|apply Go.TL.GG.to|apply Go.TL.GG.stop|apply Go.TL.GG.tr0|apply Go.TL.GG.tr|apply Go.TL.GG.ex);exact k.p)
  | (intro k;apply Go.TL.TR.go tabOk 0 false;exact rfl;(first|apply Go.TL.GG.to|apply Go.TL.GG.stop|apply Go.TL.GG.tr0|apply Go.TL.GG.tr|apply Go.TL.GG.ex);exact k.p)
  | (intro k;apply Go.TL.TO.go0 tabOk 0 false;exact rfl;(first|apply Go.TL.GG.to|apply Go.TL.GG.stop|apply Go.TL.GG.tr0|apply Go.TL.GG.tr|apply Go.TL.GG.ex);exact k.p)
  | (intro k;apply Go.TL.TExit.go tabOk 0 false;exact rfl;(first|apply Go.TL.GG.to|apply Go.TL.GG.stop|apply Go.TL.GG.tr0|apply Go.TL.GG.tr|apply Go.TL.GG.ex);exact k.p)
  | (intro k;apply Go.TL.LoopK.exit;exact k.p)
  | (intro k;apply Go.TL.LoopK.ret;exact k.p)):G:=h ⟨k⟩
theorem wkt{G Q:Prop}(k:Q)(h:Hold Q->G:=by
  first
  | (intro k;apply Go.TL.TO.go tabOk 300 true;exact rfl;(first|apply Go.TL.GG.to|apply Go.TL.GG.stop|apply Go.TL.GG.tr0|apply Go.TL.GG.tr|apply Go.TL.GG.ex);exact k.p)
  | (intro k;apply Go.TL.TR.go0 tabOk 300 true;exact rfl;(first|apply Go.TL.GG.to|apply Go.TL.GG.stop|apply Go.TL.GG.tr0|apply Go.TL.GG.tr|apply Go.TL.GG.ex);exact k.p)
  | (intro k;apply Go.TL.TR.go tabOk 300 true;exact rfl;(first|apply Go.TL.GG.to|apply Go.TL.GG.stop|apply Go.TL.GG.tr0|apply Go.TL.GG.tr|apply Go.TL.GG.ex);exact k.p)
  | (intro k;apply Go.TL.TO.go0 tabOk 300 true;exact rfl;(first|apply Go.TL.GG.to|apply Go.TL.GG.stop|apply Go.TL.GG.tr0|apply Go.TL.GG.tr|apply Go.TL.GG.ex);exact k.p)
  | (intro k;apply Go.TL.TExit.go tabOk 300 true;exact rfl;(first|apply Go.TL.GG.to|apply Go.TL.GG.stop|apply Go.TL.GG.tr0|apply Go.TL.GG.tr|apply Go.TL.GG.ex);exact k.p)
  | (intro k;apply Go.TL.TO.allocC tabOk;exact rfl;exact rfl;exact rfl;exact rfl;exact rfl;exact rfl;exact Nat.le_of_ble_eq_true rfl;exact k.p)):G:=h ⟨k⟩
theorem wkb{G Q:Prop}(k:Q)(h:Hold Q->G:=by
  first
  | (intro k;apply Go.TL.TO.go tabOk 300 true;exact rfl;(first|apply Go.TL.GG.to|apply Go.TL.GG.stop|apply Go.TL.GG.tr0|apply Go.TL.GG.tr|apply Go.TL.GG.ex);exact k.p)
  | (intro k;apply Go.TL.TR.go0 tabOk 300 true;exact rfl;(first|apply Go.TL.GG.to|apply Go.TL.GG.stop|apply Go.TL.GG.tr0|apply Go.TL.GG.tr|apply Go.TL.GG.ex);exact k.p)
  | (intro k;apply Go.TL.TR.go tabOk 300 true;exact rfl;(first|apply Go.TL.GG.to|apply Go.TL.GG.stop|apply Go.TL.GG.tr0|apply Go.TL.GG.tr|apply Go.TL.GG.ex);exact k.p)
  | (intro k;apply Go.TL.TO.go0 tabOk 300 true;exact rfl;(first|apply Go.TL.GG.to|apply Go.TL.GG.stop|apply Go.TL.GG.tr0|apply Go.TL.GG.tr|apply Go.TL.GG.ex);exact k.p)
  | (intro k;apply Go.TL.TExit.go tabOk 300 true;exact rfl;(first|apply Go.TL.GG.to|apply Go.TL.GG.stop|apply Go.TL.GG.tr0|apply Go.TL.GG.tr|apply Go.TL.GG.ex);exact k.p)):G:=h ⟨k⟩
theorem wu{G Q:Prop}(k:Q)(h:Hold Q->G:=by first|(intro k;exact wkt k.p)|(intro k;exact wk k.p)):G:=h ⟨k⟩
theorem wk2{G Q1 Q2:Prop}(k1:Q1)(k2:Q2)(h:Hold Q1->Hold Q2->G:=by
  intro k1 k2
  first
  | (apply Go.TL.TO.ceq;exact rfl;exact rfl;exact rfl;exact k1.p;exact k2.p)
  | (apply Go.TL.TO.cne;exact rfl;exact rfl;exact rfl;exact k1.p;exact k2.p)
  | (apply Go.TL.TO.clt;exact rfl;exact rfl;exact rfl;exact k1.p;exact k2.p)
  | (apply Go.TL.TO.cle;exact rfl;exact rfl;exact rfl;exact k1.p;exact k2.p)
  | (apply Go.TL.TO.cgt;exact rfl;exact rfl;exact rfl;exact k1.p;exact k2.p)
  | (apply Go.TL.TO.cge;exact rfl;exact rfl;exact rfl;exact k1.p;exact k2.p)
  | (apply Go.TL.TO.seq';exact rfl;exact rfl;exact rfl;exact k1.p;exact k2.p)
  | (apply Go.TL.TO.sne';exact rfl;exact rfl;exact rfl;exact k1.p;exact k2.p)
  | (apply Go.TL.TR.condB;exact rfl;exact k1.p;exact k2.p)):G:=h ⟨k1⟩ ⟨k2⟩
theorem wkc{G:Prop}(h:G:=by
  first
  | (intro hc;exact absurd hc (by decide))
  | (intro hc;exfalso;simp only[List.length_cons,List.length_nil]at hc;omega)
  | (intro hc;exfalso;simp only[decide_eq_true_eq,decide_eq_false_iff_not,beq_iff_eq,beq_eq_false_iff_ne,bne_iff_ne,bne_eq_false_iff_eq,ne_eq,Decidable.not_not,not_true_eq_false]at hc <;> omega)
  | (intro hc;exfalso;omega)):G:=h
theorem wv{G Q:Prop}{f:FuncId}{cargs:List SV}{v:SV}(hs:Pure Tryz.prog f cargs v)(k:Q)(h:Pure Tryz.prog f cargs v->Hold Q->G:=by
  intro hs k
  first
  | (apply Go.TL.TO.callV hs;exact rfl;exact rfl;exact rfl;(repeat' (first|exact trivial|exact Go.TL.Le.refl _|refine And.intro ?_ ?_|exact Go.TL.Le.any _|exact Go.TL.Le.nil _|exact Go.TL.Le.own _ _ _|refine Go.TL.Le.tree rfl ?_|exact Go.TL.TLe.refl _|exact Go.TL.TLe.nil _|refine Go.TL.TLe.ags ?_|fail));exact rfl;exact rfl;exact k.p)
  | (apply Go.TL.TO.callB hs;exact rfl;exact rfl;exact rfl;(repeat' (first|exact trivial|exact Go.TL.LeB.t _|exact Go.TL.LeB.cp _ _|exact Go.TL.LeB.fn0 _|exact Go.TL.LeB.any _|refine And.intro ?_ ?_|fail));exact Go.TL.Rigid.v _;exact k.p)):G:=h hs ⟨k⟩
theorem wb{G Q1 Q2:Prop}{f:FuncId}{cargs:List SV}{b:Bool}(hs:Pure Tryz.prog f cargs (.t (.v (.bool b))))(k1:Q1)(k2:Q2)(h:Pure Tryz.prog f cargs (.t (.v (.bool b)))->Hold Q1->Hold Q2->G:=by
  intro hs k1 k2
  apply Go.TL.TO.callBb hs;exact rfl;exact rfl;exact rfl
  (repeat' (first|exact trivial|exact Go.TL.LeB.t _|exact Go.TL.LeB.cp _ _|exact Go.TL.LeB.fn0 _|exact Go.TL.LeB.any _|refine And.intro ?_ ?_|refine Go.TL.LeB.tree rfl ?_|exact Go.TL.TLe.refl _|exact Go.TL.TLe.nil _|refine Go.TL.TLe.ags ?_|fail))
  exact k1.p
  exact k2.p):G:=h hs ⟨k1⟩ ⟨k2⟩
theorem wd{G Q:Prop}{f:FuncId}{cargs:List SV}{v:SV}{Hc Hc1:Heap}(hs:Sound Tryz.prog f cargs Hc fun r H'=>r= .ret v/\H'=Hc1)(k:Q)(h:(Sound Tryz.prog f cargs Hc fun r H'=>r= .ret v/\H'=Hc1)->Hold Q->G:=by
  intro hs k
  first
  | (apply Go.TL.TO.callD 1 hs;exact rfl;exact rfl;exact rfl;(repeat' (first|exact trivial|exact Go.TL.Le.refl _|refine And.intro ?_ ?_|exact Go.TL.Le.any _|exact Go.TL.Le.nil _|exact Go.TL.Le.own _ _ _|refine Go.TL.Le.tree rfl ?_|exact Go.TL.TLe.refl _|exact Go.TL.TLe.nil _|refine Go.TL.TLe.ags ?_|fail));exact rfl;exact rfl;exact rfl;exact rfl;exact rfl;exact rfl;exact rfl;exact rfl;exact k.p)
  | (apply Go.TL.TO.callD 2 hs;exact rfl;exact rfl;exact rfl;(repeat' (first|exact trivial|exact Go.TL.Le.refl _|refine And.intro ?_ ?_|exact Go.TL.Le.any _|exact Go.TL.Le.nil _|exact Go.TL.Le.own _ _ _|refine Go.TL.Le.tree rfl ?_|exact Go.TL.TLe.refl _|exact Go.TL.TLe.nil _|refine Go.TL.TLe.ags ?_|fail));exact rfl;exact rfl;exact rfl;exact rfl;exact rfl;exact rfl;exact rfl;exact rfl;exact k.p)
  | (apply Go.TL.TO.callD 3 hs;exact rfl;exact rfl;exact rfl;(repeat' (first|exact trivial|exact Go.TL.Le.refl _|refine And.intro ?_ ?_|exact Go.TL.Le.any _|exact Go.TL.Le.nil _|exact Go.TL.Le.own _ _ _|refine Go.TL.Le.tree rfl ?_|exact Go.TL.TLe.refl _|exact Go.TL.TLe.nil _|refine Go.TL.TLe.ags ?_|fail));exact rfl;exact rfl;exact rfl;exact rfl;exact rfl;exact rfl;exact rfl;exact rfl;exact k.p)):G:=h hs ⟨k⟩
theorem wkr{G:Prop}(h:G:=by
  first
  | exact RetK.pure rfl (Le.refl _) rfl
  | exact RetK.pureN rfl (Le.refl _) rfl
  | ((first|refine RetK.pure rfl ?_ rfl|refine RetK.pureN rfl ?_ rfl);repeat' (first|exact Le.refl _|exact trivial|refine Le.tup ⟨?_,?_⟩|refine And.intro ?_ ?_|exact Le.any _|refine Le.tree rfl ?_|exact TLe.refl _|exact TLe.nil _|refine TLe.ags ⟨?_,?_⟩|fail))):G:=h
end Go.Proofs.YtjgmcnemcembmaaGreatDoor
namespace Go.Proofs.YtjgmcnemcembmaaGreatDoor
open Go Go.TL
attribute [local irreducible] TR TO Then InBlock RetK Sound LoopK Kf GG ThenL
abbrev I64:={n:Int // -9223372036854775808≤n/\n≤9223372036854775807}
instance:Inhabited I64:=⟨⟨0,by decide⟩⟩
abbrev _root_.Go.TL.T.n (n:I64):T:=.v (.int .i64 n.1)
abbrev _root_.Go.TL.SV.n (n:I64):SV:=.t (.v (.int .i64 n.1))
inductive Ex where
 | mk (kind op t v:I64) (name:Str) (args:List Ex)
instance:Inhabited Ex:=⟨.mk default default default default [] []⟩
namespace Ex
def kind:Ex->I64| .mk k _ _ _ _ _=>k
def op:Ex->I64| .mk _ o _ _ _ _=>o
def t:Ex->I64| .mk _ _ t _ _ _=>t
def v:Ex->I64| .mk _ _ _ v _ _=>v
def name:Ex->Str| .mk _ _ _ _ n _=>n
def args:Ex->List Ex| .mk _ _ _ _ _ l=>l
end Ex
def exT:Ex->T
 | .mk k o t v n l=>.ag [T.n k,T.n o,T.n t,T.n v,.s n,.sl 6 (l.attach.map fun x=>exT x.1)]
decreasing_by
 have:=List.sizeOf_lt_of_mem x.2
 simp;omega
theorem exT_mk(k o t v:I64)(n:Str)(l:List Ex):exT (.mk k o t v n l)= .ag [T.n k,T.n o,T.n t,T.n v,.s n,.sl 6 (l.map exT)]:=by
 rw[exT];simp
def exC(e:Ex):List T:=[T.n e.kind,T.n e.op,T.n e.t,T.n e.v,.s e.name,.sl 6 (e.args.map exT)]
theorem exT_eq(e:Ex):exT e= .ag (exC e):=by cases e;rw[exT_mk];rfl
structure OnC where
 name:Str
 t:I64
 tag:I64
structure Decl where
 name:Str
 ty:I64
 clock:List OnC
structure Equ where
 left:List Str
 right:Ex
structure Tran where
 cond:Ex
 to:I64
 resume:Bool
mutual
inductive Auto where
 | mk (states:List Sta)
inductive Sta where
 | mk (name:Str) (locals:List Decl) (eqs:List Equ) (autos:List Auto) (unl unt:List Tran)
end
structure Nod where
 name:Str
 ins:List Decl
 outs:List Decl
 locals:List Decl
 eqs:List Equ
 autos:List Auto
 assume:List Ex
 ensure:List Ex
structure En where
 name:Str
 tags:List Str
structure Prog where
 enums:List En
 nodes:List Nod
namespace Auto
def states:Auto->List Sta| .mk l=>l
end Auto
namespace Sta
def name:Sta->Str| .mk n _ _ _ _ _=>n
def locals:Sta->List Decl| .mk _ l _ _ _ _=>l
def eqs:Sta->List Equ| .mk _ _ l _ _ _=>l
def autos:Sta->List Auto| .mk _ _ _ l _ _=>l
def unl:Sta->List Tran| .mk _ _ _ _ l _=>l
def unt:Sta->List Tran| .mk _ _ _ _ _ l=>l
end Sta
def onT(o:OnC):T:=.ag [.s o.name,T.n o.t,T.n o.tag]
def declT(d:Decl):T:=.ag [.s d.name,T.n d.ty,.sl 3 (d.clock.map onT)]
def equT(q:Equ):T:=.ag (.sl 1 (q.left.map T.s)::exC q.right)
def tranT(q:Tran):T:=.ag [T.n q.cond.kind,T.n q.cond.op,T.n q.cond.t,T.n q.cond.v,.s q.cond.name,.sl 6 (q.cond.args.map exT),T.n q.to,.b q.resume]
mutual
def autoT:Auto->T
 | .mk l=>.ag [.sl 6 (l.attach.map fun x=>staT x.1)]
decreasing_by
 have:=List.sizeOf_lt_of_mem x.2
 simp;omega
def staT:Sta->T
 | .mk n l q a u v=>.ag [.s n,.sl 3 (l.map declT),.sl 7 (q.map equT),.sl 1 (a.attach.map fun x=>autoT x.1),.sl 8 (u.map tranT),.sl 8 (v.map tranT)]
decreasing_by
 have:=List.sizeOf_lt_of_mem x.2
 simp;omega
end
theorem autoT_eq(a:Auto):autoT a= .ag [.sl 6 (a.states.map staT)]:=by cases a;rw[autoT];simp[Auto.states]
theorem staT_eq(s:Sta):staT s= .ag [.s s.name,.sl 3 (s.locals.map declT),.sl 7 (s.eqs.map equT),.sl 1 (s.autos.map autoT),.sl 8 (s.unl.map tranT),.sl 8 (s.unt.map tranT)]:=by
 cases s;rw[staT];simp[Sta.name,Sta.locals,Sta.eqs,Sta.autos,Sta.unl,Sta.unt]
def nodT(n:Nod):T:=.ag [.s n.name,.sl 3 (n.ins.map declT),.sl 3 (n.outs.map declT),.sl 3 (n.locals.map declT),.sl 7 (n.eqs.map equT),.sl 1 (n.autos.map autoT),.sl 6 (n.assume.map exT),.sl 6 (n.ensure.map exT)]
def enT(e:En):T:=.ag [.s e.name,.sl 1 (e.tags.map T.s)]
def wEx:Ex->Nat
 | .mk _ _ _ _ _ l=>1+(l.attach.map fun x=>wEx x.1).sum
decreasing_by
 have:=List.sizeOf_lt_of_mem x.2
 simp;omega
theorem wEx_eq(e:Ex):wEx e=1+(e.args.map wEx).sum:=by cases e;rw[wEx];simp[Ex.args]
theorem sum_mem{α:Type}(f:α->Nat):∀ {l:List α} {x:α},x∈l->f x≤(l.map f).sum
 | a::l,x,h=>by
   rcases List.mem_cons.1 h with rfl|h
   ·simp
   ·have:=sum_mem f h
    simp;omega
theorem sum_len{α:Type}(f:α->Nat)(hf:∀x,1≤f x):∀(l:List α),l.length≤(l.map f).sum
 | []=>by simp
 | a::l=>by
   have:=sum_len f hf l
   have:=hf a
   simp;omega
theorem wEx_pos(e:Ex):1≤wEx e:=by rw[wEx_eq];omega
theorem wEx_arg{e x:Ex}(h:x∈e.args):wEx x<wEx e:=by
 have:=sum_mem wEx h
 rw[wEx_eq e];omega
theorem wEx_args(e:Ex):e.args.length<wEx e:=by
 have:=sum_len wEx wEx_pos e.args
 rw[wEx_eq];omega
theorem at_map{α:Type}(f:α->T){l:List α}{k:Nat}(h:k<l.length):(l.map f)[k]?=some (f l[k]):=by simp[h]
theorem at_exT{l:List Ex}{k:Nat}(h:k<l.length):(l.map exT)[k]?=some (.ag (exC l[k])):=by simp[h,exT_eq]
end Go.Proofs.YtjgmcnemcembmaaGreatDoor
namespace Go.Proofs.YtjgmcnemcembmaaGreatDoor
open Go Go.TL
attribute [local irreducible] TR TO Then InBlock RetK Sound LoopK Kf GG ThenL
def inW(v:Int):Bool:=decide (-32768≤v) && decide (v≤32767)
theorem in_sound(v:Int):Pure Tryz.prog 79 [.i v] (.b (inW v)):=by
 refine so Tryz.func79 ?_
 repeat' (first|refine wk ?_|exact wkc|intro hc|refine wk2 ?_ ?_|fail)
 all_goals try(refine RetK.pure rfl ?_ rfl;exact Le.of_eq (by simp_all [pack,inW] <;> omega))
abbrev ensT (es:List En):T:=.sl 2 (es.map enT)
def enumOf(es:List En)(t:Int):En×Bool:=
 if 3≤t/\t-3<es.length then(match es[(t-3).toNat]? with|some e=>(e,true)|none=>(⟨[],[]⟩,false)) else(⟨[],[]⟩,false)
def sizeOfT(es:List En)(t:Int):Int:=
 if t=1 then 2 else if t=2 then 65536 else((enumOf es t).1.tags.length:Int)
def hasT(es:List En)(t v:Int):Bool:=if t=2 then inW v else decide (0≤v) && decide (v<sizeOfT es t)
theorem enum_sound(es:List En)(t:I64):Pure Tryz.prog 115 [.t (ensT es),.n t] (.tup [.t (enT (enumOf es t.1).1),.b (enumOf es t.1).2]):=by
 obtain⟨t,ht1,ht2⟩:=t
 dsimp only[SV.n]
 refine so Tryz.func115 ?_
 have hl:(es.map enT).length=es.length:=List.length_map _
 by_cases h:3≤t/\t-3<es.length
 ·obtain⟨h1,h2⟩:=h
  have hlt:(t-3).toNat<es.length:=by omega
  have hx:=at_map enT hlt
  repeat' (first|refine wk ?_|exact wkc|intro hc|refine wk2 ?_ ?_|fail)
  simp only[enumOf,h1,h2,hlt,enT,and_self,if_true,List.getElem?_eq_getElem]
  exact wkr
 ·repeat' (first|refine wk ?_|exact wkc|intro hc|refine wk2 ?_ ?_|fail)
  all_goals
   simp only[enumOf,h,enT,if_false]
   exact wkr
theorem size_sound(es:List En)(t:I64):Pure Tryz.prog 80 [.t (ensT es),.n t] (.i (sizeOfT es t.1)):=by
 refine so Tryz.func80 ?_
 repeat' (first|refine wk ?_|exact wkc|intro hc|refine wk2 ?_ ?_|refine wv (enum_sound es t) ?_|fail)
 ·refine RetK.pure rfl (Le.of_eq ?_) rfl
  simp[pack,sizeOfT,hc]
 ·refine RetK.pure rfl (Le.of_eq ?_) rfl
  simp[pack,sizeOfT,hc]
 ·refine RetK.pure rfl (Le.of_eq ?_) rfl
  simp[pack,sizeOfT, *]
theorem sizeR_sound(es:List En)(t:I64):Pure Tryz.prog 81 [.t (ensT es),.n t] (.i (sizeOfT es t.1)):=by
 obtain⟨t,ht1,ht2⟩:=t
 dsimp only[SV.n]
 refine so Tryz.func81 ?_
 have hl:(es.map enT).length=es.length:=List.length_map _
 by_cases h:3≤t/\t-3<es.length
 ·obtain⟨h1,h2⟩:=h
  have hlt:(t-3).toNat<es.length:=by omega
  have hx:=at_map enT hlt
  repeat' (first|refine wk ?_|exact wkc|intro hc|refine wk2 ?_ ?_|fail)
  refine RetK.pure rfl (Le.of_eq ?_) rfl
  have e1:t≠1:=by omega
  have e2:t≠2:=by omega
  simp[pack,sizeOfT,enumOf,h1,h2,hlt,e1,e2]
 ·repeat' (first|refine wk ?_|exact wkc|intro hc|refine wk2 ?_ ?_|fail)
  all_goals
   refine RetK.pure rfl (Le.of_eq ?_) rfl
   simp[pack,sizeOfT,enumOf, *]
theorem has_sound(es:List En)(t v:I64):Pure Tryz.prog 40 [.t (ensT es),.n t,.n v] (.b (hasT es t.1 v.1)):=by
 refine so Tryz.func40 ?_
 repeat' (first|refine wk ?_|exact wkc|intro hc|refine wk2 ?_ ?_|refine wv (in_sound v.1) ?_|refine wv (size_sound es t) ?_|fail)
 all_goals
  refine RetK.pure rfl (Le.of_eq ?_) rfl
  simp_all [pack,hasT] <;> omega
theorem hasR_sound(es:List En)(t v:I64):Pure Tryz.prog 42 [.t (ensT es),.n t,.n v] (.b (hasT es t.1 v.1)):=by
 refine so Tryz.func42 ?_
 repeat' (first|refine wk ?_|exact wkc|intro hc|refine wk2 ?_ ?_|refine wv (sizeR_sound es t) ?_|fail)
 all_goals
  refine RetK.pure rfl (Le.of_eq ?_) rfl
  simp_all [pack,hasT,inW] <;> omega
inductive PR (α:Type) where
 | ok (v:α) (i:Nat)
 | er (k:Nat) (c:Int)
def PR.bind{α β:Type}:PR α->(α->Nat->PR β)->PR β
 | .ok v i,f=>f v i
 | .er k c,_=>.er k c
structure Rd where
 K:List (Int×Str)
 es:List En
def Rd.isAt(R:Rd)(i:Nat)(s:Str):Bool:=match R.K[i]? with
 | some t=>(decide (t.1=3) || decide (t.1=4)) && decide (t.2=s)
 | none=>false
def Rd.kind(R:Rd)(i:Nat)(k:Int):Bool:=match R.K[i]? with
 | some t=>decide (t.1=k)
 | none=>false
def Rd.txt(R:Rd)(i:Nat):Str:=match R.K[i]? with
 | some t=>t.2
 | none=>[]
def Rd.must(R:Rd):List Str->Nat->PR Unit
 | [],i=>.ok () i
 | s::ss,i=>if R.isAt i s=true then R.must ss (i+1) else .er i 5
def Rd.id(R:Rd)(i:Nat):PR Str:=if R.kind i 1=true then .ok (R.txt i) (i+1) else .er i 5
def idxOf(s:Str):Nat->List Str->Option Nat
 | _,[]=>none
 | k,t::l=>if t=s then some k else idxOf s (k+1) l
def tagFrom(s:Str):Nat->List En->Option (Nat×Nat)
 | _,[]=>none
 | k,u::l=>match idxOf s 0 u.tags with
   | some j=>some (3+k,j)
   | none=>tagFrom s (k+1) l
def Rd.tag(R:Rd)(s:Str):Option (Nat×Nat):=tagFrom s 0 R.es
def Rd.aTag(R:Rd)(i:Nat):PR (Nat×Nat):=
 if R.isAt i [116,114,117,101]=true then .ok (1,1) (i+1) else if R.isAt i [102,97,108,115,101]=true then .ok (1,0) (i+1) else
 (R.id i).bind fun s j=>match R.tag s with
   | some tv=>.ok tv j
   | none=>.er (j-1) 6
def toI(x:Int):I64:=if h:-9223372036854775808≤x/\x≤9223372036854775807 then⟨x,h⟩ else⟨0,by decide⟩
def Rd.sampling(R:Rd)(i:Nat):PR OnC:=
 (R.aTag i).bind fun tv i=>(R.must [[40]] i).bind fun _ i=>(R.id i).bind fun s i=>(R.must [[41]] i).bind fun _ i=>.ok ⟨s,toI tv.1,toI tv.2⟩ i
def numV(s:Str):Int:=s.foldl (fun n c=>10*n+((c.toNat:Int)-48)) 0
def mkE(k o t v:Int)(s:Str)(l:List Ex):Ex:=.mk (toI k) (toI o) (toI t) (toI v) s l
def operI(n:Nat)(s:Str):Option Int:=
 if n=0 then(if s=[111,114] then some 4 else if s=[120,111,114] then some 5 else none)
 else if n=1 then(if s=[97,110,100] then some 3 else none)
 else if n=3 then(if s=[61] then some 11 else if s=[60,62] then some 12 else if s=[60] then some 13 else if s=[60,61] then some 14 else if s=[62] then some 15 else if s=[62,61] then some 16 else none)
 else if n=4 then(if s=[43] then some 6 else if s=[45] then some 7 else none)
 else(if s=[42] then some 8 else if s=[47] then some 9 else if s=[109,111,100] then some 10 else none)
def Rd.oper(R:Rd)(n i:Nat):Option Int:=if(R.kind i 3 || R.kind i 4)=true then operI n (R.txt i) else none
def Rd.neg(R:Rd)(i:Nat):Bool:=R.isAt i [45] && R.kind (i+1) 2
def Rd.ops(R:Rd)(f:Nat->PR Ex)(n:Nat):Nat->Ex->Nat->PR Ex
 | 0,a,i=>.ok a i
 | m+1,a,i=>match R.oper n i with
   | none=>.ok a i
   | some op=>(f (i+1)).bind fun b j=>if n=3 then .ok (mkE 3 op 0 0 [] [a,b]) j else R.ops f n m (mkE 3 op 0 0 [] [a,b]) j
def Rd.whens(R:Rd):Nat->Ex->Nat->PR Ex
 | 0,e,i=>.ok e i
 | m+1,e,i=>if R.isAt i [119,104,101,110]=true then(R.sampling (i+1)).bind fun o j=>R.whens m (.mk (toI 8) (toI 0) o.t o.tag o.name [e]) j else .ok e i
def Rd.args(R:Rd)(f:Nat->PR Ex):Nat->List Ex->Nat->PR (List Ex)
 | 0,l,i=>.ok l i
 | m+1,l,i=>if R.isAt i [44]=true then(f (i+1)).bind fun b j=>R.args f m (l++[b]) j else .ok l i
def Rd.call(R:Rd)(f g:Nat->PR Ex)(s:Str)(i:Nat):PR Ex:=
 (if R.isAt i [41]=true then .ok [] (i+1) else(f i).bind fun a j=>(R.args f R.K.length [a] j).bind fun l j=>(R.must [[41]] j).bind fun _ j=>.ok l j:PR (List Ex)).bind fun l j=>
 if R.isAt j [101,118,101,114,121]=true then(g (j+1)).bind fun a j=>.ok (mkE 10 0 0 1 s (l++[a])) j else .ok (mkE 10 0 0 0 s l) j
def Rd.wanted(R:Rd)(t v:Nat)(known:Bool)(i:Nat):PR Unit:=
 if R.isAt i [116,114,117,101]=true then(if known=true/\t≠1\/v≠1 then .er i 5 else .ok () i)
 else if R.isAt i [102,97,108,115,101]=true then(if known=true/\t≠1\/v=1\/known=false then .er i 5 else .ok () i)
 else if R.kind i 1=false then .er i 5
 else match R.tag (R.txt i) with
  | some uw=>if known=true/\(uw.1≠t\/uw.2≠v)\/known=false/\uw.2≠0 then .er i 5 else .ok () i
  | none=>if known=true then .er i 5 else .ok () i
def Rd.size(R:Rd)(t:Nat):Nat:=if t=1 then 2 else if t=2 then 65536 else match R.es[t-3]? with
 | some u=>u.tags.length
 | none=>0
def Rd.branch(R:Rd)(f:Nat->PR Ex)(t v:Nat)(known:Bool)(i:Nat):PR (Nat×Ex):=
 (R.must [[40]] i).bind fun _ i=>(R.wanted t v known i).bind fun _ _=>(R.aTag i).bind fun tv j=>
 if known=true/\tv.1≠t then .er i 5 else(R.must [[45,62]] j).bind fun _ j=>(f j).bind fun e j=>(R.must [[41]] j).bind fun _ j=>.ok (tv.1,e) j
def Rd.branches(R:Rd)(f:Nat->PR Ex)(t size:Nat):Nat->Nat->List Ex->Nat->PR (List Ex)
 | 0,_,l,i=>.ok l i
 | m+1,k,l,i=>if size≤k then .ok l i else
   (R.branch f t (if t=1 then 1-k else k) true i).bind fun te j=>R.branches f t size m (k+1) (l.set (if t=1 then 1-k else k) te.2) j
def noE:Ex:=mkE 0 0 0 0 [] []
def Rd.merge(R:Rd)(f:Nat->PR Ex)(i:Nat):PR Ex:=
 (R.id i).bind fun s i=>(R.branch f 0 (if R.isAt (i+1) [116,114,117,101]=true then 1 else 0) false i).bind fun te j=>
 (R.branches f te.1 (R.size te.1) (R.size te.1) 1 ((List.replicate (R.size te.1) noE).set (if R.isAt (i+1) [116,114,117,101]=true then 1 else 0) te.2) j).bind fun l j=>
 .ok (mkE 9 0 te.1 0 s l) j
def Rd.ident(R:Rd)(f g:Nat->PR Ex)(i:Nat):PR Ex:=
 (R.id i).bind fun s j=>if R.isAt j [40]=true then R.call f g s (j+1) else match R.tag s with
   | some tv=>.ok (mkE 1 0 tv.1 tv.2 [] []) j
   | none=>.ok (mkE 2 0 0 0 s []) j
def Rd.prim(R:Rd)(f g:Nat->PR Ex)(i:Nat):PR Ex:=
 if R.neg i=true then .ok (mkE 1 0 2 (-numV (R.txt (i+1))) [] []) (i+2)
 else if R.isAt i [45]=true then .er (i+1) 5
 else if R.kind i 2=true then(if 32767<numV (R.txt i) then .er i 14 else .ok (mkE 1 0 2 (numV (R.txt i)) [] []) (i+1))
 else if R.kind i 5=true then .ok (mkE 11 0 0 0 (R.txt i) []) (i+1)
 else if R.isAt i [116,114,117,101]=true then .ok (mkE 1 0 1 1 [] []) (i+1)
 else if R.isAt i [102,97,108,115,101]=true then .ok (mkE 1 0 1 0 [] []) (i+1)
 else if R.isAt i [40]=true then(f (i+1)).bind fun e j=>(R.must [[41]] j).bind fun _ j=>.ok e j
 else if R.isAt i [105,102]=true then(f (i+1)).bind fun c j=>(R.must [[116,104,101,110]] j).bind fun _ j=>(f j).bind fun a j=>(R.must [[101,108,115,101]] j).bind fun _ j=>(f j).bind fun b j=>.ok (mkE 4 0 0 0 [] [c,a,b]) j
 else if R.isAt i [109,101,114,103,101]=true then R.merge f (i+1)
 else R.ident f g i
inductive G where
 | expr
 | level (n:Nat)
 | unary
 | prim
def pF(R:Rd):Nat->G->Nat->PR Ex
 | 0,_,i=>.er i 5
 | m+1,.expr,i=>(pF R m (.level 0) i).bind fun a j=>
   if R.isAt j [45,62]=true then(pF R m .expr (j+1)).bind fun b k=>.ok (mkE 6 0 0 0 [] [a,b]) k
   else if R.isAt j [102,98,121]=true then(pF R m .expr (j+1)).bind fun b k=>.ok (mkE 7 0 0 0 [] [a,b]) k
   else .ok a j
 | m+1,.level n,i=>
   if n=2 then(if R.isAt i [110,111,116]=true then(pF R m (.level 2) (i+1)).bind fun a j=>.ok (mkE 3 1 0 0 [] [a]) j else pF R m (.level 3) i)
   else if n=6 then pF R m .unary i
   else(pF R m (.level (n+1)) i).bind fun a j=>R.ops (pF R m (.level (n+1))) n R.K.length a j
 | m+1,.unary,i=>
   if R.neg i=false/\R.isAt i [45]=true then(pF R m .unary (i+1)).bind fun a j=>.ok (mkE 3 2 0 0 [] [a]) j
   else if R.neg i=false/\R.isAt i [112,114,101]=true then(pF R m .unary (i+1)).bind fun a j=>.ok (mkE 5 0 0 0 [] [a]) j
   else(pF R m .prim i).bind fun e j=>R.whens R.K.length e j
 | m+1,.prim,i=>R.prim (pF R m .expr) (pF R m .prim) i
def Rd.expr(R:Rd)(i:Nat):PR Ex:=pF R (10*R.K.length+10) .expr i
end Go.Proofs.YtjgmcnemcembmaaGreatDoor
