import Derived.Test.YtddaclniamlmbaaGreatDoorPk8
import Derived.Test.YtddaclniamlmbaaGreatDoorPk11
import Derived.Test.YtddaclniamlmbaaGreatDoorPk12
set_option linter.unusedSimpArgs false
set_option linter.unusedVariables false
namespace Go.Proofs.YtddaclniamlmbaaGreatDoor
open Go Go.TL
theorem hmix:Tryz.prog.follows .mixedOrders=true:=by kernel_rfl
attribute [local irreducible] TR TO Then InBlock RetK Sound LoopK Kf GG ThenL
structure Hold (Q:Prop):Prop where
 p:Q
theorem wk{G Q:Prop}(k:Q)(h:Hold Q->G:=by
  first
  | (intro k;apply Go.TL.TO.go tabOk 300 false;exact rfl;(first|apply Go.TL.GG.to|apply Go.TL.GG.stop|apply Go.TL.GG.tr0|apply Go.TL.GG.tr|apply Go.TL.GG.ex);exact k.p)
  | (intro k;apply Go.TL.TR.go0 tabOk 300 false;exact rfl;(first|apply Go.TL.GG.to|apply Go.TL.GG.stop|apply Go.TL.GG.tr0|apply Go.TL.GG.tr|apply Go.TL.GG.ex);exact k.p)
  | (intro k;apply Go.TL.TR.go tabOk 300 false;exact rfl;(first|apply Go.TL.GG.to|apply Go.TL.GG.stop|apply Go.TL.GG.tr0|apply Go.TL.GG.tr|apply Go.TL.GG.ex);exact k.p)
  | (intro k;apply Go.TL.TO.go0 tabOk 300 false;exact rfl;(first|apply Go.TL.GG.to|apply Go.TL.GG.stop|apply Go.TL.GG.tr0|apply Go.TL.GG.tr|apply Go.TL.GG.ex);exact k.p)
  | (intro k;apply Go.TL.ThenL.go;exact k.p)
  | (intro k;apply Go.TL.TExit.go tabOk 300 false;exact rfl;(first|apply Go.TL.GG.to|apply Go.TL.GG.stop|apply Go.TL.GG.tr0|apply Go.TL.GG.tr|apply Go.TL.GG.ex);exact k.p)
  | (intro k;apply Go.TL.TExit.fin;exact k.p)
  | (intro k;apply Go.TL.TO.want;exact rfl;exact k.p)
  | (intro k;apply Go.TL.TO.add;exact rfl;exact rfl;exact rfl;(first|omega|(simp only[List.length_append,List.length_cons,List.length_nil];omega));(first|omega|(simp only[List.length_append,List.length_cons,List.length_nil];omega));exact k.p)
  | (intro k;apply Go.TL.TO.sub64;exact rfl;exact rfl;exact rfl;(first|omega|(simp only[List.length_append,List.length_cons,List.length_nil];omega));(first|omega|(simp only[List.length_append,List.length_cons,List.length_nil];omega));exact k.p)
  | (intro k;apply Go.TL.TO.elem_nat tabOk;exact rfl;exact rfl;exact rfl;exact rfl;exact rfl;exact rfl;exact rfl;exact rfl;assumption;exact rfl;exact k.p)
  | (intro k;apply Go.TL.TO.elem_nat (j:=0) tabOk;exact rfl;exact rfl;exact rfl;exact rfl;exact rfl;exact rfl;exact rfl;exact rfl;exact rfl;exact rfl;exact k.p)
  | (intro k;apply Go.TL.TO.elem_nat (j:=1) tabOk;exact rfl;exact rfl;exact rfl;exact rfl;exact rfl;exact rfl;exact rfl;exact rfl;exact rfl;exact rfl;exact k.p)
  | (intro k;apply Go.TL.TO.elem_nat (j:=2) tabOk;exact rfl;exact rfl;exact rfl;exact rfl;exact rfl;exact rfl;exact rfl;exact rfl;exact rfl;exact rfl;exact k.p)
  | (intro k;apply Go.TL.TO.indexAddr tabOk;exact rfl;exact rfl;exact rfl;exact rfl;exact rfl;exact rfl;exact rfl;exact rfl;omega;assumption;exact k.p)
  | (intro k;apply Go.TL.TO.index_nat tabOk;exact rfl;exact rfl;exact rfl;exact rfl;exact rfl;assumption;exact k.p)
  | (intro k;apply Go.TL.TO.index_str tabOk;exact rfl;exact rfl;exact rfl;exact rfl;exact rfl;decide;exact rfl;exact k.p)
  | (intro k;apply Go.TL.TO.index_str tabOk;exact rfl;exact rfl;exact rfl;exact rfl;exact rfl;omega;assumption;exact k.p)
  | (intro k;apply Go.TL.TO.maxi;exact rfl;exact rfl;exact rfl;exact k.p)
  | (intro k;apply Go.TL.TO.mini;exact rfl;exact rfl;exact rfl;exact k.p)
  | (intro k;apply Go.TL.TR.regionLf hmix;decide +kernel;exact rfl;exact k.p)
  | (intro k;apply Go.TL.TR.regionL2 hmix;decide +kernel;exact rfl;exact k.p)
  | (intro k;apply Go.TL.TR.regionL1 hmix;decide +kernel;exact rfl;exact k.p)
  | (intro k;apply Go.TL.TR.regionQ hmix;kernel_rfl;exact rfl;exact k.p)
  | (intro k;apply Go.TL.TO.appendB tabOk;exact rfl;exact rfl;exact rfl;exact rfl;exact rfl;exact rfl;exact rfl;exact rfl;exact rfl;exact rfl;exact rfl;exact rfl;exact rfl;(first|omega|(simp only[List.length_append,List.length_cons,List.length_nil];omega));exact rfl;exact k.p)
  | (intro k;apply Go.TL.TO.ssl2 tabOk;exact rfl;exact rfl;exact rfl;exact rfl;exact rfl;exact rfl;exact rfl;exact rfl;exact rfl;omega;omega;exact k.p)
  | (intro k;apply Go.TL.TO.ssl_lo tabOk;exact rfl;exact rfl;exact rfl;exact rfl;exact rfl;exact rfl;exact rfl;exact rfl;omega;exact k.p)
  | (intro k;apply Go.TL.TO.ssl_hi tabOk;exact rfl;exact rfl;exact rfl;exact rfl;exact rfl;exact rfl;exact rfl;exact rfl;omega;exact k.p)
  | (intro k;apply Go.TL.TO.slice2 tabOk;exact rfl;exact rfl;exact rfl;exact rfl;exact rfl;exact rfl;omega;omega;exact k.p)
  | (intro k;apply Go.TL.TO.slice_lo tabOk;exact rfl;exact rfl;exact rfl;exact rfl;exact rfl;omega;exact k.p)
  | (intro k;apply Go.TL.TO.slice_hi tabOk;exact rfl;exact rfl;exact rfl;exact rfl;exact rfl;omega;exact k.p)
  | (intro k;apply Go.TL.TO.convert_u8;exact rfl;kernel_rfl;kernel_rfl;exact rfl;exact k.p)
  | (intro k;apply Go.TL.TO.eqb;exact rfl;exact rfl;exact rfl;kernel_rfl;exact k.p)
  | (intro k;apply Go.TL.TO.neb;exact rfl;exact rfl;exact rfl;kernel_rfl;exact k.p)
  | (intro k;apply Go.TL.TO.go tabOk 0 false;exact rfl;(first|apply Go.TL.GG.to|apply Go.TL.GG.stop|apply Go.TL.GG.tr0|apply Go.TL.GG.tr|apply Go.TL.GG.ex);exact k.p)
  | (intro k;apply Go.TL.TR.go0 tabOk 0 false;exact rfl;(first|apply Go.TL.GG.to|apply Go.TL.GG.stop|apply Go.TL.GG.tr0|apply Go.TL.GG.tr|apply Go.TL.GG.ex);exact k.p)
  | (intro k;apply Go.TL.TR.go tabOk 0 false;exact rfl;(first|apply Go.TL.GG.to|apply Go.TL.GG.stop|apply Go.TL.GG.tr0|apply Go.TL.GG.tr|apply Go.TL.GG.ex);exact k.p)
  | (intro k;apply Go.TL.TO.go0 tabOk 0 false;exact rfl;(first|apply Go.TL.GG.to|apply Go.TL.GG.stop|apply Go.TL.GG.tr0|apply Go.TL.GG.tr|apply Go.TL.GG.ex);exact k.p)
  | (intro k;apply Go.TL.TExit.go tabOk 0 false;exact rfl;(first|apply Go.TL.GG.to|apply Go.TL.GG.stop|apply Go.TL.GG.tr0|apply Go.TL.GG.tr|apply Go.TL.GG.ex);exact k.p)
  | (intro k;apply Go.TL.LoopK.exit;exact k.p)
  | (intro k;apply Go.TL.LoopK.ret;exact k.p)):G:=h ⟨k⟩
theorem wkt{G Q:Prop}(k:Q)(h:Hold Q->G:=by
  first
  | (intro k;apply Go.TL.TO.go tabOk 300 true;exact rfl;(first|apply Go.TL.GG.to|apply Go.TL.GG.stop|apply Go.TL.GG.tr0|apply Go.TL.GG.tr|apply Go.TL.GG.ex);exact k.p)
  | (intro k;apply Go.TL.TR.go0 tabOk 300 true;exact rfl;(first|apply Go.TL.GG.to|apply Go.TL.GG.stop|apply Go.TL.GG.tr0|apply Go.TL.GG.tr|apply Go.TL.GG.ex);exact k.p)
  | (intro k;apply Go.TL.TR.go tabOk 300 true;exact rfl;(first|apply Go.TL.GG.to|apply Go.TL.GG.stop|apply Go.TL.GG.tr0|apply Go.TL.GG.tr|apply Go.TL.GG.ex);exact k.p)
  | (intro k;apply Go.TL.TO.go0 tabOk 300 true;exact rfl;(first|apply Go.TL.GG.to|apply Go.TL.GG.stop|apply Go.TL.GG.tr0|apply Go.TL.GG.tr|apply Go.TL.GG.ex);exact k.p)
  | (intro k;apply Go.TL.TExit.go tabOk 300 true;exact rfl;(first|apply Go.TL.GG.to|apply Go.TL.GG.stop|apply Go.TL.GG.tr0|apply Go.TL.GG.tr|apply Go.TL.GG.ex);exact k.p)
  | (intro k;apply Go.TL.TO.allocC tabOk;exact rfl;exact rfl;exact rfl;exact rfl;exact rfl;exact rfl;exact Nat.le_of_ble_eq_true rfl;exact k.p)):G:=h ⟨k⟩
theorem wkb{G Q:Prop}(k:Q)(h:Hold Q->G:=by
  first
  | (intro k;apply Go.TL.TO.go tabOk 300 true;exact rfl;(first|apply Go.TL.GG.to|apply Go.TL.GG.stop|apply Go.TL.GG.tr0|apply Go.TL.GG.tr|apply Go.TL.GG.ex);exact k.p)
  | (intro k;apply Go.TL.TR.go0 tabOk 300 true;exact rfl;(first|apply Go.TL.GG.to|apply Go.TL.GG.stop|apply Go.TL.GG.tr0|apply Go.TL.GG.tr|apply Go.TL.GG.ex);exact k.p)
  | (intro k;apply Go.TL.TR.go tabOk 300 true;exact rfl;(first|apply Go.TL.GG.to|apply Go.TL.GG.stop|apply Go.TL.GG.tr0|apply Go.TL.GG.tr|apply Go.TL.GG.ex);exact k.p)
  | (intro k;apply Go.TL.TO.go0 tabOk 300 true;exact rfl;(first|apply Go.TL.GG.to|apply Go.TL.GG.stop|apply Go.TL.GG.tr0|apply Go.TL.GG.tr|apply Go.TL.GG.ex);exact k.p)
  | (intro k;apply Go.TL.TExit.go tabOk 300 true;exact rfl;(first|apply Go.TL.GG.to|apply Go.TL.GG.stop|apply Go.TL.GG.tr0|apply Go.TL.GG.tr|apply Go.TL.GG.ex);exact k.p)):G:=h ⟨k⟩
theorem wu{G Q:Prop}(k:Q)(h:Hold Q->G:=by first|(intro k;exact wkt k.p)|(intro k;exact wk k.p)):G:=h ⟨k⟩
theorem wk2{G Q1 Q2:Prop}(k1:Q1)(k2:Q2)(h:Hold Q1->Hold Q2->G:=by
  intro k1 k2
  first
  | (apply Go.TL.TO.ceq;exact rfl;exact rfl;exact rfl;exact k1.p;exact k2.p)
  | (apply Go.TL.TO.cne;exact rfl;exact rfl;exact rfl;exact k1.p;exact k2.p)
  | (apply Go.TL.TO.clt;exact rfl;exact rfl;exact rfl;exact k1.p;exact k2.p)
  | (apply Go.TL.TO.cle;exact rfl;exact rfl;exact rfl;exact k1.p;exact k2.p)
  | (apply Go.TL.TO.cgt;exact rfl;exact rfl;exact rfl;exact k1.p;exact k2.p)
  | (apply Go.TL.TO.cge;exact rfl;exact rfl;exact rfl;exact k1.p;exact k2.p)
  | (apply Go.TL.TO.seq';exact rfl;exact rfl;exact rfl;exact k1.p;exact k2.p)
  | (apply Go.TL.TO.sne';exact rfl;exact rfl;exact rfl;exact k1.p;exact k2.p)
  | (apply Go.TL.TR.condB;exact rfl;exact k1.p;exact k2.p)):G:=h ⟨k1⟩ ⟨k2⟩
theorem wkc{G:Prop}(h:G:=by
  first
  | (intro hc;exact absurd hc (by decide))
  | (intro hc;exfalso;simp only[List.length_cons,List.length_nil]at hc;omega)
  | (intro hc;exfalso;simp only[decide_eq_true_eq,decide_eq_false_iff_not,beq_iff_eq,beq_eq_false_iff_ne,bne_iff_ne,bne_eq_false_iff_eq,ne_eq,Decidable.not_not,not_true_eq_false]at hc <;> omega)
  | (intro hc;exfalso;omega)):G:=h
theorem wv{G Q:Prop}{f:FuncId}{cargs:List SV}{v:SV}(hs:Pure Tryz.prog f cargs v)(k:Q)(h:Pure Tryz.prog f cargs v->Hold Q->G:=by
  intro hs k
  first
  | (apply Go.TL.TO.callV hs;exact rfl;exact rfl;exact rfl;(repeat' (first|exact trivial|exact Go.TL.Le.refl _|refine And.intro ?_ ?_|exact Go.TL.Le.any _|exact Go.TL.Le.nil _|exact Go.TL.Le.own _ _ _|refine Go.TL.Le.tree rfl ?_|exact Go.TL.TLe.refl _|exact Go.TL.TLe.nil _|refine Go.TL.TLe.ags ?_|fail));exact rfl;exact rfl;exact k.p)
  | (apply Go.TL.TO.callB hs;exact rfl;exact rfl;exact rfl;(repeat' (first|exact trivial|exact Go.TL.LeB.t _|exact Go.TL.LeB.cp _ _|exact Go.TL.LeB.fn0 _|exact Go.TL.LeB.any _|refine And.intro ?_ ?_|fail));exact Go.TL.Rigid.v _;exact k.p)):G:=h hs ⟨k⟩
theorem wb{G Q1 Q2:Prop}{f:FuncId}{cargs:List SV}{b:Bool}(hs:Pure Tryz.prog f cargs (.t (.v (.bool b))))(k1:Q1)(k2:Q2)(h:Pure Tryz.prog f cargs (.t (.v (.bool b)))->Hold Q1->Hold Q2->G:=by
  intro hs k1 k2
  apply Go.TL.TO.callBb hs;exact rfl;exact rfl;exact rfl
  (repeat' (first|exact trivial|exact Go.TL.LeB.t _|exact Go.TL.LeB.cp _ _|exact Go.TL.LeB.fn0 _|exact Go.TL.LeB.any _|refine And.intro ?_ ?_|refine Go.TL.LeB.tree rfl ?_|exact Go.TL.TLe.refl _|exact Go.TL.TLe.nil _|refine Go.TL.TLe.ags ?_|fail))
  exact k1.p
  exact k2.p):G:=h hs ⟨k1⟩ ⟨k2⟩
theorem wkr{G:Prop}(h:G:=by
  first
  | exact RetK.pure rfl (Le.refl _) rfl
  | exact RetK.pureN rfl (Le.refl _) rfl
  | ((first|refine RetK.pure rfl ?_ rfl|refine RetK.pureN rfl ?_ rfl);repeat' (first|exact Le.refl _|exact trivial|refine Le.tup ⟨?_,?_⟩|refine And.intro ?_ ?_|exact Le.any _|refine Le.tree rfl ?_|exact TLe.refl _|exact TLe.nil _|refine TLe.ags ⟨?_,?_⟩|fail))):G:=h
end Go.Proofs.YtddaclniamlmbaaGreatDoor
namespace Go.Proofs.YtddaclniamlmbaaGreatDoor
open Go Go.TL
attribute [local irreducible] TR TO Then InBlock RetK Sound LoopK Kf GG ThenL
abbrev I64:={n:Int // -9223372036854775808≤n/\n≤9223372036854775807}
instance:Inhabited I64:=⟨⟨0,by decide⟩⟩
abbrev _root_.Go.TL.T.n (n:I64):T:=.v (.int .i64 n.1)
abbrev _root_.Go.TL.SV.n (n:I64):SV:=.t (.v (.int .i64 n.1))
inductive Ex where
 | mk (kind op t v:I64) (name:Str) (args:List Ex)
instance:Inhabited Ex:=⟨.mk default default default default [] []⟩
namespace Ex
def kind:Ex->I64| .mk k _ _ _ _ _=>k
def op:Ex->I64| .mk _ o _ _ _ _=>o
def t:Ex->I64| .mk _ _ t _ _ _=>t
def v:Ex->I64| .mk _ _ _ v _ _=>v
def name:Ex->Str| .mk _ _ _ _ n _=>n
def args:Ex->List Ex| .mk _ _ _ _ _ l=>l
end Ex
def exT:Ex->T
 | .mk k o t v n l=>.ag [T.n k,T.n o,T.n t,T.n v,.s n,.sl 6 (l.attach.map fun x=>exT x.1)]
decreasing_by
 have:=List.sizeOf_lt_of_mem x.2
 simp;omega
theorem exT_mk(k o t v:I64)(n:Str)(l:List Ex):exT (.mk k o t v n l)= .ag [T.n k,T.n o,T.n t,T.n v,.s n,.sl 6 (l.map exT)]:=by
 rw[exT];simp
def exC(e:Ex):List T:=[T.n e.kind,T.n e.op,T.n e.t,T.n e.v,.s e.name,.sl 6 (e.args.map exT)]
theorem exT_eq(e:Ex):exT e= .ag (exC e):=by cases e;rw[exT_mk];rfl
structure OnC where
 name:Str
 t:I64
 tag:I64
structure Decl where
 name:Str
 ty:I64
 clock:List OnC
structure Equ where
 left:List Str
 right:Ex
structure Tran where
 cond:Ex
 to:I64
 resume:Bool
mutual
inductive Auto where
 | mk (states:List Sta)
inductive Sta where
 | mk (name:Str) (locals:List Decl) (eqs:List Equ) (autos:List Auto) (unl unt:List Tran)
end
structure Nod where
 name:Str
 ins:List Decl
 outs:List Decl
 locals:List Decl
 eqs:List Equ
 autos:List Auto
 assume:List Ex
 ensure:List Ex
structure En where
 name:Str
 tags:List Str
structure Prog where
 enums:List En
 nodes:List Nod
namespace Auto
def states:Auto->List Sta| .mk l=>l
end Auto
namespace Sta
def name:Sta->Str| .mk n _ _ _ _ _=>n
def locals:Sta->List Decl| .mk _ l _ _ _ _=>l
def eqs:Sta->List Equ| .mk _ _ l _ _ _=>l
def autos:Sta->List Auto| .mk _ _ _ l _ _=>l
def unl:Sta->List Tran| .mk _ _ _ _ l _=>l
def unt:Sta->List Tran| .mk _ _ _ _ _ l=>l
end Sta
def onT(o:OnC):T:=.ag [.s o.name,T.n o.t,T.n o.tag]
def declT(d:Decl):T:=.ag [.s d.name,T.n d.ty,.sl 3 (d.clock.map onT)]
def equT(q:Equ):T:=.ag (.sl 1 (q.left.map T.s)::exC q.right)
def tranT(q:Tran):T:=.ag [T.n q.cond.kind,T.n q.cond.op,T.n q.cond.t,T.n q.cond.v,.s q.cond.name,.sl 6 (q.cond.args.map exT),T.n q.to,.b q.resume]
mutual
def autoT:Auto->T
 | .mk l=>.ag [.sl 6 (l.attach.map fun x=>staT x.1)]
decreasing_by
 have:=List.sizeOf_lt_of_mem x.2
 simp;omega
def staT:Sta->T
 | .mk n l q a u v=>.ag [.s n,.sl 3 (l.map declT),.sl 7 (q.map equT),.sl 1 (a.attach.map fun x=>autoT x.1),.sl 8 (u.map tranT),.sl 8 (v.map tranT)]
decreasing_by
 have:=List.sizeOf_lt_of_mem x.2
 simp;omega
end
theorem autoT_eq(a:Auto):autoT a= .ag [.sl 6 (a.states.map staT)]:=by cases a;rw[autoT];simp[Auto.states]
theorem staT_eq(s:Sta):staT s= .ag [.s s.name,.sl 3 (s.locals.map declT),.sl 7 (s.eqs.map equT),.sl 1 (s.autos.map autoT),.sl 8 (s.unl.map tranT),.sl 8 (s.unt.map tranT)]:=by
 cases s;rw[staT];simp[Sta.name,Sta.locals,Sta.eqs,Sta.autos,Sta.unl,Sta.unt]
def nodT(n:Nod):T:=.ag [.s n.name,.sl 3 (n.ins.map declT),.sl 3 (n.outs.map declT),.sl 3 (n.locals.map declT),.sl 7 (n.eqs.map equT),.sl 1 (n.autos.map autoT),.sl 6 (n.assume.map exT),.sl 6 (n.ensure.map exT)]
def enT(e:En):T:=.ag [.s e.name,.sl 1 (e.tags.map T.s)]
def wEx:Ex->Nat
 | .mk _ _ _ _ _ l=>1+(l.attach.map fun x=>wEx x.1).sum
decreasing_by
 have:=List.sizeOf_lt_of_mem x.2
 simp;omega
theorem wEx_eq(e:Ex):wEx e=1+(e.args.map wEx).sum:=by cases e;rw[wEx];simp[Ex.args]
theorem sum_mem{α:Type}(f:α->Nat):∀ {l:List α} {x:α},x∈l->f x≤(l.map f).sum
 | a::l,x,h=>by
   rcases List.mem_cons.1 h with rfl|h
   ·simp
   ·have:=sum_mem f h
    simp;omega
theorem sum_len{α:Type}(f:α->Nat)(hf:∀x,1≤f x):∀(l:List α),l.length≤(l.map f).sum
 | []=>by simp
 | a::l=>by
   have:=sum_len f hf l
   have:=hf a
   simp;omega
theorem wEx_pos(e:Ex):1≤wEx e:=by rw[wEx_eq];omega
theorem wEx_arg{e x:Ex}(h:x∈e.args):wEx x<wEx e:=by
 have:=sum_mem wEx h
 rw[wEx_eq e];omega
theorem wEx_args(e:Ex):e.args.length<wEx e:=by
 have:=sum_len wEx wEx_pos e.args
 rw[wEx_eq];omega
theorem at_map{α:Type}(f:α->T){l:List α}{k:Nat}(h:k<l.length):(l.map f)[k]?=some (f l[k]):=by simp[h]
theorem at_exT{l:List Ex}{k:Nat}(h:k<l.length):(l.map exT)[k]?=some (.ag (exC l[k])):=by simp[h,exT_eq]
end Go.Proofs.YtddaclniamlmbaaGreatDoor
namespace Go.TL
open Go
def zerosOf(z:List T)(n:Nat):List SV:=(List.replicate n z).flatten.map .t
theorem rep_get{α:Type}(z:List α)(hz:0<z.length):∀(n j:Nat),j<n*z.length->(List.replicate n z).flatten[j]?=z[j % z.length]?
 | 0,j,h=>by simp at h
 | n+1,j,h=>by
   rw[List.replicate_succ,List.flatten_cons]
   by_cases hj:j<z.length
   ·rw[List.getElem?_append_left hj,Nat.mod_eq_of_lt hj]
   ·rw[List.getElem?_append_right (by omega),rep_get z hz n (j-z.length) (by rw[Nat.succ_mul]at h;omega),<-Nat.mod_eq_sub_mod (by omega)]
theorem zerosOf_len(z:List T)(n:Nat):(zerosOf z n).length=n*z.length:=by simp[zerosOf]
theorem grow_zeros{m:M}(hm:HRel m){ts:List T}{z:Array Value}{e:TypeId}{arr:Array Value}{c N:Nat}(hz:fitsAll ts z.toList=true)(hpos:0<ts.length)(hN:c≤N)(hsz:arr.size=N*ts.length)(harr:∀j,j<N*ts.length->arr[j]?=z[j % ts.length]?):
  Step m ⟨m.A,m.β++[⟨m.w.heap.size,0,arr.size⟩],m.H++[.cells (zerosOf ts c)],m.w.alloc (.cells arr e)⟩/\HRel ⟨m.A,m.β++[⟨m.w.heap.size,0,arr.size⟩],m.H++[.cells (zerosOf ts c)],m.w.alloc (.cells arr e)⟩:=by
 obtain⟨g1,g0,g2⟩:=zero_rel (A:=m.A) (w:=m.w) _ _ hz
 have hcN:c*ts.length≤N*ts.length:=Nat.mul_le_mul_right _ hN
 refine grow_cells hm _ arr e (by rw[zerosOf_len,hsz];exact hcN) (fun j y hy=>?_) (fun j s y hs hy=>?_)
 ·have hj:=(Array.getElem?_eq_some_iff.1 hy).1
  rw[harr j (by omega)]at hy
  exact g0 _ y (by simpa using hy)
 ·have hj:=(Array.getElem?_eq_some_iff.1 hy).1
  rw[harr j (by omega)]at hy
  have hjs:=(List.getElem?_eq_some_iff.1 hs).1
  rw[zerosOf_len]at hjs
  unfold zerosOf at hs
  rw[List.getElem?_map,rep_get ts hpos c j hjs]at hs
  cases hq:ts[j % ts.length]? with
  | none=>rw[hq]at hs;cases hs
  | some u=>rw[hq]at hs;cases hs;exact .t _ _ (g2 _ u y hq (by simpa using hy))
theorem zeroCells_get(z:Array Value)(n j:Nat)(hz:0<z.size)(hj:j<n*z.size):(Builtin.zeroCells z n)[j]?=z[j % z.size]? :=by
 have h2:j % z.size<z.size:=Nat.mod_lt _ hz
 unfold Builtin.zeroCells
 rw[Array.getElem?_map,Array.getElem?_eq_getElem (by simpa using hj)]
 simp[h2]
theorem zeroCells_size(z:Array Value)(n:Nat):(Builtin.zeroCells z n).size=n*z.size:=by simp[Builtin.zeroCells]
section rules
variable {P:Program}{n:Nat}{env:Env}{H:Heap}{K:TK}{all:Array Oper}{rest:List Oper}{tab:Tab}
variable {d:Nat}{ty:TypeId}{pos:String}{aft:Array Edge}
theorem mem_drew{m:M}(hm:HRel m):Step m ⟨m.A,m.β,m.H,m.w.drew⟩/\HRel ⟨m.A,m.β,m.H,m.w.drew⟩:=
 keep_ok hm ⟨rfl,rfl,rfl,Nat.le_refl _,fun _ _=>rfl⟩
theorem TO.append_zeros(hT:TabOk P tab){t t' e:TypeId}{i ie:TyI}{sz c:Nat}{ik ik':IntKind}{x y:Operand}(hd:Nat.ble (d+1) n=true)(ht:tab.get t=some i)(hk:i.k= .slice e)(he:tab.get e=some ie)(hs:ie.size=sz)(hpos:Nat.ble 1 sz=true)
  (hu:P.underlying t'=some (.int ik'))(hx:env.val x=some (.t (.v (.slice none 0 0))))(hy:env.val y=some (.t (.v (.int ik (c:Int)))))(h1:1≤c)(h2:c≤10000000000)(hby:Nat.ble ie.bytes 4096=true)
  (k:TO false P n all rest ((d,.ms sz H.length 0 c)::env) (H++[.cells (zerosOf ie.zero c)]) K):TO false P n all (⟨some d,.call { callee:=.builtin .append,args:=#[x,y],argTypes:=#[t,t'] },ty,pos,aft,none⟩::rest) env H K:=
 TO.eff hd (fun m ac g1 g2 g3=>by
  have hp':=Nat.le_of_ble_eq_true hpos
  have hb':=Nat.le_of_ble_eq_true hby
  obtain⟨ti,hti,hti1,hti2⟩:=(hT e ie he).info
  obtain⟨z,hz1,hz2,_,_⟩:=(hT e ie he).zero
  have hln:=(hT e ie he).len
  have hzl:z.cells.size=sz:=by
   have:=(zero_rel (A:=m.A) (w:=m.w) _ _ hz2).1
   simp at this;omega
  have hmul:(2*c+512)*ie.bytes≤(2*10000000000+512)*4096:=Nat.mul_le_mul (by omega) hb'
  have hcm:c*ie.bytes≤10000000000*4096:=Nat.mul_le_mul h2 hb'
  have hw:IntKind.i64.wrap (c:Int)=c:=wrap_in (by omega) (by omega)
  have hbig:¬(281474976710656<(c:Int)*(ti.bytes:Int)):=by
   rw[hti2,<-Int.natCast_mul];omega
  have hneg:¬((c:Int)<0):=by omega
  have hbound:¬281474976710656<Builtin.nextslicecap c 0*ti.bytes:=by
   have h1:=nextslicecap_le c 0 (by omega)
   have h2:Builtin.nextslicecap c 0≤2*c+512:=by omega
   have h3:=Nat.mul_le_mul_right ti.bytes h2
   rw[hti2]at h3⊢;omega
  have hmax:¬(9223372036854775807<(c:Int)):=by omega
  have hmx:(IntKind.i64.max:Int)=9223372036854775807:=by decide
  obtain⟨nc,hnc⟩:∃nc,nc=(Question.appendCap c 0 e).cut (m.w.tape m.w.drawn (.appendCap c 0 e)):=⟨_,rfl⟩
  have hnc2:c≤nc:=by rw[hnc];simp[Question.cut]
  obtain⟨arr,harr⟩:∃arr:Array Value,arr=Builtin.zeroCells z.cells c++Builtin.zeroCells z.cells (nc-c):=⟨_,rfl⟩
  have hcs:c*sz≠0:=Nat.mul_ne_zero (by omega) (by omega)
  have hrun:(Builtin.append_ #[t,t'] ty #[.slice none 0 0,.int ik (c:Int)]).run P m.w= .ok (.slice (some ⟨m.w.heap.size,0,none⟩) c nc) (m.w.drew.alloc (.cells arr e)):=by
   have hfo:(Question.appendCap c 0 e).forced=false:=rfl
   have hc0:¬c=0:=by omega
   have hs0:¬sz=0:=by omega
   have hadd:(Builtin.append_ #[t,t'] ty #[.slice none 0 0,.int ik (c:Int)]).run P m.w=(((do
     pure (.slice (some (<-newRow e (Builtin.zeroCells z.cells c++Builtin.zeroCells z.cells (nc-c)))) c nc)):Sem Value).run P { m.w with drawn:=m.w.drawn+1 }):=by
    simp[Builtin.append_,underlying,hu,(hT t i ht).slice hk,(hT e ie he).sizeOf,hs,asInt,asIntOf,hw,typeInfo,hti,hbig,hneg,hbound,hmx,hmax,hfo,<-hnc,hz1,hcs,hc0,hs0,Builtin.firstCells]
   rw[hadd]
   simp[newRow]
   rw[harr]
  have hsize:arr.size=nc*ie.zero.length:=by
   rw[harr,Array.size_append,zeroCells_size,zeroCells_size,<-Nat.add_mul,hzl,hln,hs]
   congr 1;omega
  obtain⟨s0,hm0⟩:=mem_drew g2
  obtain⟨s,hm'⟩:=grow_zeros hm0 (ts:=ie.zero) (z:=z.cells) (e:=e) (arr:=arr) (c:=c) (N:=nc) hz2 (by omega) hnc2 hsize (fun j hj=>by
   have hzz:z.cells.size=ie.zero.length:=by omega
   rw[harr,<-hzz]
   rw[<-hzz]at hj
   by_cases hj1:j<c*z.cells.size
   ·rw[Array.getElem?_append_left (by rw[zeroCells_size];exact hj1),zeroCells_get _ _ _ (by omega) hj1]
   ·rw[Array.getElem?_append_right (by rw[zeroCells_size];omega),zeroCells_size,zeroCells_get _ _ _ (by omega) (by rw[Nat.sub_mul];omega)]
    congr 1
    rw[Nat.mul_comm c]
    exact Nat.sub_mul_mod (by rw[Nat.mul_comm];omega))
  refine⟨.slice (some ⟨m.w.heap.size,0,none⟩) c nc,⟨m.A,m.β++[⟨m.w.heap.size,0,arr.size⟩],m.H++[.cells (zerosOf ie.zero c)],m.w.drew.alloc (.cells arr e)⟩,by simp[execOp,resolve,invoke,builtin,(g3.val hx).v_eq,(g3.val hy).v_eq,hrun],s0.trans s,hm',by rw[<-g1],?_⟩
  rw[<-g1]
  refine .ms sz m.H.length 0 c nc ⟨m.w.heap.size,0,arr.size⟩ (by simp[g2.len]) (by intro q;simp[tlOf]) hnc2 ?_
  show 0+0+nc*sz=arr.size
  rw[hsize,hln,hs];omega) k
theorem flat_cells{sz:Nat}:∀(es:List T),(∀e∈es,e.cells.length=sz)->((es.map T.cells).flatten.length=es.length*sz/\∀(i j:Nat) e c,es[i]?=some e->e.cells[j]?=some c->((es.map T.cells).flatten)[i*sz+j]?=some c)
 | [],_=>by simp
 | e::es,h=>by
   obtain⟨h1,h2⟩:=flat_cells es (fun x hx=>h x (List.mem_cons_of_mem _ hx))
   have he:=h e List.mem_cons_self
   refine⟨by rw[List.map_cons,List.flatten_cons,List.length_append,h1,he,List.length_cons,Nat.succ_mul];omega,fun i j x c hx hc=>?_⟩
   rw[List.map_cons,List.flatten_cons]
   cases i with
   | zero=>
     simp at hx;subst hx
     have:=(List.getElem?_eq_some_iff.1 hc).1
     rw[Nat.zero_mul,Nat.zero_add,List.getElem?_append_left this];exact hc
   | succ i=>
     rw[List.getElem?_append_right (by rw[he,Nat.succ_mul];omega),he,show(i+1)*sz+j-sz=i*sz+j from by rw[Nat.succ_mul];omega]
     exact h2 i j x c (by simpa using hx) hc
theorem TO.append_ms(hT:TabOk P tab){t t' e:TypeId}{i i' ie:TyI}{sz id off len:Nat}{cs:List SV}{ys:List T}{x y:Operand}{vy:SV}{H':Heap}(hd:Nat.ble (d+1) n=true)(ht:tab.get t=some i)(hk:i.k= .slice e)(ht':tab.get t'=some i')(hk':i'.k= .slice e)
  (he:tab.get e=some ie)(hs:ie.size=sz)(hpos:Nat.ble 1 sz=true)(hx:env.val x=some (.ms sz id off len))(hH:H[id]?=some (.cells cs))(hy:env.val y=some vy)(hvy:vy.elems sz=some ys)
  (hfit:off+(len+ys.length)*sz≤cs.length)(hH':H.set id (.cells (splice cs (off+len*sz) ((ys.map T.cells).flatten.map .t)))=H')
  (k:TO false P n all rest ((d,.ms sz id off (len+ys.length))::env) H' K):TO false P n all (⟨some d,.call { callee:=.builtin .append,args:=#[x,y],argTypes:=#[t,t'] },ty,pos,aft,none⟩::rest) env H K:=
 TO.eff hd (fun m ac g1 g2 g3=>by
  have hp':=Nat.le_of_ble_eq_true hpos
  have hy':=(g3.val hy).elems hvy
  obtain⟨ad,cap',hq⟩:=hy'.slice_inv
  rw[hq]at hy'
  obtain⟨g,f0,f1,f2,f3⟩:=firstCells_run (P:=P) hy' (by omega)
  have h:=g3.val hx
  generalize hz:ac.eval x=z at h
  cases h with
  | ms _ _ _ _ cap p hp hn hc hh=>
    have hH1:m.H[id]?=some (.cells cs):=by rw[g1];exact hH
    obtain⟨b1,b2,b3⟩:=g2.blk id p _ hp hH1
    have hcap:len+ys.length≤cap:=by
     have:(len+ys.length)*sz≤cap*sz:=by omega
     exact Nat.le_of_mul_le_mul_right this (by omega)
    have hmul:(len+ys.length)*sz=len*sz+ys.length*sz:=Nat.add_mul _ _ _
    obtain⟨l1,l2⟩:=flat_cells ys (fun e he=>by obtain⟨j,hj⟩:=List.getElem?_of_mem he;exact f2 j e hj)
    have hrun:(Builtin.append_ #[t,t'] ty #[.slice (some ⟨p.b,p.lo+off,none⟩) len cap,ac.eval y]).run P m.w=
      ((storeCells (Addr.add ⟨p.b,p.lo+off,none⟩ (len*sz)) ((List.range (ys.length*sz)).map g)).run P m.w).andThen fun _ w'=>.ok (.slice (some ⟨p.b,p.lo+off,none⟩) (len+ys.length) cap) w':=by
     rw[hq]
     simp[Builtin.append_,underlying,(hT t i ht).slice hk,(hT t' i' ht').slice hk',(hT e ie he).sizeOf,hs,Builtin.lenOf,hcap,f0 m.w rfl]
    by_cases h0:ys.length*sz=0
    ·have hys:ys=[]:=by
      rcases Nat.mul_eq_zero.1 h0 with h|h
      ·exact List.eq_nil_of_length_eq_zero h
      ·omega
     subst hys
     refine⟨.slice (some ⟨p.b,p.lo+off,none⟩) (len+0) cap,m,?_,Step.refl m,g2,?_,.ms sz id off len cap p hp hn hc hh⟩
     ·simp[execOp,resolve,invoke,builtin,hz,hrun,storeCells]
     ·obtain⟨hlt,hg⟩:=List.getElem?_eq_some_iff.1 hH
      have h5:splice cs (off+len*sz) ((List.map T.cells []).flatten.map .t)=cs:=by simp[splice]
      have h6:=List.set_getElem_self hlt
      rw[hg]at h6
      rw[g1,<-hH',h5]
      exact h6.symm
    ·obtain⟨s,hm'⟩:=upd_cells g2 (off:=off+len*sz) (vs:=(ys.map T.cells).flatten.map .t) (ys:=(List.range (ys.length*sz)).map g) hp hH1 (by rw[List.length_map,l1];omega) (by rw[List.length_map,l1];omega) (by rw[List.length_map,l1];simp) (fun v hv=>by simp at hv;obtain⟨q,hq,rfl⟩:=hv;exact f1 q hq) (fun j c v hc' hv=>by
      have hj:=(List.getElem?_eq_some_iff.1 hv).1
      simp at hj
      simp[hj]at hv
      subst hv
      rw[List.getElem?_map]at hc'
      obtain⟨d1,d2,d3⟩:=divmod_lt (show 0<sz by omega) hj
      have hyq:ys[j / sz]?=some ys[j / sz]:=List.getElem?_eq_getElem d1
      have hcl:=f2 _ _ hyq
      have hyc:(ys[j / sz]).cells[j % sz]?=some ((ys[j / sz]).cells[j % sz]'(by omega)):=List.getElem?_eq_getElem (by omega)
      have:=l2 _ _ _ _ hyq hyc
      rw[d3]at this
      rw[this]at hc'
      cases hc'
      have hr:=f3 _ _ _ _ hyq hyc
      rw[d3]at hr
      exact .t _ _ hr)
     have hst:=run_storeCells_cells (P:=P) p.b (p.lo+(off+len*sz)) ((List.range (ys.length*sz)).map g) 0 m.w (fun q hq=>(b2 _ (by omega) (by simp at hq;omega)).1) (fun q hq=>(b2 _ (by omega) (by simp at hq;omega)).2)
      (fun v hv=>by simp at hv;obtain⟨q,hq,rfl⟩:=hv;exact f1 q hq)
     refine⟨.slice (some ⟨p.b,p.lo+off,none⟩) (len+ys.length) cap,_,?_,s,hm',by rw[g1];exact hH',?_⟩
     ·rw[show p.lo+(off+len*sz)=p.lo+off+len*sz from by omega]at hst⊢
      simp only[addr_add]at hrun
      rw[hst]at hrun
      simp[execOp,resolve,invoke,builtin,hz,hrun]
     ·exact s.srel g2 (.ms sz id off (len+ys.length) cap p hp hn hcap hh)) k
theorem TO.slice_ms(hT:TabOk P tab){q:Bool}{t e:TypeId}{i ie:TyI}{x z:Operand}{sz id off len b:Nat}{ik:IntKind}(hd:Nat.ble (d+1) n=true)(ht:tab.get t=some i)(hk:i.k= .slice e)(he:tab.get e=some ie)
  (hx:env.val x=some (.ms sz id off len))(hz:env.val z=some (.t (.v (.int ik (b:Int)))))(h2:b≤len)
  (k:TO q P n all rest ((d,.ms sz id off b)::env) H K):TO q P n all (⟨some d,.slice t x none (some z) none,ty,pos,aft,none⟩::rest) env H K:=
 TO.op hd (fun m ac g1 g2 g3=>by
  have h:=g3.val hx
  generalize hq:ac.eval x=v at h
  cases h with
  | ms _ _ _ _ cap p hp hn hc hh=>
    refine⟨.slice (some ⟨p.b,p.lo+off,none⟩) b cap,fun w' hw'=>?_,.ms sz id off b cap p hp hn (by omega) hh⟩
    have:=slice_sl_run (P:=P) hT ht hk he (some ⟨p.b,p.lo+off,none⟩) len cap none (some (ac.eval z)) 0 b w' (.inl ⟨rfl,rfl⟩) (.inr ⟨ik,by rw[(g3.val hz).v_eq]⟩) (Nat.zero_le _) (by omega)
    simp only[Nat.zero_mul,Nat.sub_zero,Option.map_some,addr_add,Nat.add_zero,ite_self]at this
    simp[execOp,hq,this]) k
theorem TR.freeze{c:Code}(i sz id len:Nat){cs:List SV}{es:List T}{H':Heap}(hi:env.look i=some (.ms sz id 0 len))(hH:H[id]?=some (.cells cs))(hcs:cs=(es.map T.cells).flatten.map .t)(hlen:len=es.length)(hsz:∀e∈es,e.cells.length=sz)
  (hpos:Nat.ble 1 sz=true)(hH':H.set id .dead=H')(k:TR P n c ((i,.t (.sl sz es))::env) H' K):TR P n c env H K:=by
 intro φ m a h1 h2 h3 h4
 have hp':=Nat.le_of_ble_eq_true hpos
 obtain⟨x,hx1,hx2⟩:=h3.2 i _ hi
 subst hlen
 obtain⟨l1,l2⟩:=flat_cells es hsz
 have hcl:cs.length=es.length*sz:=by rw[hcs,List.length_map,l1]
 cases hx2 with
 | ms _ _ _ _ cap p hp hn hc hh=>
   have hH1:m.H[id]?=some (.cells cs):=by rw[h1];exact hH
   obtain⟨b1,b2,b3⟩:=h2.blk id p _ hp hH1
   have hex:∀j,∃y,j<cs.length->m.w.cell? ⟨p.b,p.lo+j,none⟩=some y/\y.oneCell'=true/\∀c,cs[j]?=some c->SRel m c y:=by
    intro j
    by_cases hj:j<cs.length
    ·obtain⟨y,hy1,hy0,hy2⟩:=b3 j cs[j] (List.getElem?_eq_getElem hj)
     exact⟨y,fun _=>⟨hy1,hy0,fun c hc=>by rw[List.getElem?_eq_getElem hj]at hc;cases hc;exact hy2⟩⟩
    ·exact⟨undef,fun h=>absurd h hj⟩
   let f:Nat->Value:=fun j=>Classical.choose (hex j)
   have hf:=fun j=>Classical.choose_spec (hex j)
   obtain⟨s,hm'⟩:=mv_step h2 (k1:=.dead) (p':=p) (A':=fun b o=>m.A b o\/(b=p.b/\p.lo≤o/\o<p.lo+cs.length)) (w':=m.w) hp hH1 rfl rfl rfl rfl (Nat.le_refl _) (fun _ _ _ _=>rfl) (fun _ _ _ _ _=>rfl) (fun _ _ _=>rfl) (fun _ _ _ h=>h) (fun _ _ h=>h)
    (fun _ _ h=>.inl h) (fun b o h=>by
      rcases h with h|h
      ·exact .inl h
      ·exact .inr (.inl (by omega))) (fun h=>by cases h) (fun h=>by cases h) (fun o q1 q2=>(b2 o q1 q2).1) ⟨rfl,fun n'=>by simp[tlOf]⟩ (fun _=>trivial)
   have hlt:∀q j,q<es.length->j<sz->q*sz+j<cs.length:=fun q j hq hj=>by
    have:=Nat.mul_le_mul_right sz (show q+1≤es.length from hq)
    rw[Nat.succ_mul]at this
    omega
   have hr:SRel ⟨fun b o=>m.A b o\/(b=p.b/\p.lo≤o/\o<p.lo+cs.length),m.β.set id p,m.H.set id .dead,m.w⟩ (.t (.sl sz es)) (.slice (some ⟨p.b,p.lo+0,none⟩) es.length cap):=by
    refine .t _ _ (.sl sz es p.b (p.lo+0) cap f hc (fun j e he=>hsz e (List.mem_of_getElem? he)) (fun q j hq hj=>.inr ⟨rfl,by omega,by have:=hlt q j hq hj;omega⟩) (fun q j hq hj=>(hf _ (hlt q j hq hj)).1) (fun q j hq hj=>(hf _ (hlt q j hq hj)).2.1) (fun q e j c he hc'=>?_))
    have hq:=(List.getElem?_eq_some_iff.1 he).1
    have hj:=(List.getElem?_eq_some_iff.1 hc').1
    rw[hsz e (List.mem_of_getElem? he)]at hj
    have hcc:cs[q*sz+j]?=some (.t c):=by rw[hcs,List.getElem?_map,l2 q j e c he hc'];rfl
    have:=(hf _ (hlt q j hq hj)).2.2 _ hcc
    cases this with
    | t _ _ h=>exact s.trel h2 h
   refine wpr_mono (k φ ⟨fun b o=>m.A b o\/(b=p.b/\p.lo≤o/\o<p.lo+cs.length),m.β.set id p,m.H.set id .dead,m.w⟩ a (by rw[h1];exact hH') hm' ⟨h3.1,fun j v hv=>?_⟩ (h4.step h2 s)) fun _ _ _ hp=>hp.step s
   by_cases hj:i=j
   ·subst hj
    rw[Env.look_cons_same]at hv
    cases hv
    exact⟨_,hx1,hr⟩
   ·rw[Env.look_cons_other _ _ hj]at hv
    exact(h3.step h2 s).2 j v hv
end rules
end Go.TL
