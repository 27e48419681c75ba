import Derived.Test.YtpnnpgbaiobbjaaGreatDoorPz
import Derived.Test.YtpnnpgbaiobbjaaGreatDoorPk6
import Derived.Test.YtpnnpgbaiobbjaaGreatDoorPk9
import Derived.Test.YtpnnpgbaiobbjaaGreatDoorPk10
set_option linter.unusedSimpArgs false
set_option linter.unusedVariables false
namespace Go.Proofs.YtpnnpgbaiobbjaaGreatDoor
open Go Go.TL
theorem hmix:Tryz.prog.follows .mixedOrders=true:=by kernel_rfl
attribute [local irreducible] TR TO Then zam RetK Sound zab Kf GG zaX
structure Hold (Q:Prop):Prop where
 p:Q
theorem wk{G Q:Prop}(k:Q)(h:Hold Q->G:=by
  first
  | (intro k;apply TO.go zah 300 false;exact rfl;(first|apply GG.to|apply GG.stop|apply GG.tr0|apply GG.tr|apply GG.ex);exact k.p)
  | (intro k;apply TR.go0 zah 300 false;exact rfl;(first|apply GG.to|apply GG.stop|apply GG.tr0|apply GG.tr|apply GG.ex);exact k.p)
  | (intro k;apply TR.go zah 300 false;exact rfl;(first|apply GG.to|apply GG.stop|apply GG.tr0|apply GG.tr|apply GG.ex);exact k.p)
  | (intro k;apply TO.go0 zah 300 false;exact rfl;(first|apply GG.to|apply GG.stop|apply GG.tr0|apply GG.tr|apply GG.ex);exact k.p)
  | (intro k;apply zaX.go;exact k.p)
  | (intro k;apply zcL.go zah 300 false;exact rfl;(first|apply GG.to|apply GG.stop|apply GG.tr0|apply GG.tr|apply GG.ex);exact k.p)
  | (intro k;apply zcL.fin;exact k.p)
  | (intro k;apply TO.want;exact rfl;exact k.p)
  | (intro k;apply TO.add;(iterate 3 exact rfl);exact zql;exact zql;exact k.p)
  | (intro k;apply TO.ztu;(iterate 3 exact rfl);exact zql;exact zql;exact k.p)
  | (intro k;apply TO.zdu zah;(iterate 8 exact rfl);assumption;exact rfl;exact k.p)
  | (intro k;apply TO.zdu (j:=0) zah;(iterate 10 exact rfl);exact k.p)
  | (intro k;apply TO.zdu (j:=1) zah;(iterate 10 exact rfl);exact k.p)
  | (intro k;apply TO.zdu (j:=2) zah;(iterate 10 exact rfl);exact k.p)
  | (intro k;apply TO.indexAddr zah;(iterate 8 exact rfl);omega;assumption;exact k.p)
  | (intro k;apply TO.zhs zah;(iterate 5 exact rfl);assumption;exact k.p)
  | (intro k;apply TO.zd7 zah;(iterate 5 exact rfl);decide;exact rfl;exact k.p)
  | (intro k;apply TO.zd7 zah;(iterate 5 exact rfl);omega;assumption;exact k.p)
  | (intro k;apply TO.maxi;(iterate 3 exact rfl);exact k.p)
  | (intro k;apply TO.mini;(iterate 3 exact rfl);exact k.p)
  | (intro k;apply TR.zrN hmix;decide +kernel;exact rfl;exact k.p)
  | (intro k;apply TR.zrM hmix;decide +kernel;exact rfl;exact k.p)
  | (intro k;apply TR.zrL hmix;decide +kernel;exact rfl;exact k.p)
  | (intro k;apply TR.zmy hmix;kernel_rfl;exact rfl;exact k.p)
  | (intro k;apply TO.zg2 zah;(iterate 13 exact rfl);exact zql;exact rfl;exact k.p)
  | (intro k;apply TO.ssl2 zah;(iterate 9 exact rfl);omega;omega;exact k.p)
  | (intro k;apply TO.zp7 zah;(iterate 8 exact rfl);omega;exact k.p)
  | (intro k;apply TO.zp6 zah;(iterate 8 exact rfl);omega;exact k.p)
  | (intro k;apply TO.zp3 zah;(iterate 6 exact rfl);omega;omega;exact k.p)
  | (intro k;apply TO.zfz zah;(iterate 5 exact rfl);omega;exact k.p)
  | (intro k;apply TO.zew zah;(iterate 5 exact rfl);omega;exact k.p)
  | (intro k;apply TO.zfN;exact rfl;kernel_rfl;kernel_rfl;exact rfl;exact k.p)
  | (intro k;apply TO.eqb;(iterate 3 exact rfl);kernel_rfl;exact k.p)
  | (intro k;apply TO.neb;(iterate 3 exact rfl);kernel_rfl;exact k.p)
  | (intro k;apply TO.go zah 0 false;exact rfl;(first|apply GG.to|apply GG.stop|apply GG.tr0|apply GG.tr|apply GG.ex);exact k.p)
  | (intro k;apply TR.go0 zah 0 false;exact rfl;(first|apply GG.to|apply GG.stop|apply GG.tr0|apply GG.tr|apply GG.ex);exact k.p)
  | (intro k;apply TR.go zah 0 false;exact rfl;(first|apply GG.to|apply GG.stop|apply GG.tr0|apply GG.tr|apply GG.ex);exact k.p)
  | (intro k;apply TO.go0 zah 0 false;exact rfl;(first|apply GG.to|apply GG.stop|apply GG.tr0|apply GG.tr|apply GG.ex);exact k.p)
  | (intro k;apply zcL.go zah 0 false;exact rfl;(first|apply GG.to|apply GG.stop|apply GG.tr0|apply GG.tr|apply GG.ex);exact k.p)
  | (intro k;apply zab.exit;exact k.p)
  | (intro k;apply zab.ret;exact k.p)):G:=h ⟨k⟩
theorem wkt{G Q:Prop}(k:Q)(h:Hold Q->G:=by
  first
  | (intro k;apply TO.go zah 300 true;exact rfl;(first|apply GG.to|apply GG.stop|apply GG.tr0|apply GG.tr|apply GG.ex);exact k.p)
  | (intro k;apply TR.go0 zah 300 true;exact rfl;(first|apply GG.to|apply GG.stop|apply GG.tr0|apply GG.tr|apply GG.ex);exact k.p)
  | (intro k;apply TR.go zah 300 true;exact rfl;(first|apply GG.to|apply GG.stop|apply GG.tr0|apply GG.tr|apply GG.ex);exact k.p)
  | (intro k;apply TO.go0 zah 300 true;exact rfl;(first|apply GG.to|apply GG.stop|apply GG.tr0|apply GG.tr|apply GG.ex);exact k.p)
  | (intro k;apply zcL.go zah 300 true;exact rfl;(first|apply GG.to|apply GG.stop|apply GG.tr0|apply GG.tr|apply GG.ex);exact k.p)
  | (intro k;apply TO.ztF zah;(iterate 6 exact rfl);exact leB;exact k.p)):G:=h ⟨k⟩
theorem wkb{G Q:Prop}(k:Q)(h:Hold Q->G:=by
  first
  | (intro k;apply TO.go zah 300 true;exact rfl;(first|apply GG.to|apply GG.stop|apply GG.tr0|apply GG.tr|apply GG.ex);exact k.p)
  | (intro k;apply TR.go0 zah 300 true;exact rfl;(first|apply GG.to|apply GG.stop|apply GG.tr0|apply GG.tr|apply GG.ex);exact k.p)
  | (intro k;apply TR.go zah 300 true;exact rfl;(first|apply GG.to|apply GG.stop|apply GG.tr0|apply GG.tr|apply GG.ex);exact k.p)
  | (intro k;apply TO.go0 zah 300 true;exact rfl;(first|apply GG.to|apply GG.stop|apply GG.tr0|apply GG.tr|apply GG.ex);exact k.p)
  | (intro k;apply zcL.go zah 300 true;exact rfl;(first|apply GG.to|apply GG.stop|apply GG.tr0|apply GG.tr|apply GG.ex);exact k.p)):G:=h ⟨k⟩
theorem wu{G Q:Prop}(k:Q)(h:Hold Q->G:=by first|(intro k;exact wkt k.p)|(intro k;exact wk k.p)):G:=h ⟨k⟩
theorem wk2{G Q1 Q2:Prop}(k1:Q1)(k2:Q2)(h:Hold Q1->Hold Q2->G:=by
  intro k1 k2
  first
  | (apply TO.ceq;(iterate 3 exact rfl);exact k1.p;exact k2.p)
  | (apply TO.cne;(iterate 3 exact rfl);exact k1.p;exact k2.p)
  | (apply TO.clt;(iterate 3 exact rfl);exact k1.p;exact k2.p)
  | (apply TO.cle;(iterate 3 exact rfl);exact k1.p;exact k2.p)
  | (apply TO.cgt;(iterate 3 exact rfl);exact k1.p;exact k2.p)
  | (apply TO.cge;(iterate 3 exact rfl);exact k1.p;exact k2.p)
  | (apply TO.seq';(iterate 3 exact rfl);exact k1.p;exact k2.p)
  | (apply TO.sne';(iterate 3 exact rfl);exact k1.p;exact k2.p)
  | (apply TR.zut;exact rfl;exact k1.p;exact k2.p)):G:=h ⟨k1⟩ ⟨k2⟩
theorem wkc{G:Prop}(h:G:=by
  first
  | (intro hc;exact absurd hc (by decide))
  | (intro hc;exfalso;simp only[qap,qaC]at hc;omega)
  | (intro hc;exfalso;simp only[decide_eq_true_eq,decide_eq_false_iff_not,beq_iff_eq,beq_eq_false_iff_ne,bne_iff_ne,bne_eq_false_iff_eq,ne_eq,qa6,not_true_eq_false]at hc <;> omega)
  | (intro hc;exfalso;omega)):G:=h
theorem wv{G Q:Prop}{f:FuncId}{cargs:List SV}{v:SV}(hs:Pure Tryz.prog f cargs v)(k:Q)(h:Pure Tryz.prog f cargs v->Hold Q->G:=by
  intro hs k
  first
  | (apply TO.zdN hs;(iterate 3 exact rfl);exact zqb;exact rfl;exact rfl;exact k.p)
  | (apply TO.zsK hs;(iterate 3 exact rfl);(repeat' (first|exact trivial|exact LeB.t _|exact LeB.cp _ _|exact LeB.fn0 _|exact LeB.any _|refine qaf ?_ ?_|fail));exact Go.TL.Rigid.v _;exact k.p)):G:=h hs ⟨k⟩
theorem wb{G Q1 Q2:Prop}{f:FuncId}{cargs:List SV}{b:Bool}(hs:Pure Tryz.prog f cargs (.t (.v (.bool b))))(k1:Q1)(k2:Q2)(h:Pure Tryz.prog f cargs (.t (.v (.bool b)))->Hold Q1->Hold Q2->G:=by
  intro hs k1 k2
  apply TO.ztM hs;(iterate 3 exact rfl)
  (repeat' (first|exact trivial|exact LeB.t _|exact LeB.cp _ _|exact LeB.fn0 _|exact LeB.any _|refine qaf ?_ ?_|refine LeB.tree rfl ?_|exact TLe.refl _|exact TLe.nil _|refine TLe.ags ?_|fail))
  exact k1.p
  exact k2.p):G:=h hs ⟨k1⟩ ⟨k2⟩
theorem wd{G Q:Prop}{f:FuncId}{cargs:List SV}{v:SV}{Hc Hc1:Heap}(hs:Sound Tryz.prog f cargs Hc fun r H'=>r= .ret v/\H'=Hc1)(k:Q)(h:(Sound Tryz.prog f cargs Hc fun r H'=>r= .ret v/\H'=Hc1)->Hold Q->G:=by
  intro hs k
  first
  | (apply TO.zaD 1 hs;(iterate 3 exact rfl);exact zqb;(iterate 8 exact rfl);exact k.p)
  | (apply TO.zaD 2 hs;(iterate 3 exact rfl);exact zqb;(iterate 8 exact rfl);exact k.p)
  | (apply TO.zaD 3 hs;(iterate 3 exact rfl);exact zqb;(iterate 8 exact rfl);exact k.p)):G:=h hs ⟨k⟩
theorem wkr{G:Prop}(h:G:=by
  first
  | exact RetK.pure rfl (Le.refl _) rfl
  | exact RetK.zub rfl (Le.refl _) rfl
  | ((first|refine RetK.pure rfl ?_ rfl|refine RetK.zub rfl ?_ rfl);repeat' (first|exact Le.refl _|exact trivial|refine Le.tup ⟨?_,?_⟩|refine qaf ?_ ?_|exact Le.any _|refine Le.tree rfl ?_|exact TLe.refl _|exact TLe.nil _|refine TLe.ags ⟨?_,?_⟩|fail))):G:=h
end Go.Proofs.YtpnnpgbaiobbjaaGreatDoor
namespace Go.Proofs.YtpnnpgbaiobbjaaGreatDoor
open Go Go.TL
attribute [local irreducible] TR TO Then zam RetK Sound zab Kf GG zaX
abbrev I64:={n:Int // -9223372036854775808≤n/\n≤9223372036854775807}
instance:Inhabited I64:=⟨⟨0,by decide⟩⟩
abbrev _root_.Go.TL.T.n (n:I64):T:=.v (.int .i64 n.1)
abbrev _root_.Go.TL.SV.n (n:I64):SV:=.t (.v (.int .i64 n.1))
inductive Ex where
 | mk (kind op t v:I64) (name:Str) (args:List Ex)
instance:Inhabited Ex:=⟨.mk default default default default [] []⟩
namespace Ex
def kind:Ex->I64| .mk k _ _ _ _ _=>k
def op:Ex->I64| .mk _ o _ _ _ _=>o
def t:Ex->I64| .mk _ _ t _ _ _=>t
def v:Ex->I64| .mk _ _ _ v _ _=>v
def name:Ex->Str| .mk _ _ _ _ n _=>n
def args:Ex->List Ex| .mk _ _ _ _ _ l=>l
end Ex
def exT:Ex->T
 | .mk k o t v n l=>.ag [T.n k,T.n o,T.n t,T.n v,.s n,.sl 6 (l.attach.map fun x=>exT x.1)]
decreasing_by
 have:=qa9 x.2
 simp;omega
theorem ztV(k o t v:I64)(n:Str)(l:List Ex):exT (.mk k o t v n l)= .ag [T.n k,T.n o,T.n t,T.n v,.s n,.sl 6 (l.map exT)]:=by
 rw[exT];simp
def exC(e:Ex):List T:=[T.n e.kind,T.n e.op,T.n e.t,T.n e.v,.s e.name,.sl 6 (e.args.map exT)]
theorem zaz(e:Ex):exT e= .ag (exC e):=by cases e;rw[ztV];rfl
structure OnC where
 name:Str
 t:I64
 tag:I64
structure Decl where
 name:Str
 ty:I64
 clock:List OnC
structure Equ where
 left:List Str
 right:Ex
structure Tran where
 cond:Ex
 to:I64
 resume:Bool
mutual
inductive Auto where
 | mk (states:List Sta)
inductive Sta where
 | mk (name:Str) (locals:List Decl) (eqs:List Equ) (autos:List Auto) (unl unt:List Tran)
end
structure Nod where
 name:Str
 ins:List Decl
 outs:List Decl
 locals:List Decl
 eqs:List Equ
 autos:List Auto
 assume:List Ex
 ensure:List Ex
structure En where
 name:Str
 tags:List Str
structure Prog where
 enums:List En
 nodes:List Nod
namespace Auto
def states:Auto->List Sta| .mk l=>l
end Auto
namespace Sta
def name:Sta->Str| .mk n _ _ _ _ _=>n
def locals:Sta->List Decl| .mk _ l _ _ _ _=>l
def eqs:Sta->List Equ| .mk _ _ l _ _ _=>l
def autos:Sta->List Auto| .mk _ _ _ l _ _=>l
def unl:Sta->List Tran| .mk _ _ _ _ l _=>l
def unt:Sta->List Tran| .mk _ _ _ _ _ l=>l
end Sta
def onT(o:OnC):T:=.ag [.s o.name,T.n o.t,T.n o.tag]
def zaa(d:Decl):T:=.ag [.s d.name,T.n d.ty,.sl 3 (d.clock.map onT)]
def equT(q:Equ):T:=.ag (.sl 1 (q.left.map T.s)::exC q.right)
def zag(q:Tran):T:=.ag [T.n q.cond.kind,T.n q.cond.op,T.n q.cond.t,T.n q.cond.v,.s q.cond.name,.sl 6 (q.cond.args.map exT),T.n q.to,.b q.resume]
mutual
def zae:Auto->T
 | .mk l=>.ag [.sl 6 (l.attach.map fun x=>staT x.1)]
decreasing_by
 have:=qa9 x.2
 simp;omega
def staT:Sta->T
 | .mk n l q a u v=>.ag [.s n,.sl 3 (l.map zaa),.sl 7 (q.map equT),.sl 1 (a.attach.map fun x=>zae x.1),.sl 8 (u.map zag),.sl 8 (v.map zag)]
decreasing_by
 have:=qa9 x.2
 simp;omega
end
theorem zbA(a:Auto):zae a= .ag [.sl 6 (a.states.map staT)]:=by cases a;rw[zae];simp[Auto.states]
theorem za6(s:Sta):staT s= .ag [.s s.name,.sl 3 (s.locals.map zaa),.sl 7 (s.eqs.map equT),.sl 1 (s.autos.map zae),.sl 8 (s.unl.map zag),.sl 8 (s.unt.map zag)]:=by
 cases s;rw[staT];simp[Sta.name,Sta.locals,Sta.eqs,Sta.autos,Sta.unl,Sta.unt]
def nodT(n:Nod):T:=.ag [.s n.name,.sl 3 (n.ins.map zaa),.sl 3 (n.outs.map zaa),.sl 3 (n.locals.map zaa),.sl 7 (n.eqs.map equT),.sl 1 (n.autos.map zae),.sl 6 (n.assume.map exT),.sl 6 (n.ensure.map exT)]
def enT(e:En):T:=.ag [.s e.name,.sl 1 (e.tags.map T.s)]
def wEx:Ex->Nat
 | .mk _ _ _ _ _ l=>1+(l.attach.map fun x=>wEx x.1).sum
decreasing_by
 have:=qa9 x.2
 simp;omega
theorem zh3(e:Ex):wEx e=1+(e.args.map wEx).sum:=by cases e;rw[wEx];simp[Ex.args]
theorem zmH{α:Type}(f:α->Nat):∀ {l:List α} {x:α},x∈l->f x≤(l.map f).sum
 | a::l,x,h=>by
   rcases qby.1 h with rfl|h
   ·simp
   ·have:=zmH f h
    simp;omega
theorem zmG{α:Type}(f:α->Nat)(hf:∀x,1≤f x):∀(l:List α),l.length≤(l.map f).sum
 | []=>by simp
 | a::l=>by
   have:=zmG f hf l
   have:=hf a
   simp;omega
theorem zcp(e:Ex):1≤wEx e:=by rw[zh3];omega
theorem zbR{e x:Ex}(h:x∈e.args):wEx x<wEx e:=by
 have:=zmH wEx h
 rw[zh3 e];omega
theorem zjX(e:Ex):e.args.length<wEx e:=by
 have:=zmG wEx zcp e.args
 rw[zh3];omega
theorem zar{α:Type}(f:α->T){l:List α}{k:Nat}(h:k<l.length):(l.map f)[k]?=some (f l[k]):=by simp[h]
theorem zeU{l:List Ex}{k:Nat}(h:k<l.length):(l.map exT)[k]?=some (.ag (exC l[k])):=by simp[h,zaz]
end Go.Proofs.YtpnnpgbaiobbjaaGreatDoor
namespace Go.TL
open Go
def zaT(z:List T)(n:Nat):List SV:=(List.replicate n z).flatten.map .t
theorem zpU{α:Type}(z:List α)(hz:0<z.length):∀(n j:Nat),j<n*z.length->(List.replicate n z).flatten[j]?=z[j % z.length]?
 | 0,j,h=>by simp at h
 | n+1,j,h=>by
   rw[List.replicate_succ,qbl]
   by_cases hj:j<z.length
   ·rw[qao hj,Nat.mod_eq_of_lt hj]
   ·rw[qax (by omega),zpU z hz n (j-z.length) (by rw[qbz]at h;omega),<-Nat.mod_eq_sub_mod (by omega)]
theorem zbS(z:List T)(n:Nat):(zaT z n).length=n*z.length:=by simp[zaT]
theorem ziN{m:M}(hm:HRel m){ts:List T}{z:Array Value}{e:TypeId}{arr:Array Value}{c N:Nat}(hz:zdy ts z.toList=true)(hpos:0<ts.length)(hN:c≤N)(hsz:arr.size=N*ts.length)(harr:∀j,j<N*ts.length->arr[j]?=z[j % ts.length]?):
  Step m ⟨m.A,m.β++[⟨m.w.heap.size,0,arr.size⟩],m.H++[.cells (zaT ts c)],m.w.alloc (.cells arr e)⟩/\HRel ⟨m.A,m.β++[⟨m.w.heap.size,0,arr.size⟩],m.H++[.cells (zaT ts c)],m.w.alloc (.cells arr e)⟩:=by
 obtain⟨g1,g0,g2⟩:=zbL (A:=m.A) (w:=m.w) _ _ hz
 have hcN:c*ts.length≤N*ts.length:=qaJ _ hN
 refine zfT hm _ arr e (by rw[zbS,hsz];exact hcN) (fun j y hy=>?_) (fun j s y hs hy=>?_)
 ·have hj:=(qaj.1 hy).1
  rw[harr j (by omega)]at hy
  exact g0 _ y (by simpa using hy)
 ·have hj:=(qaj.1 hy).1
  rw[harr j (by omega)]at hy
  have hjs:=(qab.1 hs).1
  rw[zbS]at hjs
  unfold zaT at hs
  rw[qaq,zpU ts hpos c j hjs]at hs
  cases hq:ts[j % ts.length]? with
  | none=>rw[hq]at hs;cases hs
  | some u=>rw[hq]at hs;cases hs;exact .t _ _ (g2 _ u y hq (by simpa using hy))
theorem zdJ(z:Array Value)(n j:Nat)(hz:0<z.size)(hj:j<n*z.size):(Builtin.zeroCells z n)[j]?=z[j % z.size]? :=by
 have h2:j % z.size<z.size:=Nat.mod_lt _ hz
 unfold Builtin.zeroCells
 rw[qcf,qal (by simpa using hj)]
 simp[h2]
theorem zbq(z:Array Value)(n:Nat):(Builtin.zeroCells z n).size=n*z.size:=by simp[Builtin.zeroCells]
section rules
variable {P:Program}{n:Nat}{env:Env}{H:Heap}{K:TK}{all:Array Oper}{rest:List Oper}{tab:Tab}
variable {d:Nat}{ty:TypeId}{pos:String}{aft:Array Edge}
theorem zry{m:M}(hm:HRel m):Step m ⟨m.A,m.β,m.H,m.w.drew⟩/\HRel ⟨m.A,m.β,m.H,m.w.drew⟩:=
 zcD hm ⟨rfl,rfl,rfl,qae _,fun _ _=>rfl⟩
theorem TO.zj7(hT:zau P tab){t t' e:TypeId}{i ie:TyI}{sz c:Nat}{ik ik':IntKind}{x y:Operand}(hd:Nat.ble (d+1) n=true)(ht:tab.get t=some i)(hk:i.k= .slice e)(he:tab.get e=some ie)(hs:ie.size=sz)(hpos:Nat.ble 1 sz=true)
  (hu:P.underlying t'=some (.int ik'))(hx:env.val x=some (.t (.v (.slice none 0 0))))(hy:env.val y=some (.t (.v (.int ik (c:Int)))))(h1:1≤c)(h2:c≤10000000000)(hby:Nat.ble ie.bytes 4096=true)
  (k:TO false P n all rest ((d,.ms sz H.length 0 c)::env) (H++[.cells (zaT ie.zero c)]) K):TO false P n all (⟨some d,.call { callee:=.builtin .append,args:=#[x,y],argTypes:=#[t,t'] },ty,pos,aft,none⟩::rest) env H K:=
 TO.eff hd (fun m ac g1 g2 g3=>by
  have hp':=qah hpos
  have hb':=qah hby
  obtain⟨ti,hti,hti1,hti2⟩:=(hT e ie he).info
  obtain⟨z,hz1,hz2,_,_⟩:=(hT e ie he).zero
  have hln:=(hT e ie he).len
  have hzl:z.cells.size=sz:=by
   exact zwfy
  have hmul:(2*c+512)*ie.bytes≤(2*10000000000+512)*4096:=qbZ (by omega) hb'
  have hcm:c*ie.bytes≤10000000000*4096:=qbZ h2 hb'
  have hw:IntKind.i64.wrap (c:Int)=c:=zem (by omega) (by omega)
  have hbig:¬(281474976710656<(c:Int)*(ti.bytes:Int)):=by
   rw[hti2,<-Int.natCast_mul];omega
  have hneg:¬((c:Int)<0):=by omega
  have hbound:¬281474976710656<Builtin.nextslicecap c 0*ti.bytes:=by
   have h1:=nextslicecap_le c 0 (by omega)
   have h2:Builtin.nextslicecap c 0≤2*c+512:=by omega
   have h3:=qaJ ti.bytes h2
   rw[hti2]at h3⊢;omega
  have hmax:¬(9223372036854775807<(c:Int)):=by omega
  have hmx:(IntKind.i64.max:Int)=9223372036854775807:=by decide
  obtain⟨nc,hnc⟩:∃nc,nc=(Question.appendCap c 0 e).cut (m.w.tape m.w.drawn (.appendCap c 0 e)):=⟨_,rfl⟩
  have hnc2:c≤nc:=by rw[hnc];simp[Question.cut]
  obtain⟨arr,harr⟩:∃arr:Array Value,arr=Builtin.zeroCells z.cells c++Builtin.zeroCells z.cells (nc-c):=⟨_,rfl⟩
  have hcs:c*sz≠0:=Nat.mul_ne_zero (by omega) (by omega)
  have hrun:(Builtin.append_ #[t,t'] ty #[.slice none 0 0,.int ik (c:Int)]).run P m.w= .ok (.slice (some ⟨m.w.heap.size,0,none⟩) c nc) (m.w.drew.alloc (.cells arr e)):=by
   have hfo:(Question.appendCap c 0 e).forced=false:=rfl
   have hc0:¬c=0:=by omega
   have hs0:¬sz=0:=by omega
   have hadd:(Builtin.append_ #[t,t'] ty #[.slice none 0 0,.int ik (c:Int)]).run P m.w=(((do
     pure (.slice (some (<-newRow e (Builtin.zeroCells z.cells c++Builtin.zeroCells z.cells (nc-c)))) c nc)):Sem Value).run P { m.w with drawn:=m.w.drawn+1 }):=by
    simp[Builtin.append_,underlying,hu,(hT t i ht).slice hk,(hT e ie he).sizeOf,hs,asInt,asIntOf,hw,typeInfo,hti,hbig,hneg,hbound,hmx,hmax,hfo,<-hnc,hz1,hcs,hc0,hs0,Builtin.firstCells]
   rw[hadd]
   simp[newRow]
   rw[harr]
  have hsize:arr.size=nc*ie.zero.length:=by
   rw[harr,Array.size_append,zbq,zbq,<-qaX,hzl,hln,hs]
   congr 1;omega
  obtain⟨s0,hm0⟩:=zry g2
  obtain⟨s,hm'⟩:=ziN hm0 (ts:=ie.zero) (z:=z.cells) (e:=e) (arr:=arr) (c:=c) (N:=nc) hz2 (by omega) hnc2 hsize (fun j hj=>by
   have hzz:z.cells.size=ie.zero.length:=by omega
   rw[harr,<-hzz]
   rw[<-hzz]at hj
   by_cases hj1:j<c*z.cells.size
   ·rw[qaV (by rw[zbq];exact hj1),zdJ _ _ _ (by omega) hj1]
   ·rw[qa0 (by rw[zbq];omega),zbq,zdJ _ _ _ (by omega) (by rw[Nat.sub_mul];omega)]
    congr 1
    rw[qcg c]
    exact Nat.sub_mul_mod (by rw[qcg];omega))
  refine⟨.slice (some ⟨m.w.heap.size,0,none⟩) c nc,⟨m.A,m.β++[⟨m.w.heap.size,0,arr.size⟩],m.H++[.cells (zaT ie.zero c)],m.w.drew.alloc (.cells arr e)⟩,by simp[execOp,resolve,invoke,builtin,(g3.val hx).v_eq,(g3.val hy).v_eq,hrun],s0.trans s,hm',by rw[<-g1],?_⟩
  rw[<-g1]
  refine .ms sz m.H.length 0 c nc ⟨m.w.heap.size,0,arr.size⟩ (by simp[g2.len]) (by intro q;simp[tlOf]) hnc2 ?_
  show 0+0+nc*sz=arr.size
  rw[hsize,hln,hs];omega) k
theorem zb8{sz:Nat}:∀(es:List T),(∀e∈es,e.cells.length=sz)->((es.map T.cells).flatten.length=es.length*sz/\∀(i j:Nat) e c,es[i]?=some e->e.cells[j]?=some c->((es.map T.cells).flatten)[i*sz+j]?=some c)
 | [],_=>by simp
 | e::es,h=>by
   obtain⟨h1,h2⟩:=zb8 es (fun x hx=>h x (qaA _ hx))
   have he:=h e qaD
   refine⟨by rw[qak,qbl,qai,h1,he,qap,qbz];omega,fun i j x c hx hc=>?_⟩
   rw[qak,qbl]
   cases i with
   | zero=>
     simp at hx;subst hx
     have:=(qab.1 hc).1
     rw[qb4,qaN,qao this];exact hc
   | succ i=>
     rw[qax (by rw[he,qbz];omega),he,show(i+1)*sz+j-sz=i*sz+j from by rw[qbz];omega]
     exact h2 i j x c (by simpa using hx) hc
theorem TO.zoL(hT:zau P tab){t t' e:TypeId}{i i' ie:TyI}{sz id off len:Nat}{cs:List SV}{ys:List T}{x y:Operand}{vy:SV}{H':Heap}(hd:Nat.ble (d+1) n=true)(ht:tab.get t=some i)(hk:i.k= .slice e)(ht':tab.get t'=some i')(hk':i'.k= .slice e)
  (he:tab.get e=some ie)(hs:ie.size=sz)(hpos:Nat.ble 1 sz=true)(hx:env.val x=some (.ms sz id off len))(hH:H[id]?=some (.cells cs))(hy:env.val y=some vy)(hvy:vy.elems sz=some ys)
  (hfit:off+(len+ys.length)*sz≤cs.length)(hH':H.set id (.cells (splice cs (off+len*sz) ((ys.map T.cells).flatten.map .t)))=H')
  (k:TO false P n all rest ((d,.ms sz id off (len+ys.length))::env) H' K):TO false P n all (⟨some d,.call { callee:=.builtin .append,args:=#[x,y],argTypes:=#[t,t'] },ty,pos,aft,none⟩::rest) env H K:=
 TO.eff hd (fun m ac g1 g2 g3=>by
  have hp':=qah hpos
  have hy':=(g3.val hy).elems hvy
  obtain⟨ad,cap',hq⟩:=hy'.zbn
  rw[hq]at hy'
  obtain⟨g,f0,f1,f2,f3⟩:=zbb (P:=P) hy' (by omega)
  have h:=g3.val hx
  generalize hz:ac.eval x=z at h
  cases h with
  | ms _ _ _ _ cap p hp hn hc hh=>
    have hH1:m.H[id]?=some (.cells cs):=by rw[g1];exact hH
    obtain⟨b1,b2,b3⟩:=g2.blk id p _ hp hH1
    have hcap:len+ys.length≤cap:=by
     have:(len+ys.length)*sz≤cap*sz:=by omega
     exact Nat.le_of_mul_le_mul_right this (by omega)
    have hmul:(len+ys.length)*sz=len*sz+ys.length*sz:=qaX _ _ _
    obtain⟨l1,l2⟩:=zb8 ys (fun e he=>by obtain⟨j,hj⟩:=qa4 he;exact f2 j e hj)
    have hrun:(Builtin.append_ #[t,t'] ty #[.slice (some ⟨p.b,p.lo+off,none⟩) len cap,ac.eval y]).run P m.w=
      ((storeCells (Addr.add ⟨p.b,p.lo+off,none⟩ (len*sz)) ((List.range (ys.length*sz)).map g)).run P m.w).andThen fun _ w'=>.ok (.slice (some ⟨p.b,p.lo+off,none⟩) (len+ys.length) cap) w':=by
     rw[hq]
     simp[Builtin.append_,underlying,(hT t i ht).slice hk,(hT t' i' ht').slice hk',(hT e ie he).sizeOf,hs,Builtin.lenOf,hcap,f0 m.w rfl]
    by_cases h0:ys.length*sz=0
    ·have hys:ys=[]:=by
      exact zwes
     subst hys
     refine⟨.slice (some ⟨p.b,p.lo+off,none⟩) (len+0) cap,m,?_,Step.refl m,g2,?_,.ms sz id off len cap p hp hn hc hh⟩
     ·simp[execOp,resolve,invoke,builtin,hz,hrun,storeCells]
     ·obtain⟨hlt,hg⟩:=qab.1 hH
      have h5:splice cs (off+len*sz) ((List.map T.cells []).flatten.map .t)=cs:=by simp[splice]
      exact zwfa
    ·obtain⟨s,hm'⟩:=zfJ g2 (off:=off+len*sz) (vs:=(ys.map T.cells).flatten.map .t) (ys:=(List.range (ys.length*sz)).map g) hp hH1 (by rw[qaa,l1];omega) (by rw[qaa,l1];omega) (by rw[qaa,l1];simp) (fun v hv=>by simp at hv;obtain⟨q,hq,rfl⟩:=hv;exact f1 q hq) (fun j c v hc' hv=>by
      have hj:=(qab.1 hv).1
      simp at hj
      simp[hj]at hv
      subst hv
      rw[qaq]at hc'
      obtain⟨d1,d2,d3⟩:=ze8 (show 0<sz by omega) hj
      have hyq:ys[j / sz]?=some ys[j / sz]:=qac d1
      have hcl:=f2 _ _ hyq
      have hyc:(ys[j / sz]).cells[j % sz]?=some ((ys[j / sz]).cells[j % sz]'(by omega)):=qac (by omega)
      have:=l2 _ _ _ _ hyq hyc
      rw[d3]at this
      rw[this]at hc'
      cases hc'
      have hr:=f3 _ _ _ _ hyq hyc
      rw[d3]at hr
      exact .t _ _ hr)
     have hst:=run_storeCells_cells (P:=P) p.b (p.lo+(off+len*sz)) ((List.range (ys.length*sz)).map g) 0 m.w (fun q hq=>(b2 _ (by omega) (by simp at hq;omega)).1) (fun q hq=>(b2 _ (by omega) (by simp at hq;omega)).2)
      (fun v hv=>by simp at hv;obtain⟨q,hq,rfl⟩:=hv;exact f1 q hq)
     refine⟨.slice (some ⟨p.b,p.lo+off,none⟩) (len+ys.length) cap,_,?_,s,hm',by rw[g1];exact hH',?_⟩
     ·rw[show p.lo+(off+len*sz)=p.lo+off+len*sz from by omega]at hst⊢
      simp only[zbh]at hrun
      rw[hst]at hrun
      simp[execOp,resolve,invoke,builtin,hz,hrun]
     ·exact s.srel g2 (.ms sz id off (len+ys.length) cap p hp hn hcap hh)) k
theorem TO.znB(hT:zau P tab){q:Bool}{t e:TypeId}{i ie:TyI}{x z:Operand}{sz id off len b:Nat}{ik:IntKind}(hd:Nat.ble (d+1) n=true)(ht:tab.get t=some i)(hk:i.k= .slice e)(he:tab.get e=some ie)
  (hx:env.val x=some (.ms sz id off len))(hz:env.val z=some (.t (.v (.int ik (b:Int)))))(h2:b≤len)
  (k:TO q P n all rest ((d,.ms sz id off b)::env) H K):TO q P n all (⟨some d,.slice t x none (some z) none,ty,pos,aft,none⟩::rest) env H K:=
 TO.op hd (fun m ac g1 g2 g3=>by
  have h:=g3.val hx
  generalize hq:ac.eval x=v at h
  cases h with
  | ms _ _ _ _ cap p hp hn hc hh=>
    refine⟨.slice (some ⟨p.b,p.lo+off,none⟩) b cap,fun w' hw'=>?_,.ms sz id off b cap p hp hn (by omega) hh⟩
    have:=zck (P:=P) hT ht hk he (some ⟨p.b,p.lo+off,none⟩) len cap none (some (ac.eval z)) 0 b w' (.inl ⟨rfl,rfl⟩) (.inr ⟨ik,by rw[(g3.val hz).v_eq]⟩) (qaU _) (by omega)
    simp only[qb4,qcJ,qa3,zbh,qb3,ite_self]at this
    simp[execOp,hq,this]) k
theorem TR.freeze{c:Code}(i sz id len:Nat){cs:List SV}{es:List T}{H':Heap}(hi:env.look i=some (.ms sz id 0 len))(hH:H[id]?=some (.cells cs))(hcs:cs=(es.map T.cells).flatten.map .t)(hlen:len=es.length)(hsz:∀e∈es,e.cells.length=sz)
  (hpos:Nat.ble 1 sz=true)(hH':H.set id .dead=H')(k:TR P n c ((i,.t (.sl sz es))::env) H' K):TR P n c env H K:=by
 intro φ m a h1 h2 h3 h4
 have hp':=qah hpos
 obtain⟨x,hx1,hx2⟩:=h3.2 i _ hi
 subst hlen
 obtain⟨l1,l2⟩:=zb8 es hsz
 have hcl:cs.length=es.length*sz:=by rw[hcs,qaa,l1]
 cases hx2 with
 | ms _ _ _ _ cap p hp hn hc hh=>
   have hH1:m.H[id]?=some (.cells cs):=by rw[h1];exact hH
   obtain⟨b1,b2,b3⟩:=h2.blk id p _ hp hH1
   have hex:∀j,∃y,j<cs.length->m.w.cell? ⟨p.b,p.lo+j,none⟩=some y/\y.oneCell'=true/\∀c,cs[j]?=some c->SRel m c y:=by
    exact zwbi
   let f:Nat->Value:=fun j=>Classical.choose (hex j)
   have hf:=fun j=>qcv (hex j)
   obtain⟨s,hm'⟩:=zhD h2 (k1:=.dead) (p':=p) (A':=fun b o=>m.A b o\/(b=p.b/\p.lo≤o/\o<p.lo+cs.length)) (w':=m.w) hp hH1 rfl rfl rfl rfl (qae _) (fun _ _ _ _=>rfl) (fun _ _ _ _ _=>rfl) (fun _ _ _=>rfl) (fun _ _ _ h=>h) (fun _ _ h=>h)
    (fun _ _ h=>.inl h) (fun b o h=>by
      rcases h with h|h
      ·exact .inl h
      ·exact .inr (.inl (by omega))) (fun h=>by cases h) (fun h=>by cases h) (fun o q1 q2=>(b2 o q1 q2).1) ⟨rfl,fun n'=>by simp[tlOf]⟩ (fun _=>trivial)
   have hlt:∀q j,q<es.length->j<sz->q*sz+j<cs.length:=fun q j hq hj=>by
    exact zwek
   have hr:SRel ⟨fun b o=>m.A b o\/(b=p.b/\p.lo≤o/\o<p.lo+cs.length),m.β.set id p,m.H.set id .dead,m.w⟩ (.t (.sl sz es)) (.slice (some ⟨p.b,p.lo+0,none⟩) es.length cap):=by
    refine .t _ _ (.sl sz es p.b (p.lo+0) cap f hc (fun j e he=>hsz e (qas he)) (fun q j hq hj=>.inr ⟨rfl,by omega,by have:=hlt q j hq hj;omega⟩) (fun q j hq hj=>(hf _ (hlt q j hq hj)).1) (fun q j hq hj=>(hf _ (hlt q j hq hj)).2.1) (fun q e j c he hc'=>?_))
    have hq:=(qab.1 he).1
    have hj:=(qab.1 hc').1
    rw[hsz e (qas he)]at hj
    have hcc:cs[q*sz+j]?=some (.t c):=by rw[hcs,qaq,l2 q j e c he hc'];rfl
    exact zweq
   refine zaY (k φ ⟨fun b o=>m.A b o\/(b=p.b/\p.lo≤o/\o<p.lo+cs.length),m.β.set id p,m.H.set id .dead,m.w⟩ a (by rw[h1];exact hH') hm' ⟨h3.1,fun j v hv=>?_⟩ (h4.step h2 s)) fun _ _ _ hp=>hp.step s
   by_cases hj:i=j
   ·exact zwgb
   ·exact zwfs
end rules
end Go.TL
