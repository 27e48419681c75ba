import Derived.Test.YtpfnfpaahefdaaaGreatPk8
set_option linter.all false
namespace Go.Proofs.YtpfnfpaahefdaaaGreat
open Go Go.TL
theorem hmix:Tryz.prog.follows .mixedOrders=true:=by kernel_rfl
attribute [local irreducible] TR TO Then zab RetK Sound zac Kf GG za2
structure Hold (Q:Prop):Prop where
 p:Q
theorem wk{G Q:Prop}(k:Q)(h:Hold Q->G:=by
  first
  | (intro k;apply TO.go zaa 300 false;exact rfl;(first|apply GG.to|apply GG.stop|apply GG.tr0|apply GG.tr|apply GG.ex);exact k.p)
  | (intro k;apply TR.go0 zaa 300 false;exact rfl;(first|apply GG.to|apply GG.stop|apply GG.tr0|apply GG.tr|apply GG.ex);exact k.p)
  | (intro k;apply TR.go zaa 300 false;exact rfl;(first|apply GG.to|apply GG.stop|apply GG.tr0|apply GG.tr|apply GG.ex);exact k.p)
  | (intro k;apply TO.go0 zaa 300 false;exact rfl;(first|apply GG.to|apply GG.stop|apply GG.tr0|apply GG.tr|apply GG.ex);exact k.p)
  | (intro k;apply za2.go;exact k.p)
  | (intro k;apply zds.go zaa 300 false;exact rfl;(first|apply GG.to|apply GG.stop|apply GG.tr0|apply GG.tr|apply GG.ex);exact k.p)
  | (intro k;apply zds.fin;exact k.p)
  | (intro k;apply TO.want;exact rfl;exact k.p)
  | (intro k;apply TO.add;(iterate 3 exact rfl);exact zqf;exact zqf;exact k.p)
  | (intro k;apply TO.zaI;(iterate 3 exact rfl);exact zqf;exact zqf;exact k.p)
  | (intro k;apply TO.zay zaa;(iterate 8 exact rfl);assumption;exact rfl;exact k.p)
  | (intro k;apply TO.zay (j:=0) zaa;(iterate 10 exact rfl);exact k.p)
  | (intro k;apply TO.zay (j:=1) zaa;(iterate 10 exact rfl);exact k.p)
  | (intro k;apply TO.zay (j:=2) zaa;(iterate 10 exact rfl);exact k.p)
  | (intro k;apply TO.indexAddr zaa;(iterate 8 exact rfl);omega;assumption;exact k.p)
  | (intro k;apply TO.zaw zaa;(iterate 5 exact rfl);assumption;exact k.p)
  | (intro k;apply TO.zau zaa;(iterate 5 exact rfl);decide;exact rfl;exact k.p)
  | (intro k;apply TO.zau zaa;(iterate 5 exact rfl);omega;assumption;exact k.p)
  | (intro k;apply TO.maxi;(iterate 3 exact rfl);exact k.p)
  | (intro k;apply TO.mini;(iterate 3 exact rfl);exact k.p)
  | (intro k;apply TR.regionLf hmix;decide +kernel;exact rfl;exact k.p)
  | (intro k;apply TR.zot hmix;decide +kernel;exact rfl;exact k.p)
  | (intro k;apply TR.zos hmix;decide +kernel;exact rfl;exact k.p)
  | (intro k;apply TR.zaU hmix;kernel_rfl;exact rfl;exact k.p)
  | (intro k;apply TO.zl9 zaa;(iterate 13 exact rfl);exact zqf;exact rfl;exact k.p)
  | (intro k;apply TO.ssl2 zaa;(iterate 9 exact rfl);omega;omega;exact k.p)
  | (intro k;apply TO.ssl_lo zaa;(iterate 8 exact rfl);omega;exact k.p)
  | (intro k;apply TO.ssl_hi zaa;(iterate 8 exact rfl);omega;exact k.p)
  | (intro k;apply TO.zbb zaa;(iterate 6 exact rfl);omega;omega;exact k.p)
  | (intro k;apply TO.zaB zaa;(iterate 5 exact rfl);omega;exact k.p)
  | (intro k;apply TO.zaE zaa;(iterate 5 exact rfl);omega;exact k.p)
  | (intro k;apply TO.convert_u8;exact rfl;kernel_rfl;kernel_rfl;exact rfl;exact k.p)
  | (intro k;apply TO.eqb;(iterate 3 exact rfl);kernel_rfl;exact k.p)
  | (intro k;apply TO.neb;(iterate 3 exact rfl);kernel_rfl;exact k.p)
  | (intro k;apply TO.go zaa 0 false;exact rfl;(first|apply GG.to|apply GG.stop|apply GG.tr0|apply GG.tr|apply GG.ex);exact k.p)
  | (intro k;apply TR.go0 zaa 0 false;exact rfl;(first|apply GG.to|apply GG.stop|apply GG.tr0|apply GG.tr|apply GG.ex);exact k.p)
  | (intro k;apply TR.go zaa 0 false;exact rfl;(first|apply GG.to|apply GG.stop|apply GG.tr0|apply GG.tr|apply GG.ex);exact k.p)
  | (intro k;apply TO.go0 zaa 0 false;exact rfl;(first|apply GG.to|apply GG.stop|apply GG.tr0|apply GG.tr|apply GG.ex);exact k.p)
  | (intro k;apply zds.go zaa 0 false;exact rfl;(first|apply GG.to|apply GG.stop|apply GG.tr0|apply GG.tr|apply GG.ex);exact k.p)
  | (intro k;apply zac.exit;exact k.p)
  | (intro k;apply zac.ret;exact k.p)):G:=h ⟨k⟩
theorem wkt{G Q:Prop}(k:Q)(h:Hold Q->G:=by
  first
  | (intro k;apply TO.go zaa 300 true;exact rfl;(first|apply GG.to|apply GG.stop|apply GG.tr0|apply GG.tr|apply GG.ex);exact k.p)
  | (intro k;apply TR.go0 zaa 300 true;exact rfl;(first|apply GG.to|apply GG.stop|apply GG.tr0|apply GG.tr|apply GG.ex);exact k.p)
  | (intro k;apply TR.go zaa 300 true;exact rfl;(first|apply GG.to|apply GG.stop|apply GG.tr0|apply GG.tr|apply GG.ex);exact k.p)
  | (intro k;apply TO.go0 zaa 300 true;exact rfl;(first|apply GG.to|apply GG.stop|apply GG.tr0|apply GG.tr|apply GG.ex);exact k.p)
  | (intro k;apply zds.go zaa 300 true;exact rfl;(first|apply GG.to|apply GG.stop|apply GG.tr0|apply GG.tr|apply GG.ex);exact k.p)
  | (intro k;apply TO.zqq zaa;(iterate 6 exact rfl);exact leB;exact k.p)):G:=h ⟨k⟩
theorem wkb{G Q:Prop}(k:Q)(h:Hold Q->G:=by
  first
  | (intro k;apply TO.go zaa 300 true;exact rfl;(first|apply GG.to|apply GG.stop|apply GG.tr0|apply GG.tr|apply GG.ex);exact k.p)
  | (intro k;apply TR.go0 zaa 300 true;exact rfl;(first|apply GG.to|apply GG.stop|apply GG.tr0|apply GG.tr|apply GG.ex);exact k.p)
  | (intro k;apply TR.go zaa 300 true;exact rfl;(first|apply GG.to|apply GG.stop|apply GG.tr0|apply GG.tr|apply GG.ex);exact k.p)
  | (intro k;apply TO.go0 zaa 300 true;exact rfl;(first|apply GG.to|apply GG.stop|apply GG.tr0|apply GG.tr|apply GG.ex);exact k.p)
  | (intro k;apply zds.go zaa 300 true;exact rfl;(first|apply GG.to|apply GG.stop|apply GG.tr0|apply GG.tr|apply GG.ex);exact k.p)):G:=h ⟨k⟩
theorem wu{G Q:Prop}(k:Q)(h:Hold Q->G:=by first|(intro k;exact wkt k.p)|(intro k;exact wk k.p)):G:=h ⟨k⟩
theorem wk2{G Q1 Q2:Prop}(k1:Q1)(k2:Q2)(h:Hold Q1->Hold Q2->G:=by
  intro k1 k2
  first
  | (apply TO.ceq;(iterate 3 exact rfl);exact k1.p;exact k2.p)
  | (apply TO.cne;(iterate 3 exact rfl);exact k1.p;exact k2.p)
  | (apply TO.clt;(iterate 3 exact rfl);exact k1.p;exact k2.p)
  | (apply TO.cle;(iterate 3 exact rfl);exact k1.p;exact k2.p)
  | (apply TO.cgt;(iterate 3 exact rfl);exact k1.p;exact k2.p)
  | (apply TO.cge;(iterate 3 exact rfl);exact k1.p;exact k2.p)
  | (apply TO.seq';(iterate 3 exact rfl);exact k1.p;exact k2.p)
  | (apply TO.sne';(iterate 3 exact rfl);exact k1.p;exact k2.p)
  | (apply TR.zrm;exact rfl;exact k1.p;exact k2.p)):G:=h ⟨k1⟩ ⟨k2⟩
theorem wkc{G:Prop}(h:G:=by
  first
  | (intro hc;exact absurd hc (by decide))
  | (intro hc;exfalso;simp only[qac,qaf]at hc;omega)
  | (intro hc;exfalso;simp only[decide_eq_true_eq,decide_eq_false_iff_not,beq_iff_eq,beq_eq_false_iff_ne,bne_iff_ne,bne_eq_false_iff_eq,ne_eq,qam,not_true_eq_false]at hc <;> omega)
  | (intro hc;exfalso;omega)):G:=h
theorem wv{G Q:Prop}{f:FuncId}{cargs:List SV}{v:SV}(hs:Pure Tryz.prog f cargs v)(k:Q)(h:Pure Tryz.prog f cargs v->Hold Q->G:=by
  intro hs k
  first
  | (apply TO.zlf hs;(iterate 3 exact rfl);exact zqa;exact rfl;exact rfl;exact k.p)
  | (apply TO.zmn hs;(iterate 3 exact rfl);(repeat' (first|exact trivial|exact LeB.t _|exact LeB.cp _ _|exact LeB.fn0 _|exact LeB.any _|refine qai ?_ ?_|fail));exact Go.TL.Rigid.v _;exact k.p)):G:=h hs ⟨k⟩
theorem wb{G Q1 Q2:Prop}{f:FuncId}{cargs:List SV}{b:Bool}(hs:Pure Tryz.prog f cargs (.t (.v (.bool b))))(k1:Q1)(k2:Q2)(h:Pure Tryz.prog f cargs (.t (.v (.bool b)))->Hold Q1->Hold Q2->G:=by
  intro hs k1 k2
  apply TO.zdH hs;(iterate 3 exact rfl)
  (repeat' (first|exact trivial|exact LeB.t _|exact LeB.cp _ _|exact LeB.fn0 _|exact LeB.any _|refine qai ?_ ?_|refine LeB.tree rfl ?_|exact TLe.refl _|exact TLe.nil _|refine TLe.ags ?_|fail))
  exact k1.p
  exact k2.p):G:=h hs ⟨k1⟩ ⟨k2⟩
theorem wd{G Q:Prop}{f:FuncId}{cargs:List SV}{v:SV}{Hc Hc1:Heap}(hs:Sound Tryz.prog f cargs Hc fun r H'=>r= .ret v/\H'=Hc1)(k:Q)(h:(Sound Tryz.prog f cargs Hc fun r H'=>r= .ret v/\H'=Hc1)->Hold Q->G:=by
  intro hs k
  first
  | (apply TO.znR 1 hs;(iterate 3 exact rfl);exact zqa;(iterate 8 exact rfl);exact k.p)
  | (apply TO.znR 2 hs;(iterate 3 exact rfl);exact zqa;(iterate 8 exact rfl);exact k.p)
  | (apply TO.znR 3 hs;(iterate 3 exact rfl);exact zqa;(iterate 8 exact rfl);exact k.p)):G:=h hs ⟨k⟩
theorem wkr{G:Prop}(h:G:=by
  first
  | exact RetK.pure rfl (Le.refl _) rfl
  | exact RetK.pureN rfl (Le.refl _) rfl
  | ((first|refine RetK.pure rfl ?_ rfl|refine RetK.pureN rfl ?_ rfl);repeat' (first|exact Le.refl _|exact trivial|refine Le.tup ⟨?_,?_⟩|refine qai ?_ ?_|exact Le.any _|refine Le.tree rfl ?_|exact TLe.refl _|exact TLe.nil _|refine TLe.ags ⟨?_,?_⟩|fail))):G:=h
end Go.Proofs.YtpfnfpaahefdaaaGreat
namespace Go.Proofs.YtpfnfpaahefdaaaGreat
open Go Go.TL
attribute [local irreducible] TR TO Then zab RetK Sound zac Kf GG za2
abbrev I64:={n:Int // -9223372036854775808≤n/\n≤9223372036854775807}
instance:Inhabited I64:=⟨⟨0,by decide⟩⟩
abbrev _root_.Go.TL.T.n (n:I64):T:=.v (.int .i64 n.1)
abbrev _root_.Go.TL.SV.n (n:I64):SV:=.t (.v (.int .i64 n.1))
inductive Ex where
 | mk (kind op t v:I64) (name:Str) (args:List Ex)
instance:Inhabited Ex:=⟨.mk default default default default [] []⟩
namespace Ex
def kind:Ex->I64| .mk k _ _ _ _ _=>k
def op:Ex->I64| .mk _ o _ _ _ _=>o
def t:Ex->I64| .mk _ _ t _ _ _=>t
def v:Ex->I64| .mk _ _ _ v _ _=>v
def name:Ex->Str| .mk _ _ _ _ n _=>n
def args:Ex->List Ex| .mk _ _ _ _ _ l=>l
end Ex
def exT:Ex->T
 | .mk k o t v n l=>.ag [T.n k,T.n o,T.n t,T.n v,.s n,.sl 6 (l.attach.map fun x=>exT x.1)]
decreasing_by
 have:=qbe x.2
 simp;omega
theorem zoX(k o t v:I64)(n:Str)(l:List Ex):exT (.mk k o t v n l)= .ag [T.n k,T.n o,T.n t,T.n v,.s n,.sl 6 (l.map exT)]:=by
 rw[exT];simp
def exC(e:Ex):List T:=[T.n e.kind,T.n e.op,T.n e.t,T.n e.v,.s e.name,.sl 6 (e.args.map exT)]
theorem zao(e:Ex):exT e= .ag (exC e):=by cases e;rw[zoX];rfl
structure OnC where
 name:Str
 t:I64
 tag:I64
structure Decl where
 name:Str
 ty:I64
 clock:List OnC
structure Equ where
 left:List Str
 right:Ex
structure Tran where
 cond:Ex
 to:I64
 resume:Bool
mutual
inductive Auto where
 | mk (states:List Sta)
inductive Sta where
 | mk (name:Str) (locals:List Decl) (eqs:List Equ) (autos:List Auto) (unl unt:List Tran)
end
structure Nod where
 name:Str
 ins:List Decl
 outs:List Decl
 locals:List Decl
 eqs:List Equ
 autos:List Auto
 assume:List Ex
 ensure:List Ex
structure En where
 name:Str
 tags:List Str
structure Prog where
 enums:List En
 nodes:List Nod
namespace Auto
def states:Auto->List Sta| .mk l=>l
end Auto
namespace Sta
def name:Sta->Str| .mk n _ _ _ _ _=>n
def locals:Sta->List Decl| .mk _ l _ _ _ _=>l
def eqs:Sta->List Equ| .mk _ _ l _ _ _=>l
def autos:Sta->List Auto| .mk _ _ _ l _ _=>l
def unl:Sta->List Tran| .mk _ _ _ _ l _=>l
def unt:Sta->List Tran| .mk _ _ _ _ _ l=>l
end Sta
def onT(o:OnC):T:=.ag [.s o.name,T.n o.t,T.n o.tag]
def zag(d:Decl):T:=.ag [.s d.name,T.n d.ty,.sl 3 (d.clock.map onT)]
def equT(q:Equ):T:=.ag (.sl 1 (q.left.map T.s)::exC q.right)
def zaW(q:Tran):T:=.ag [T.n q.cond.kind,T.n q.cond.op,T.n q.cond.t,T.n q.cond.v,.s q.cond.name,.sl 6 (q.cond.args.map exT),T.n q.to,.b q.resume]
mutual
def zaG:Auto->T
 | .mk l=>.ag [.sl 6 (l.attach.map fun x=>staT x.1)]
decreasing_by
 have:=qbe x.2
 simp;omega
def staT:Sta->T
 | .mk n l q a u v=>.ag [.s n,.sl 3 (l.map zag),.sl 7 (q.map equT),.sl 1 (a.attach.map fun x=>zaG x.1),.sl 8 (u.map zaW),.sl 8 (v.map zaW)]
decreasing_by
 have:=qbe x.2
 simp;omega
end
theorem zdt(a:Auto):zaG a= .ag [.sl 6 (a.states.map staT)]:=by cases a;rw[zaG];simp[Auto.states]
theorem zdc(s:Sta):staT s= .ag [.s s.name,.sl 3 (s.locals.map zag),.sl 7 (s.eqs.map equT),.sl 1 (s.autos.map zaG),.sl 8 (s.unl.map zaW),.sl 8 (s.unt.map zaW)]:=by
 cases s;rw[staT];simp[Sta.name,Sta.locals,Sta.eqs,Sta.autos,Sta.unl,Sta.unt]
def nodT(n:Nod):T:=.ag [.s n.name,.sl 3 (n.ins.map zag),.sl 3 (n.outs.map zag),.sl 3 (n.locals.map zag),.sl 7 (n.eqs.map equT),.sl 1 (n.autos.map zaG),.sl 6 (n.assume.map exT),.sl 6 (n.ensure.map exT)]
def enT(e:En):T:=.ag [.s e.name,.sl 1 (e.tags.map T.s)]
def zeN(p:Prog):T:=.ag [.sl 2 (p.enums.map enT),.sl 8 (p.nodes.map nodT)]
def wEx:Ex->Nat
 | .mk _ _ _ _ _ l=>1+(l.attach.map fun x=>wEx x.1).sum
decreasing_by
 have:=qbe x.2
 simp;omega
theorem zdY(e:Ex):wEx e=1+(e.args.map wEx).sum:=by cases e;rw[wEx];simp[Ex.args]
theorem zj0{α:Type}(f:α->Nat):∀ {l:List α} {x:α},x∈l->f x≤(l.map f).sum
 | a::l,x,h=>by
   rcases qa8.1 h with rfl|h
   ·simp
   ·have:=zj0 f h
    simp;omega
theorem zjZ{α:Type}(f:α->Nat)(hf:∀x,1≤f x):∀(l:List α),l.length≤(l.map f).sum
 | []=>by simp
 | a::l=>by
   have:=zjZ f hf l
   have:=hf a
   simp;omega
theorem ze9(e:Ex):1≤wEx e:=by rw[zdY];omega
theorem zdX{e x:Ex}(h:x∈e.args):wEx x<wEx e:=by
 have:=zj0 wEx h
 rw[zdY e];omega
theorem zk1(e:Ex):e.args.length<wEx e:=by
 have:=zjZ wEx ze9 e.args
 rw[zdY];omega
theorem zbW{α:Type}(f:α->T){l:List α}{k:Nat}(h:k<l.length):(l.map f)[k]?=some (f l[k]):=by simp[h]
theorem zg0{l:List Ex}{k:Nat}(h:k<l.length):(l.map exT)[k]?=some (.ag (exC l[k])):=by simp[h,zao]
end Go.Proofs.YtpfnfpaahefdaaaGreat
namespace Go.Proofs.YtpfnfpaahefdaaaGreat
open Go Go.TL
attribute [local irreducible] TR TO Then zab RetK Sound zac Kf GG za2
inductive PR (α:Type) where
 | ok (v:α) (i:Nat)
 | er (k:Nat) (c:Int)
def PR.bind{α β:Type}:PR α->(α->Nat->PR β)->PR β
 | .ok v i,f=>f v i
 | .er k c,_=>.er k c
structure Rd where
 K:List (Int×Str)
 es:List En
def Rd.isAt(R:Rd)(i:Nat)(s:Str):Bool:=match R.K[i]? with
 | some t=>(decide (t.1=3) || decide (t.1=4)) && decide (t.2=s)
 | none=>false
def Rd.kind(R:Rd)(i:Nat)(k:Int):Bool:=match R.K[i]? with
 | some t=>decide (t.1=k)
 | none=>false
def Rd.txt(R:Rd)(i:Nat):Str:=match R.K[i]? with
 | some t=>t.2
 | none=>[]
def Rd.must(R:Rd):List Str->Nat->PR Unit
 | [],i=>.ok () i
 | s::ss,i=>if R.isAt i s=true then R.must ss (i+1) else .er i 5
def Rd.id(R:Rd)(i:Nat):PR Str:=if R.kind i 1=true then .ok (R.txt i) (i+1) else .er i 5
def limR(n most i:Nat):PR Unit:=if most≤n then .er i 3 else .ok () i
def idxOf(s:Str):Nat->List Str->Option Nat
 | _,[]=>none
 | k,t::l=>if t=s then some k else idxOf s (k+1) l
def zdE(s:Str):Nat->List En->Option (Nat×Nat)
 | _,[]=>none
 | k,u::l=>match idxOf s 0 u.tags with
   | some j=>some (3+k,j)
   | none=>zdE s (k+1) l
def Rd.tag(R:Rd)(s:Str):Option (Nat×Nat):=zdE s 0 R.es
def Rd.aTag(R:Rd)(i:Nat):PR (Nat×Nat):=
 if R.isAt i [116,114,117,101]=true then .ok (1,1) (i+1) else if R.isAt i [102,97,108,115,101]=true then .ok (1,0) (i+1) else
 (R.id i).bind fun s j=>match R.tag s with
   | some tv=>.ok tv j
   | none=>.er (j-1) 6
def toI(x:Int):I64:=if h:-9223372036854775808≤x/\x≤9223372036854775807 then⟨x,h⟩ else⟨0,by decide⟩
def Rd.sampling(R:Rd)(i:Nat):PR OnC:=
 (R.aTag i).bind fun tv i=>(R.must [[40]] i).bind fun _ i=>(R.id i).bind fun s i=>(R.must [[41]] i).bind fun _ i=>.ok ⟨s,toI tv.1,toI tv.2⟩ i
def numV(s:Str):Int:=s.foldl (fun n c=>10*n+((c.toNat:Int)-48)) 0
def mkE(k o t v:Int)(s:Str)(l:List Ex):Ex:=.mk (toI k) (toI o) (toI t) (toI v) s l
def zlP(n:Nat)(s:Str):Option Int:=
 if n=0 then(if s=[111,114] then some 4 else if s=[120,111,114] then some 5 else none)
 else if n=1 then(if s=[97,110,100] then some 3 else none)
 else if n=3 then(if s=[61] then some 11 else if s=[60,62] then some 12 else if s=[60] then some 13 else if s=[60,61] then some 14 else if s=[62] then some 15 else if s=[62,61] then some 16 else none)
 else if n=4 then(if s=[43] then some 6 else if s=[45] then some 7 else none)
 else(if s=[42] then some 8 else if s=[47] then some 9 else if s=[109,111,100] then some 10 else none)
def Rd.oper(R:Rd)(n i:Nat):Option Int:=if(R.kind i 3 || R.kind i 4)=true then zlP n (R.txt i) else none
def Rd.neg(R:Rd)(i:Nat):Bool:=R.isAt i [45] && R.kind (i+1) 2
def Rd.ops(R:Rd)(f:Nat->PR Ex)(n:Nat):Nat->Ex->Nat->PR Ex
 | 0,a,i=>.ok a i
 | m+1,a,i=>match R.oper n i with
   | none=>.ok a i
   | some op=>(f (i+1)).bind fun b j=>if n=3 then .ok (mkE 3 op 0 0 [] [a,b]) j else R.ops f n m (mkE 3 op 0 0 [] [a,b]) j
def Rd.whens(R:Rd):Nat->Ex->Nat->PR Ex
 | 0,e,i=>.ok e i
 | m+1,e,i=>if R.isAt i [119,104,101,110]=true then(R.sampling (i+1)).bind fun o j=>R.whens m (.mk (toI 8) (toI 0) o.t o.tag o.name [e]) j else .ok e i
def Rd.args(R:Rd)(f:Nat->PR Ex):Nat->List Ex->Nat->PR (List Ex)
 | 0,l,i=>.ok l i
 | m+1,l,i=>if R.isAt i [44]=true then(f (i+1)).bind fun b j=>R.args f m (l++[b]) j else .ok l i
def Rd.call(R:Rd)(f g:Nat->PR Ex)(s:Str)(i:Nat):PR Ex:=
 (if R.isAt i [41]=true then .ok [] (i+1) else(f i).bind fun a j=>(R.args f R.K.length [a] j).bind fun l j=>(R.must [[41]] j).bind fun _ j=>.ok l j:PR (List Ex)).bind fun l j=>
 if R.isAt j [101,118,101,114,121]=true then(g (j+1)).bind fun a j=>.ok (mkE 10 0 0 1 s (l++[a])) j else .ok (mkE 10 0 0 0 s l) j
def Rd.wanted(R:Rd)(t v:Nat)(known:Bool)(i:Nat):PR Unit:=
 if R.isAt i [116,114,117,101]=true then(if known=true/\t≠1\/v≠1 then .er i 5 else .ok () i)
 else if R.isAt i [102,97,108,115,101]=true then(if known=true/\t≠1\/v=1\/known=false then .er i 5 else .ok () i)
 else if R.kind i 1=false then .er i 5
 else match R.tag (R.txt i) with
  | some uw=>if known=true/\(uw.1≠t\/uw.2≠v)\/known=false/\uw.2≠0 then .er i 5 else .ok () i
  | none=>if known=true then .er i 5 else .ok () i
def Rd.size(R:Rd)(t:Nat):Nat:=if t=1 then 2 else if t=2 then 65536 else match R.es[t-3]? with
 | some u=>u.tags.length
 | none=>0
def Rd.branch(R:Rd)(f:Nat->PR Ex)(t v:Nat)(known:Bool)(i:Nat):PR (Nat×Ex):=
 (R.must [[40]] i).bind fun _ i=>(R.wanted t v known i).bind fun _ _=>(R.aTag i).bind fun tv j=>
 if known=true/\tv.1≠t then .er i 5 else(R.must [[45,62]] j).bind fun _ j=>(f j).bind fun e j=>(R.must [[41]] j).bind fun _ j=>.ok (tv.1,e) j
def Rd.branches(R:Rd)(f:Nat->PR Ex)(t size:Nat):Nat->Nat->List Ex->Nat->PR (List Ex)
 | 0,_,l,i=>.ok l i
 | m+1,k,l,i=>if size≤k then .ok l i else
   (R.branch f t (if t=1 then 1-k else k) true i).bind fun te j=>R.branches f t size m (k+1) (l.set (if t=1 then 1-k else k) te.2) j
def noE:Ex:=mkE 0 0 0 0 [] []
def Rd.merge(R:Rd)(f:Nat->PR Ex)(i:Nat):PR Ex:=
 (R.id i).bind fun s i=>(R.branch f 0 (if R.isAt (i+1) [116,114,117,101]=true then 1 else 0) false i).bind fun te j=>
 (R.branches f te.1 (R.size te.1) (R.size te.1) 1 ((List.replicate (R.size te.1) noE).set (if R.isAt (i+1) [116,114,117,101]=true then 1 else 0) te.2) j).bind fun l j=>
 .ok (mkE 9 0 te.1 0 s l) j
def Rd.ident(R:Rd)(f g:Nat->PR Ex)(i:Nat):PR Ex:=
 (R.id i).bind fun s j=>if R.isAt j [40]=true then R.call f g s (j+1) else match R.tag s with
   | some tv=>.ok (mkE 1 0 tv.1 tv.2 [] []) j
   | none=>.ok (mkE 2 0 0 0 s []) j
def Rd.prim(R:Rd)(f g:Nat->PR Ex)(i:Nat):PR Ex:=
 if R.neg i=true then .ok (mkE 1 0 2 (-numV (R.txt (i+1))) [] []) (i+2)
 else if R.isAt i [45]=true then .er (i+1) 5
 else if R.kind i 2=true then(if 32767<numV (R.txt i) then .er i 14 else .ok (mkE 1 0 2 (numV (R.txt i)) [] []) (i+1))
 else if R.kind i 5=true then .ok (mkE 11 0 0 0 (R.txt i) []) (i+1)
 else if R.isAt i [116,114,117,101]=true then .ok (mkE 1 0 1 1 [] []) (i+1)
 else if R.isAt i [102,97,108,115,101]=true then .ok (mkE 1 0 1 0 [] []) (i+1)
 else if R.isAt i [40]=true then(f (i+1)).bind fun e j=>(R.must [[41]] j).bind fun _ j=>.ok e j
 else if R.isAt i [105,102]=true then(f (i+1)).bind fun c j=>(R.must [[116,104,101,110]] j).bind fun _ j=>(f j).bind fun a j=>(R.must [[101,108,115,101]] j).bind fun _ j=>(f j).bind fun b j=>.ok (mkE 4 0 0 0 [] [c,a,b]) j
 else if R.isAt i [109,101,114,103,101]=true then R.merge f (i+1)
 else R.ident f g i
inductive G where
 | expr
 | level (n:Nat)
 | unary
 | prim
def pF(R:Rd):Nat->G->Nat->PR Ex
 | 0,_,i=>.er i 5
 | m+1,.expr,i=>(pF R m (.level 0) i).bind fun a j=>
   if R.isAt j [45,62]=true then(pF R m .expr (j+1)).bind fun b k=>.ok (mkE 6 0 0 0 [] [a,b]) k
   else if R.isAt j [102,98,121]=true then(pF R m .expr (j+1)).bind fun b k=>.ok (mkE 7 0 0 0 [] [a,b]) k
   else .ok a j
 | m+1,.level n,i=>
   if n=2 then(if R.isAt i [110,111,116]=true then(pF R m (.level 2) (i+1)).bind fun a j=>.ok (mkE 3 1 0 0 [] [a]) j else pF R m (.level 3) i)
   else if n=6 then pF R m .unary i
   else(pF R m (.level (n+1)) i).bind fun a j=>R.ops (pF R m (.level (n+1))) n R.K.length a j
 | m+1,.unary,i=>
   if R.neg i=false/\R.isAt i [45]=true then(pF R m .unary (i+1)).bind fun a j=>.ok (mkE 3 2 0 0 [] [a]) j
   else if R.neg i=false/\R.isAt i [112,114,101]=true then(pF R m .unary (i+1)).bind fun a j=>.ok (mkE 5 0 0 0 [] [a]) j
   else(pF R m .prim i).bind fun e j=>R.whens R.K.length e j
 | m+1,.prim,i=>R.prim (pF R m .expr) (pF R m .prim) i
def Rd.expr(R:Rd)(i:Nat):PR Ex:=pF R (10*R.K.length+10) .expr i
def InR(n lo:Nat){α:Type}:PR α->Prop
 | .ok _ j=>lo≤j/\j≤n
 | .er k c=>k≤n/\c≠0
theorem InR.bind{n lo lo':Nat}{α β:Type}{r:PR α}{f:α->Nat->PR β}(h:InR n lo r)(hf:∀v j,lo≤j->j≤n->InR n lo' (f v j)):InR n lo' (r.bind f):=by
 cases r with
 | ok v j=>exact hf v j h.1 h.2
 | er k c=>exact h
theorem InR.le{n lo lo':Nat}{α:Type}{r:PR α}(h:InR n lo r)(hl:lo'≤lo):InR n lo' r:=by
 cases r with
 | ok v j=>exact⟨qa9 hl h.1,h.2⟩
 | er k c=>exact h
theorem InR.ite{n lo:Nat}{α:Type}{c:Prop}[Decidable c]{a b:PR α}(ha:c->InR n lo a)(hb:¬c->InR n lo b):InR n lo (if c then a else b):=by
 split
 ·rename_i h;exact ha h
 ·rename_i h;exact hb h
section
variable {R:Rd}
theorem zam{i:Nat}{s:Str}(h:R.isAt i s=true):i<R.K.length:=by
 unfold Rd.isAt at h
 exact zwex
theorem zcu{i:Nat}{k:Int}(h:R.kind i k=true):i<R.K.length:=by
 unfold Rd.kind at h
 exact zwex
theorem zaQ:∀(ss:List Str) {i:Nat},i≤R.K.length->InR R.K.length (i+ss.length) (R.must ss i)
 | [],i,h=>⟨qae _,h⟩
 | s::ss,i,h=>by
   unfold Rd.must
   refine InR.ite (fun hs=>(zaQ ss (zam hs)).le (by simp only[qac];omega)) fun _=>⟨h,by decide⟩
theorem zea{i:Nat}(h:i≤R.K.length):InR R.K.length (i+1) (R.id i):=by
 unfold Rd.id
 exact InR.ite (fun hs=>⟨qae _,zcu hs⟩) fun _=>⟨h,by decide⟩
theorem zcO{n most i:Nat}(h:i≤R.K.length):InR R.K.length i (limR n most i):=by
 unfold limR
 exact InR.ite (fun _=>⟨h,by decide⟩) fun _=>⟨qae _,h⟩
theorem zhx{i:Nat}(h:i≤R.K.length):InR R.K.length (i+1) (R.aTag i):=by
 unfold Rd.aTag
 exact zwbm
theorem zdB{i:Nat}(h:i≤R.K.length):InR R.K.length (i+1) (R.sampling i):=by
 unfold Rd.sampling
 refine(zhx h).bind fun _ j h1 h2=>(zaQ _ h2).bind fun _ j h3 h4=>(zea h4).bind fun _ j h5 h6=>(zaQ _ h6).bind fun _ j h7 h8=>⟨?_,h8⟩
 simp only[qac,qaf]at *;omega
theorem zm5{n i:Nat}{o:Int}(h:R.oper n i=some o):i<R.K.length:=by
 unfold Rd.oper at h
 split at h
 ·rename_i hk
  rcases Bool.or_eq_true_iff.1 hk with hk|hk <;> exact zcu hk
 ·cases h
theorem zo6{f:Nat->PR Ex}(hf:∀i,i≤R.K.length->InR R.K.length (i+1) (f i))(n:Nat):∀(m:Nat) (a:Ex) {i:Nat},i≤R.K.length->InR R.K.length i (R.ops f n m a i)
 | 0,a,i,h=>⟨qae _,h⟩
 | m+1,a,i,h=>by
   unfold Rd.ops
   split
   ·exact⟨qae _,h⟩
   ·rename_i op ho
    refine(hf _ (zm5 ho)).bind fun b j h1 h2=>InR.ite (fun _=>⟨by omega,h2⟩) fun _=>(zo6 hf n m _ h2).le (by omega)
theorem zk3:∀(m:Nat) (e:Ex) {i:Nat},i≤R.K.length->InR R.K.length i (R.whens m e i)
 | 0,e,i,h=>⟨qae _,h⟩
 | m+1,e,i,h=>by
   unfold Rd.whens
   exact InR.ite (fun hs=>(zdB (zam hs)).bind fun o j h1 h2=>(zk3 m _ h2).le (by omega)) fun _=>⟨qae _,h⟩
theorem zma{f:Nat->PR Ex}(hf:∀i,i≤R.K.length->InR R.K.length (i+1) (f i)):∀(m:Nat) (l:List Ex) {i:Nat},i≤R.K.length->InR R.K.length i (R.args f m l i)
 | 0,l,i,h=>⟨qae _,h⟩
 | m+1,l,i,h=>by
   unfold Rd.args
   exact InR.ite (fun hs=>(hf _ (zam hs)).bind fun o j h1 h2=>(zma hf m _ h2).le (by omega)) fun _=>⟨qae _,h⟩
theorem zmp{f g:Nat->PR Ex}(hf:∀i,i≤R.K.length->InR R.K.length (i+1) (f i))(hg:∀i,i≤R.K.length->InR R.K.length (i+1) (g i))(s:Str){i:Nat}(h:i≤R.K.length):InR R.K.length (i+1) (R.call f g s i):=by
 unfold Rd.call
 refine InR.bind (lo:=i+1) ?_ fun l j h1 h2=>InR.ite (fun hs=>(hg _ (zam hs)).bind fun a j h3 h4=>⟨by omega,h4⟩) fun _=>⟨h1,h2⟩
 refine InR.ite (fun hs=>⟨qae _,zam hs⟩) fun _=>(hf i h).bind fun a j h1 h2=>(zma hf _ _ h2).bind fun l j h3 h4=>(zaQ _ h4).bind fun _ j h5 h6=>⟨?_,h6⟩
 omega
theorem zja{t v:Nat}{known:Bool}{i:Nat}(h:i≤R.K.length):InR R.K.length i (R.wanted t v known i):=by
 unfold Rd.wanted
 repeat' split
 all_goals first
  | exact⟨h,by decide⟩
  | exact⟨qae _,h⟩
theorem zij{f:Nat->PR Ex}(hf:∀i,i≤R.K.length->InR R.K.length (i+1) (f i)){t v:Nat}{known:Bool}{i:Nat}(h:i≤R.K.length):InR R.K.length (i+1) (R.branch f t v known i):=by
 unfold Rd.branch
 refine(zaQ _ h).bind fun _ j h1 h2=>(zja h2).bind fun _ _ _ _=>(zhx h2).bind fun tv k h3 h4=>InR.ite (fun _=>⟨h2,by decide⟩) fun _=>(zaQ _ h4).bind fun _ k h5 h6=>(hf _ h6).bind fun e k h7 h8=>(zaQ _ h8).bind fun _ k h9 h10=>⟨?_,h10⟩
 simp only[qac,qaf]at *;omega
theorem zfS{f:Nat->PR Ex}(hf:∀i,i≤R.K.length->InR R.K.length (i+1) (f i)){t size:Nat}:∀(m k:Nat) (l:List Ex) {i:Nat},i≤R.K.length->InR R.K.length i (R.branches f t size m k l i)
 | 0,k,l,i,h=>⟨qae _,h⟩
 | m+1,k,l,i,h=>by
   unfold Rd.branches
   exact InR.ite (fun _=>⟨qae _,h⟩) fun _=>(zij hf h).bind fun te j h1 h2=>(zfS hf m _ _ h2).le (by omega)
theorem zkD{f:Nat->PR Ex}(hf:∀i,i≤R.K.length->InR R.K.length (i+1) (f i)){i:Nat}(h:i≤R.K.length):InR R.K.length (i+1) (R.merge f i):=by
 unfold Rd.merge
 exact(zea h).bind fun _ j h1 h2=>(zij hf h2).bind fun te j h3 h4=>(zfS hf _ _ _ h4).bind fun l j h5 h6=>⟨by omega,h6⟩
theorem zn7{f g:Nat->PR Ex}(hf:∀i,i≤R.K.length->InR R.K.length (i+1) (f i))(hg:∀i,i≤R.K.length->InR R.K.length (i+1) (g i)){i:Nat}(h:i≤R.K.length):InR R.K.length (i+1) (R.ident f g i):=by
 unfold Rd.ident
 refine(zea h).bind fun s j h1 h2=>InR.ite (fun hs=>(zmp hf hg s (zam hs)).le (by omega)) fun _=>?_
 split <;> exact⟨h1,h2⟩
theorem zqT{i:Nat}(h:R.neg i=true):i+1<R.K.length:=by
 unfold Rd.neg at h
 exact zcu (Bool.and_eq_true_iff.1 h).2
theorem zpR{f g:Nat->PR Ex}(hf:∀i,i≤R.K.length->InR R.K.length (i+1) (f i))(hg:∀i,i≤R.K.length->InR R.K.length (i+1) (g i)){i:Nat}(h:i≤R.K.length):InR R.K.length (i+1) (R.prim f g i):=by
 unfold Rd.prim
 refine InR.ite (fun hs=>⟨by omega,zqT hs⟩) fun _=>InR.ite (fun hs=>⟨zam hs,by decide⟩) fun _=>InR.ite (fun hs=>InR.ite (fun _=>⟨h,by decide⟩) fun _=>⟨qae _,zcu hs⟩) fun _=>
  InR.ite (fun hs=>⟨qae _,zcu hs⟩) fun _=>InR.ite (fun hs=>⟨qae _,zam hs⟩) fun _=>InR.ite (fun hs=>⟨qae _,zam hs⟩) fun _=>
  InR.ite (fun hs=>(hf _ (zam hs)).bind fun e j h1 h2=>(zaQ _ h2).bind fun _ j h3 h4=>⟨by omega,h4⟩) fun _=>
  InR.ite (fun hs=>(hf _ (zam hs)).bind fun e j h1 h2=>(zaQ _ h2).bind fun _ j h3 h4=>(hf _ h4).bind fun e j h5 h6=>(zaQ _ h6).bind fun _ j h7 h8=>(hf _ h8).bind fun e j h9 h10=>⟨by omega,h10⟩) fun _=>
  InR.ite (fun hs=>(zkD hf (zam hs)).le (by omega)) fun _=>zn7 hf hg h
theorem zdy:∀(m:Nat) (g:G) {i:Nat},i≤R.K.length->InR R.K.length (i+1) (pF R m g i)
 | 0,g,i,h=>⟨h,by decide⟩
 | m+1,.expr,i,h=>by
   unfold pF
   refine(zdy m _ h).bind fun a j h1 h2=>InR.ite (fun hs=>(zdy m _ (zam hs)).bind fun b k h3 h4=>⟨by omega,h4⟩) fun _=>InR.ite (fun hs=>(zdy m _ (zam hs)).bind fun b k h3 h4=>⟨by omega,h4⟩) fun _=>⟨h1,h2⟩
 | m+1,.level n,i,h=>by
   unfold pF
   refine InR.ite (fun _=>InR.ite (fun hs=>(zdy m _ (zam hs)).bind fun b k h3 h4=>⟨by omega,h4⟩) fun _=>zdy m _ h) fun _=>InR.ite (fun _=>zdy m _ h) fun _=>(zdy m _ h).bind fun a j h1 h2=>(zo6 (fun i hi=>zdy m _ hi) n _ a h2).le h1
 | m+1,.unary,i,h=>by
   unfold pF
   refine InR.ite (fun hs=>(zdy m _ (zam hs.2)).bind fun b k h3 h4=>⟨by omega,h4⟩) fun _=>InR.ite (fun hs=>(zdy m _ (zam hs.2)).bind fun b k h3 h4=>⟨by omega,h4⟩) fun _=>(zdy m _ h).bind fun e j h1 h2=>(zk3 _ e h2).le h1
 | m+1,.prim,i,h=>by
   unfold pF
   exact zpR (fun i hi=>zdy m _ hi) (fun i hi=>zdy m _ hi) h
end
end Go.Proofs.YtpfnfpaahefdaaaGreat
