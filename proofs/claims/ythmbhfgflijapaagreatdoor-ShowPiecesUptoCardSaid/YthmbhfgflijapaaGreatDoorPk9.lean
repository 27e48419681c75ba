import Derived.Test.YthmbhfgflijapaaGreatDoorPk8
set_option linter.all false
namespace Go.Proofs.YthmbhfgflijapaaGreatDoor
open Go Go.TL
theorem hmix:Tryz.prog.follows .mixedOrders=true:=by kernel_rfl
attribute [local irreducible] TR TO Then zag RetK Sound zab Kf GG zaK
structure Hold (Q:Prop):Prop where
 p:Q
theorem wk{G Q:Prop}(k:Q)(h:Hold Q->G:=by
  first
  | (intro k;apply TO.go zaf 300 false;exact rfl;(first|apply GG.to|apply GG.stop|apply GG.tr0|apply GG.tr|apply GG.ex);exact k.p)
  | (intro k;apply TR.go0 zaf 300 false;exact rfl;(first|apply GG.to|apply GG.stop|apply GG.tr0|apply GG.tr|apply GG.ex);exact k.p)
  | (intro k;apply TR.go zaf 300 false;exact rfl;(first|apply GG.to|apply GG.stop|apply GG.tr0|apply GG.tr|apply GG.ex);exact k.p)
  | (intro k;apply TO.go0 zaf 300 false;exact rfl;(first|apply GG.to|apply GG.stop|apply GG.tr0|apply GG.tr|apply GG.ex);exact k.p)
  | (intro k;apply zaK.go;exact k.p)
  | (intro k;apply zdJ.go zaf 300 false;exact rfl;(first|apply GG.to|apply GG.stop|apply GG.tr0|apply GG.tr|apply GG.ex);exact k.p)
  | (intro k;apply zdJ.fin;exact k.p)
  | (intro k;apply TO.want;exact rfl;exact k.p)
  | (intro k;apply TO.add;(iterate 3 exact rfl);exact zqd;exact zqd;exact k.p)
  | (intro k;apply TO.zaV;(iterate 3 exact rfl);exact zqd;exact zqd;exact k.p)
  | (intro k;apply TO.zey zaf;(iterate 8 exact rfl);assumption;exact rfl;exact k.p)
  | (intro k;apply TO.zey (j:=0) zaf;(iterate 10 exact rfl);exact k.p)
  | (intro k;apply TO.zey (j:=1) zaf;(iterate 10 exact rfl);exact k.p)
  | (intro k;apply TO.zey (j:=2) zaf;(iterate 10 exact rfl);exact k.p)
  | (intro k;apply TO.indexAddr zaf;(iterate 8 exact rfl);omega;assumption;exact k.p)
  | (intro k;apply TO.zkE zaf;(iterate 5 exact rfl);assumption;exact k.p)
  | (intro k;apply TO.zfx zaf;(iterate 5 exact rfl);decide;exact rfl;exact k.p)
  | (intro k;apply TO.zfx zaf;(iterate 5 exact rfl);omega;assumption;exact k.p)
  | (intro k;apply TO.maxi;(iterate 3 exact rfl);exact k.p)
  | (intro k;apply TO.mini;(iterate 3 exact rfl);exact k.p)
  | (intro k;apply TR.regionLf hmix;decide +kernel;exact rfl;exact k.p)
  | (intro k;apply TR.zsi hmix;decide +kernel;exact rfl;exact k.p)
  | (intro k;apply TR.zsh hmix;decide +kernel;exact rfl;exact k.p)
  | (intro k;apply TR.zqs hmix;kernel_rfl;exact rfl;exact k.p)
  | (intro k;apply TO.zoZ zaf;(iterate 13 exact rfl);exact zqd;exact rfl;exact k.p)
  | (intro k;apply TO.ssl2 zaf;(iterate 9 exact rfl);omega;omega;exact k.p)
  | (intro k;apply TO.zqJ zaf;(iterate 8 exact rfl);omega;exact k.p)
  | (intro k;apply TO.ztf zaf;(iterate 8 exact rfl);omega;exact k.p)
  | (intro k;apply TO.ztd zaf;(iterate 6 exact rfl);omega;omega;exact k.p)
  | (intro k;apply TO.zgX zaf;(iterate 5 exact rfl);omega;exact k.p)
  | (intro k;apply TO.zfH zaf;(iterate 5 exact rfl);omega;exact k.p)
  | (intro k;apply TO.convert_u8;exact rfl;kernel_rfl;kernel_rfl;exact rfl;exact k.p)
  | (intro k;apply TO.eqb;(iterate 3 exact rfl);kernel_rfl;exact k.p)
  | (intro k;apply TO.neb;(iterate 3 exact rfl);kernel_rfl;exact k.p)
  | (intro k;apply TO.go zaf 0 false;exact rfl;(first|apply GG.to|apply GG.stop|apply GG.tr0|apply GG.tr|apply GG.ex);exact k.p)
  | (intro k;apply TR.go0 zaf 0 false;exact rfl;(first|apply GG.to|apply GG.stop|apply GG.tr0|apply GG.tr|apply GG.ex);exact k.p)
  | (intro k;apply TR.go zaf 0 false;exact rfl;(first|apply GG.to|apply GG.stop|apply GG.tr0|apply GG.tr|apply GG.ex);exact k.p)
  | (intro k;apply TO.go0 zaf 0 false;exact rfl;(first|apply GG.to|apply GG.stop|apply GG.tr0|apply GG.tr|apply GG.ex);exact k.p)
  | (intro k;apply zdJ.go zaf 0 false;exact rfl;(first|apply GG.to|apply GG.stop|apply GG.tr0|apply GG.tr|apply GG.ex);exact k.p)
  | (intro k;apply zab.exit;exact k.p)
  | (intro k;apply zab.ret;exact k.p)):G:=h ⟨k⟩
theorem wkt{G Q:Prop}(k:Q)(h:Hold Q->G:=by
  first
  | (intro k;apply TO.go zaf 300 true;exact rfl;(first|apply GG.to|apply GG.stop|apply GG.tr0|apply GG.tr|apply GG.ex);exact k.p)
  | (intro k;apply TR.go0 zaf 300 true;exact rfl;(first|apply GG.to|apply GG.stop|apply GG.tr0|apply GG.tr|apply GG.ex);exact k.p)
  | (intro k;apply TR.go zaf 300 true;exact rfl;(first|apply GG.to|apply GG.stop|apply GG.tr0|apply GG.tr|apply GG.ex);exact k.p)
  | (intro k;apply TO.go0 zaf 300 true;exact rfl;(first|apply GG.to|apply GG.stop|apply GG.tr0|apply GG.tr|apply GG.ex);exact k.p)
  | (intro k;apply zdJ.go zaf 300 true;exact rfl;(first|apply GG.to|apply GG.stop|apply GG.tr0|apply GG.tr|apply GG.ex);exact k.p)
  | (intro k;apply TO.zuW zaf;(iterate 6 exact rfl);exact leB;exact k.p)):G:=h ⟨k⟩
theorem wkb{G Q:Prop}(k:Q)(h:Hold Q->G:=by
  first
  | (intro k;apply TO.go zaf 300 true;exact rfl;(first|apply GG.to|apply GG.stop|apply GG.tr0|apply GG.tr|apply GG.ex);exact k.p)
  | (intro k;apply TR.go0 zaf 300 true;exact rfl;(first|apply GG.to|apply GG.stop|apply GG.tr0|apply GG.tr|apply GG.ex);exact k.p)
  | (intro k;apply TR.go zaf 300 true;exact rfl;(first|apply GG.to|apply GG.stop|apply GG.tr0|apply GG.tr|apply GG.ex);exact k.p)
  | (intro k;apply TO.go0 zaf 300 true;exact rfl;(first|apply GG.to|apply GG.stop|apply GG.tr0|apply GG.tr|apply GG.ex);exact k.p)
  | (intro k;apply zdJ.go zaf 300 true;exact rfl;(first|apply GG.to|apply GG.stop|apply GG.tr0|apply GG.tr|apply GG.ex);exact k.p)):G:=h ⟨k⟩
theorem wu{G Q:Prop}(k:Q)(h:Hold Q->G:=by first|(intro k;exact wkt k.p)|(intro k;exact wk k.p)):G:=h ⟨k⟩
theorem wk2{G Q1 Q2:Prop}(k1:Q1)(k2:Q2)(h:Hold Q1->Hold Q2->G:=by
  intro k1 k2
  first
  | (apply TO.ceq;(iterate 3 exact rfl);exact k1.p;exact k2.p)
  | (apply TO.cne;(iterate 3 exact rfl);exact k1.p;exact k2.p)
  | (apply TO.clt;(iterate 3 exact rfl);exact k1.p;exact k2.p)
  | (apply TO.cle;(iterate 3 exact rfl);exact k1.p;exact k2.p)
  | (apply TO.cgt;(iterate 3 exact rfl);exact k1.p;exact k2.p)
  | (apply TO.cge;(iterate 3 exact rfl);exact k1.p;exact k2.p)
  | (apply TO.seq';(iterate 3 exact rfl);exact k1.p;exact k2.p)
  | (apply TO.sne';(iterate 3 exact rfl);exact k1.p;exact k2.p)
  | (apply TR.zv7;exact rfl;exact k1.p;exact k2.p)):G:=h ⟨k1⟩ ⟨k2⟩
theorem wkc{G:Prop}(h:G:=by
  first
  | (intro hc;exact absurd hc (by decide))
  | (intro hc;exfalso;simp only[qal,qaz]at hc;omega)
  | (intro hc;exfalso;simp only[decide_eq_true_eq,decide_eq_false_iff_not,beq_iff_eq,beq_eq_false_iff_ne,bne_iff_ne,bne_eq_false_iff_eq,ne_eq,qct,not_true_eq_false]at hc <;> omega)
  | (intro hc;exfalso;omega)):G:=h
theorem wv{G Q:Prop}{f:FuncId}{cargs:List SV}{v:SV}(hs:Pure Tryz.prog f cargs v)(k:Q)(h:Pure Tryz.prog f cargs v->Hold Q->G:=by
  intro hs k
  first
  | (apply TO.zhh hs;(iterate 3 exact rfl);exact zqa;exact rfl;exact rfl;exact k.p)
  | (apply TO.ztF hs;(iterate 3 exact rfl);(repeat' (first|exact trivial|exact LeB.t _|exact LeB.cp _ _|exact LeB.fn0 _|exact LeB.any _|refine qai ?_ ?_|fail));exact Go.TL.Rigid.v _;exact k.p)):G:=h hs ⟨k⟩
theorem wb{G Q1 Q2:Prop}{f:FuncId}{cargs:List SV}{b:Bool}(hs:Pure Tryz.prog f cargs (.t (.v (.bool b))))(k1:Q1)(k2:Q2)(h:Pure Tryz.prog f cargs (.t (.v (.bool b)))->Hold Q1->Hold Q2->G:=by
  intro hs k1 k2
  apply TO.zd4 hs;(iterate 3 exact rfl)
  (repeat' (first|exact trivial|exact LeB.t _|exact LeB.cp _ _|exact LeB.fn0 _|exact LeB.any _|refine qai ?_ ?_|refine LeB.tree rfl ?_|exact TLe.refl _|exact TLe.nil _|refine TLe.ags ?_|fail))
  exact k1.p
  exact k2.p):G:=h hs ⟨k1⟩ ⟨k2⟩
theorem wd{G Q:Prop}{f:FuncId}{cargs:List SV}{v:SV}{Hc Hc1:Heap}(hs:Sound Tryz.prog f cargs Hc fun r H'=>r= .ret v/\H'=Hc1)(k:Q)(h:(Sound Tryz.prog f cargs Hc fun r H'=>r= .ret v/\H'=Hc1)->Hold Q->G:=by
  intro hs k
  first
  | (apply TO.zbH 1 hs;(iterate 3 exact rfl);exact zqa;(iterate 8 exact rfl);exact k.p)
  | (apply TO.zbH 2 hs;(iterate 3 exact rfl);exact zqa;(iterate 8 exact rfl);exact k.p)
  | (apply TO.zbH 3 hs;(iterate 3 exact rfl);exact zqa;(iterate 8 exact rfl);exact k.p)):G:=h hs ⟨k⟩
theorem wkr{G:Prop}(h:G:=by
  first
  | exact RetK.pure rfl (Le.refl _) rfl
  | exact RetK.pureN rfl (Le.refl _) rfl
  | ((first|refine RetK.pure rfl ?_ rfl|refine RetK.pureN rfl ?_ rfl);repeat' (first|exact Le.refl _|exact trivial|refine Le.tup ⟨?_,?_⟩|refine qai ?_ ?_|exact Le.any _|refine Le.tree rfl ?_|exact TLe.refl _|exact TLe.nil _|refine TLe.ags ⟨?_,?_⟩|fail))):G:=h
end Go.Proofs.YthmbhfgflijapaaGreatDoor
namespace Go.Proofs.YthmbhfgflijapaaGreatDoor
open Go Go.TL
attribute [local irreducible] TR TO Then zag RetK Sound zab Kf GG zaK
theorem wg{G Q:Prop}(k:Q)(h:Hold Q->G:=by
  intro k
  first
  | (apply TO.move;exact rfl;exact rfl;exact k.p)
  | (apply TO.assign;exact rfl;exact rfl;exact k.p)
  | (apply TO.want;exact rfl;exact k.p)
  | (apply TO.add;(iterate 3 exact rfl);omega;omega;exact k.p)
  | (apply TO.cat;(iterate 3 exact rfl);exact zqd;exact k.p)
  | (apply TO.pick;(iterate 3 exact rfl);exact k.p)
  | (apply TO.pass;exact rfl;exact rfl;exact k.p)
  | (apply TO.zvE;exact rfl;exact k.p)
  | (apply TO.load zaf;(iterate 5 exact rfl);exact k.p)
  | (apply TO.zgQ zaf;(iterate 6 exact rfl);exact k.p)
  | (apply TO.fieldAddr zaf;(iterate 5 exact rfl);decide;exact rfl;exact k.p)
  | (apply TO.zfp zaf;(iterate 5 exact rfl);decide;exact rfl;exact k.p)
  | (apply TO.nilCheck;(iterate 3 exact rfl);exact k.p)
  | (apply TO.zkE zaf;(iterate 5 exact rfl);assumption;exact k.p)
  | (apply TO.zfx zaf;(iterate 5 exact rfl);decide;exact rfl;exact k.p)
  | (apply TO.zpQ zaf;(iterate 4 exact rfl);exact k.p)
  | (apply TO.zsY zaf;(iterate 7 exact rfl);exact k.p)
  | (apply TO.zey zaf;(iterate 8 exact rfl);assumption;exact rfl;exact k.p)
  | (apply TO.extract;(iterate 3 exact rfl);exact k.p)
  | (refine TO.nil ?_;exact k.p)
  | (refine TR.seq ?_;exact k.p)
  | (refine TR.region ?_;exact k.p)
  | (apply TR.zva;exact rfl;exact k.p)
  | (apply TR.zu9;exact rfl;exact k.p)
  | (refine Go.TL.Then.normal ?_;exact k.p)
  | (refine TR.block ?_;exact k.p)
  | (refine TR.skip ?_;exact k.p)
  | (apply TR.zqs hmix;kernel_rfl;exact rfl;exact k.p)
  | (refine TR.exit ?_;exact k.p)
  | (refine TR.ret ?_;exact k.p)
  | (refine Go.TL.Then.exit ?_;exact k.p)
  | (refine Go.TL.Then.ret ?_;exact k.p)
  | (refine zab.exit ?_;exact k.p)
  | (refine zab.ret ?_;exact k.p)
  | (refine Go.TL.zag.normal ?_;exact k.p)
  | (refine Go.TL.zag.ret ?_;exact k.p)
  | (apply Go.TL.zag.same;exact rfl;exact k.p)
  | (apply Go.TL.zag.other;exact rfl;exact k.p)
  | (apply TO.zaV;(iterate 3 exact rfl);omega;omega;exact k.p)
  | (apply TO.mul64;(iterate 3 exact rfl);omega;omega;exact k.p)
  | (apply TO.convert_u8;exact rfl;kernel_rfl;kernel_rfl;exact rfl;exact k.p)
  | (apply TO.bin;(iterate 4 exact rfl);exact k.p)
  | (apply TO.ztd zaf;(iterate 6 exact rfl);omega;omega;exact k.p)
  | (apply TO.zgX zaf;(iterate 5 exact rfl);omega;exact k.p)
  | (apply TO.zfH zaf;(iterate 5 exact rfl);omega;exact k.p)
  | (apply TO.not;exact rfl;exact rfl;exact k.p)
  | (apply TO.zhD;exact rfl;exact rfl;exact k.p)
  | (apply TO.znj zaf;(iterate 4 exact rfl);exact leB;exact k.p)
  | (apply TO.zeo zaf;(iterate 5 exact rfl);exact leB;exact k.p)
  | (apply TO.zsX zaf;(iterate 4 exact rfl);exact k.p)
  | (apply TO.zsI zaf;(iterate 7 exact rfl);exact k.p)
  | (apply TO.build zaf;(iterate 6 exact rfl);exact k.p)
  | (apply TO.box;(iterate 4 exact rfl);exact k.p)
  | (apply TO.alloc zaf;(iterate 3 exact rfl);exact k.p)
  | (apply TO.store zaf;(iterate 6 exact rfl);exact leB;exact rfl;exact leB;exact rfl;exact k.p)
  | (apply TO.zhg zaf;(iterate 10 exact rfl);exact k.p)
  | (apply TO.zoZ zaf;(iterate 13 exact rfl);exact zqd;exact rfl;exact k.p)
  | (apply TO.eqb;(iterate 3 exact rfl);kernel_rfl;exact k.p)
  | (apply TO.neb;(iterate 3 exact rfl);kernel_rfl;exact k.p)
  | (apply TO.zey (j:=0) zaf;(iterate 10 exact rfl);exact k.p)
  | (apply TO.makeFunc;exact rfl;exact rfl;exact k.p)
  | (apply TO.zeQ zaf;(iterate 5 exact rfl);decide;exact rfl;exact k.p)
  | (apply TO.zn6 zaf;(iterate 5 exact rfl);exact k.p)
  | (apply TO.zn5 zaf;(iterate 4 exact rfl);exact k.p)
  | (apply TO.zf4 zaf;(iterate 5 exact rfl);exact k.p)
  | (apply TO.zf3 zaf;(iterate 4 exact rfl);exact k.p)
  | (apply TO.ssl2 zaf;(iterate 9 exact rfl);omega;omega;exact k.p)
  | (apply TO.zqJ zaf;(iterate 8 exact rfl);omega;exact k.p)
  | (apply TO.ztf zaf;(iterate 8 exact rfl);omega;exact k.p)):G:=h ⟨k⟩
theorem wg2{G Q1 Q2:Prop}(k1:Q1)(k2:Q2)(h:Hold Q1->Hold Q2->G:=by
  intro k1 k2
  first
  | (apply TO.eqs;(iterate 3 exact rfl);exact k1.p;exact k2.p)
  | (apply TO.nes;(iterate 3 exact rfl);exact k1.p;exact k2.p)
  | (apply TO.cmp;(iterate 4 exact rfl);exact k1.p;exact k2.p)):G:=h ⟨k1⟩ ⟨k2⟩
theorem wgc{G:Prop}(h:G:=by
  first
  | (intro hc;exact absurd hc (by decide))
  | (intro hc;exfalso;simp only[decide_eq_true_eq,decide_eq_false_iff_not,beq_iff_eq,beq_eq_false_iff_ne,bne_iff_ne,bne_eq_false_iff_eq,ne_eq,qct,not_true_eq_false]at hc;done)
  | (intro hc;exfalso;(first|simp only[decide_eq_true_eq,decide_eq_false_iff_not,beq_iff_eq,beq_eq_false_iff_ne,bne_iff_ne,bne_eq_false_iff_eq,ne_eq,qct,not_true_eq_false]at hc|skip);first|omega|(simp only[qaz,qal]at *;omega))):G:=h
end Go.Proofs.YthmbhfgflijapaaGreatDoor
namespace Go.Proofs.YthmbhfgflijapaaGreatDoor
open Go Go.TL
attribute [local irreducible] TR TO Then zag RetK Sound zab Kf GG zaK
abbrev I64:={n:Int // -9223372036854775808≤n/\n≤9223372036854775807}
instance:Inhabited I64:=⟨⟨0,by decide⟩⟩
abbrev _root_.Go.TL.T.n (n:I64):T:=.v (.int .i64 n.1)
abbrev _root_.Go.TL.SV.n (n:I64):SV:=.t (.v (.int .i64 n.1))
inductive Ex where
 | mk (kind op t v:I64) (name:Str) (args:List Ex)
instance:Inhabited Ex:=⟨.mk default default default default [] []⟩
namespace Ex
def kind:Ex->I64| .mk k _ _ _ _ _=>k
def op:Ex->I64| .mk _ o _ _ _ _=>o
def t:Ex->I64| .mk _ _ t _ _ _=>t
def v:Ex->I64| .mk _ _ _ v _ _=>v
def name:Ex->Str| .mk _ _ _ _ n _=>n
def args:Ex->List Ex| .mk _ _ _ _ _ l=>l
end Ex
def exT:Ex->T
 | .mk k o t v n l=>.ag [T.n k,T.n o,T.n t,T.n v,.s n,.sl 6 (l.attach.map fun x=>exT x.1)]
decreasing_by
 have:=qbp x.2
 simp;omega
theorem zvf(k o t v:I64)(n:Str)(l:List Ex):exT (.mk k o t v n l)= .ag [T.n k,T.n o,T.n t,T.n v,.s n,.sl 6 (l.map exT)]:=by
 rw[exT];simp
def exC(e:Ex):List T:=[T.n e.kind,T.n e.op,T.n e.t,T.n e.v,.s e.name,.sl 6 (e.args.map exT)]
theorem zae(e:Ex):exT e= .ag (exC e):=by cases e;rw[zvf];rfl
structure OnC where
 name:Str
 t:I64
 tag:I64
structure Decl where
 name:Str
 ty:I64
 clock:List OnC
structure Equ where
 left:List Str
 right:Ex
structure Tran where
 cond:Ex
 to:I64
 resume:Bool
mutual
inductive Auto where
 | mk (states:List Sta)
inductive Sta where
 | mk (name:Str) (locals:List Decl) (eqs:List Equ) (autos:List Auto) (unl unt:List Tran)
end
structure Nod where
 name:Str
 ins:List Decl
 outs:List Decl
 locals:List Decl
 eqs:List Equ
 autos:List Auto
 assume:List Ex
 ensure:List Ex
structure En where
 name:Str
 tags:List Str
structure Prog where
 enums:List En
 nodes:List Nod
namespace Auto
def states:Auto->List Sta| .mk l=>l
end Auto
namespace Sta
def name:Sta->Str| .mk n _ _ _ _ _=>n
def locals:Sta->List Decl| .mk _ l _ _ _ _=>l
def eqs:Sta->List Equ| .mk _ _ l _ _ _=>l
def autos:Sta->List Auto| .mk _ _ _ l _ _=>l
def unl:Sta->List Tran| .mk _ _ _ _ l _=>l
def unt:Sta->List Tran| .mk _ _ _ _ _ l=>l
end Sta
def onT(o:OnC):T:=.ag [.s o.name,T.n o.t,T.n o.tag]
def zav(d:Decl):T:=.ag [.s d.name,T.n d.ty,.sl 3 (d.clock.map onT)]
def equT(q:Equ):T:=.ag (.sl 1 (q.left.map T.s)::exC q.right)
def zay(q:Tran):T:=.ag [T.n q.cond.kind,T.n q.cond.op,T.n q.cond.t,T.n q.cond.v,.s q.cond.name,.sl 6 (q.cond.args.map exT),T.n q.to,.b q.resume]
mutual
def zar:Auto->T
 | .mk l=>.ag [.sl 6 (l.attach.map fun x=>staT x.1)]
decreasing_by
 have:=qbp x.2
 simp;omega
def staT:Sta->T
 | .mk n l q a u v=>.ag [.s n,.sl 3 (l.map zav),.sl 7 (q.map equT),.sl 1 (a.attach.map fun x=>zar x.1),.sl 8 (u.map zay),.sl 8 (v.map zay)]
decreasing_by
 have:=qbp x.2
 simp;omega
end
theorem zja(a:Auto):zar a= .ag [.sl 6 (a.states.map staT)]:=by cases a;rw[zar];simp[Auto.states]
theorem zjO(s:Sta):staT s= .ag [.s s.name,.sl 3 (s.locals.map zav),.sl 7 (s.eqs.map equT),.sl 1 (s.autos.map zar),.sl 8 (s.unl.map zay),.sl 8 (s.unt.map zay)]:=by
 cases s;rw[staT];simp[Sta.name,Sta.locals,Sta.eqs,Sta.autos,Sta.unl,Sta.unt]
def nodT(n:Nod):T:=.ag [.s n.name,.sl 3 (n.ins.map zav),.sl 3 (n.outs.map zav),.sl 3 (n.locals.map zav),.sl 7 (n.eqs.map equT),.sl 1 (n.autos.map zar),.sl 6 (n.assume.map exT),.sl 6 (n.ensure.map exT)]
def enT(e:En):T:=.ag [.s e.name,.sl 1 (e.tags.map T.s)]
def wEx:Ex->Nat
 | .mk _ _ _ _ _ l=>1+(l.attach.map fun x=>wEx x.1).sum
decreasing_by
 have:=qbp x.2
 simp;omega
theorem zfN(e:Ex):wEx e=1+(e.args.map wEx).sum:=by cases e;rw[wEx];simp[Ex.args]
theorem zh2{α:Type}(f:α->Nat):∀ {l:List α} {x:α},x∈l->f x≤(l.map f).sum
 | a::l,x,h=>by
   rcases qa2.1 h with rfl|h
   ·simp
   ·have:=zh2 f h
    simp;omega
theorem zmC{α:Type}(f:α->Nat)(hf:∀x,1≤f x):∀(l:List α),l.length≤(l.map f).sum
 | []=>by simp
 | a::l=>by
   have:=zmC f hf l
   have:=hf a
   simp;omega
theorem zb7(e:Ex):1≤wEx e:=by rw[zfN];omega
theorem zcg{e x:Ex}(h:x∈e.args):wEx x<wEx e:=by
 have:=zh2 wEx h
 rw[zfN e];omega
theorem znN(e:Ex):e.args.length<wEx e:=by
 have:=zmC wEx zb7 e.args
 rw[zfN];omega
theorem zbj{α:Type}(f:α->T){l:List α}{k:Nat}(h:k<l.length):(l.map f)[k]?=some (f l[k]):=by simp[h]
theorem zd3{l:List Ex}{k:Nat}(h:k<l.length):(l.map exT)[k]?=some (.ag (exC l[k])):=by simp[h,zae]
end Go.Proofs.YthmbhfgflijapaaGreatDoor
namespace Go.TL
open Go
def zaL(z:List T)(n:Nat):List SV:=(List.replicate n z).flatten.map .t
theorem zqt{α:Type}(z:List α)(hz:0<z.length):∀(n j:Nat),j<n*z.length->(List.replicate n z).flatten[j]?=z[j % z.length]?
 | 0,j,h=>by simp at h
 | n+1,j,h=>by
   rw[qbM,qa3]
   by_cases hj:j<z.length
   ·rw[qat hj,Nat.mod_eq_of_lt hj]
   ·rw[qaA (by omega),zqt z hz n (j-z.length) (by rw[qbZ]at h;omega),<-Nat.mod_eq_sub_mod (by omega)]
theorem zan(z:List T)(n:Nat):(zaL z n).length=n*z.length:=by simp[zaL]
theorem ziL{m:M}(hm:HRel m){ts:List T}{z:Array Value}{e:TypeId}{arr:Array Value}{c N:Nat}(hz:zdR ts z.toList=true)(hpos:0<ts.length)(hN:c≤N)(hsz:arr.size=N*ts.length)(harr:∀j,j<N*ts.length->arr[j]?=z[j % ts.length]?):
  Step m ⟨m.A,m.β++[⟨m.w.heap.size,0,arr.size⟩],m.H++[.cells (zaL ts c)],m.w.alloc (.cells arr e)⟩/\HRel ⟨m.A,m.β++[⟨m.w.heap.size,0,arr.size⟩],m.H++[.cells (zaL ts c)],m.w.alloc (.cells arr e)⟩:=by
 obtain⟨g1,g0,g2⟩:=zb3 (A:=m.A) (w:=m.w) _ _ hz
 have hcN:c*ts.length≤N*ts.length:=qaD _ hN
 refine zeA hm _ arr e (by rw[zan,hsz];exact hcN) (fun j y hy=>?_) (fun j s y hs hy=>?_)
 ·have hj:=(qaj.1 hy).1
  rw[harr j (by omega)]at hy
  exact g0 _ y (by simpa using hy)
 ·have hj:=(qaj.1 hy).1
  rw[harr j (by omega)]at hy
  have hjs:=(qaa.1 hs).1
  rw[zan]at hjs
  unfold zaL at hs
  rw[qar,zqt ts hpos c j hjs]at hs
  cases hq:ts[j % ts.length]? with
  | none=>rw[hq]at hs;cases hs
  | some u=>rw[hq]at hs;cases hs;exact .t _ _ (g2 _ u y hq (by simpa using hy))
theorem zd2(z:Array Value)(n j:Nat)(hz:0<z.size)(hj:j<n*z.size):(Builtin.zeroCells z n)[j]?=z[j % z.size]? :=by
 have h2:j % z.size<z.size:=Nat.mod_lt _ hz
 unfold Builtin.zeroCells
 rw[qcl,qam (by simpa using hj)]
 simp[h2]
theorem zbF(z:Array Value)(n:Nat):(Builtin.zeroCells z n).size=n*z.size:=by simp[Builtin.zeroCells]
section rules
variable {P:Program}{n:Nat}{env:Env}{H:Heap}{K:TK}{all:Array Oper}{rest:List Oper}{tab:Tab}
variable {d:Nat}{ty:TypeId}{pos:String}{aft:Array Edge}
theorem zrX{m:M}(hm:HRel m):Step m ⟨m.A,m.β,m.H,m.w.drew⟩/\HRel ⟨m.A,m.β,m.H,m.w.drew⟩:=
 zcJ hm ⟨rfl,rfl,rfl,qae _,fun _ _=>rfl⟩
theorem TO.zj2(hT:zaw P tab){t t' e:TypeId}{i ie:TyI}{sz c:Nat}{ik ik':IntKind}{x y:Operand}(hd:Nat.ble (d+1) n=true)(ht:tab.get t=some i)(hk:i.k= .slice e)(he:tab.get e=some ie)(hs:ie.size=sz)(hpos:Nat.ble 1 sz=true)
  (hu:P.underlying t'=some (.int ik'))(hx:env.val x=some (.t (.v (.slice none 0 0))))(hy:env.val y=some (.t (.v (.int ik (c:Int)))))(h1:1≤c)(h2:c≤10000000000)(hby:Nat.ble ie.bytes 4096=true)
  (k:TO false P n all rest ((d,.ms sz H.length 0 c)::env) (H++[.cells (zaL ie.zero c)]) K):TO false P n all (⟨some d,.call { callee:=.builtin .append,args:=#[x,y],argTypes:=#[t,t'] },ty,pos,aft,none⟩::rest) env H K:=
 TO.eff hd (fun m ac g1 g2 g3=>by
  have hp':=qag hpos
  have hb':=qag hby
  obtain⟨ti,hti,hti1,hti2⟩:=(hT e ie he).info
  obtain⟨z,hz1,hz2,_,_⟩:=(hT e ie he).zero
  have hln:=(hT e ie he).len
  have hzl:z.cells.size=sz:=by
   exact zwfs
  have hmul:(2*c+512)*ie.bytes≤(2*10000000000+512)*4096:=qb2 (by omega) hb'
  have hcm:c*ie.bytes≤10000000000*4096:=qb2 h2 hb'
  have hw:IntKind.i64.wrap (c:Int)=c:=zfc (by omega) (by omega)
  have hbig:¬(281474976710656<(c:Int)*(ti.bytes:Int)):=by
   rw[hti2,<-Int.natCast_mul];omega
  have hneg:¬((c:Int)<0):=by omega
  have hbound:¬281474976710656<Builtin.nextslicecap c 0*ti.bytes:=by
   have h1:=nextslicecap_le c 0 (by omega)
   have h2:Builtin.nextslicecap c 0≤2*c+512:=by omega
   have h3:=qaD ti.bytes h2
   rw[hti2]at h3⊢;omega
  have hmax:¬(9223372036854775807<(c:Int)):=by omega
  have hmx:(IntKind.i64.max:Int)=9223372036854775807:=by decide
  obtain⟨nc,hnc⟩:∃nc,nc=(Question.appendCap c 0 e).cut (m.w.tape m.w.drawn (.appendCap c 0 e)):=⟨_,rfl⟩
  have hnc2:c≤nc:=by rw[hnc];simp[Question.cut]
  obtain⟨arr,harr⟩:∃arr:Array Value,arr=Builtin.zeroCells z.cells c++Builtin.zeroCells z.cells (nc-c):=⟨_,rfl⟩
  have hcs:c*sz≠0:=Nat.mul_ne_zero (by omega) (by omega)
  have hrun:(Builtin.append_ #[t,t'] ty #[.slice none 0 0,.int ik (c:Int)]).run P m.w= .ok (.slice (some ⟨m.w.heap.size,0,none⟩) c nc) (m.w.drew.alloc (.cells arr e)):=by
   have hfo:(Question.appendCap c 0 e).forced=false:=rfl
   have hc0:¬c=0:=by omega
   have hs0:¬sz=0:=by omega
   have hadd:(Builtin.append_ #[t,t'] ty #[.slice none 0 0,.int ik (c:Int)]).run P m.w=(((do
     pure (.slice (some (<-newRow e (Builtin.zeroCells z.cells c++Builtin.zeroCells z.cells (nc-c)))) c nc)):Sem Value).run P { m.w with drawn:=m.w.drawn+1 }):=by
    simp[Builtin.append_,underlying,hu,(hT t i ht).slice hk,(hT e ie he).sizeOf,hs,asInt,asIntOf,hw,typeInfo,hti,hbig,hneg,hbound,hmx,hmax,hfo,<-hnc,hz1,hcs,hc0,hs0,Builtin.firstCells]
   rw[hadd]
   simp[newRow]
   rw[harr]
  have hsize:arr.size=nc*ie.zero.length:=by
   rw[harr,Array.size_append,zbF,zbF,<-qaX,hzl,hln,hs]
   congr 1;omega
  obtain⟨s0,hm0⟩:=zrX g2
  obtain⟨s,hm'⟩:=ziL hm0 (ts:=ie.zero) (z:=z.cells) (e:=e) (arr:=arr) (c:=c) (N:=nc) hz2 (by omega) hnc2 hsize (fun j hj=>by
   have hzz:z.cells.size=ie.zero.length:=by omega
   rw[harr,<-hzz]
   rw[<-hzz]at hj
   by_cases hj1:j<c*z.cells.size
   ·rw[qa1 (by rw[zbF];exact hj1),zd2 _ _ _ (by omega) hj1]
   ·rw[qbd (by rw[zbF];omega),zbF,zd2 _ _ _ (by omega) (by rw[Nat.sub_mul];omega)]
    congr 1
    rw[qco c]
    exact Nat.sub_mul_mod (by rw[qco];omega))
  refine⟨.slice (some ⟨m.w.heap.size,0,none⟩) c nc,⟨m.A,m.β++[⟨m.w.heap.size,0,arr.size⟩],m.H++[.cells (zaL ie.zero c)],m.w.drew.alloc (.cells arr e)⟩,by simp[execOp,resolve,invoke,builtin,(g3.val hx).v_eq,(g3.val hy).v_eq,hrun],s0.trans s,hm',by rw[<-g1],?_⟩
  rw[<-g1]
  refine .ms sz m.H.length 0 c nc ⟨m.w.heap.size,0,arr.size⟩ (by simp[g2.len]) (by intro q;simp[tlOf]) hnc2 ?_
  show 0+0+nc*sz=arr.size
  rw[hsize,hln,hs];omega) k
theorem zcr{sz:Nat}:∀(es:List T),(∀e∈es,e.cells.length=sz)->((es.map T.cells).flatten.length=es.length*sz/\∀(i j:Nat) e c,es[i]?=some e->e.cells[j]?=some c->((es.map T.cells).flatten)[i*sz+j]?=some c)
 | [],_=>by simp
 | e::es,h=>by
   obtain⟨h1,h2⟩:=zcr es (fun x hx=>h x (qan _ hx))
   have he:=h e qak
   refine⟨by rw[qah,qa3,qad,h1,he,qal,qbZ];omega,fun i j x c hx hc=>?_⟩
   rw[qah,qa3]
   cases i with
   | zero=>
     simp at hx;subst hx
     have:=(qaa.1 hc).1
     rw[qcp,qaU,qat this];exact hc
   | succ i=>
     rw[qaA (by rw[he,qbZ];omega),he,show(i+1)*sz+j-sz=i*sz+j from by rw[qbZ];omega]
     exact h2 i j x c (by simpa using hx) hc
theorem TO.zo0(hT:zaw P tab){t t' e:TypeId}{i i' ie:TyI}{sz id off len:Nat}{cs:List SV}{ys:List T}{x y:Operand}{vy:SV}{H':Heap}(hd:Nat.ble (d+1) n=true)(ht:tab.get t=some i)(hk:i.k= .slice e)(ht':tab.get t'=some i')(hk':i'.k= .slice e)
  (he:tab.get e=some ie)(hs:ie.size=sz)(hpos:Nat.ble 1 sz=true)(hx:env.val x=some (.ms sz id off len))(hH:H[id]?=some (.cells cs))(hy:env.val y=some vy)(hvy:vy.elems sz=some ys)
  (hfit:off+(len+ys.length)*sz≤cs.length)(hH':H.set id (.cells (splice cs (off+len*sz) ((ys.map T.cells).flatten.map .t)))=H')
  (k:TO false P n all rest ((d,.ms sz id off (len+ys.length))::env) H' K):TO false P n all (⟨some d,.call { callee:=.builtin .append,args:=#[x,y],argTypes:=#[t,t'] },ty,pos,aft,none⟩::rest) env H K:=
 TO.eff hd (fun m ac g1 g2 g3=>by
  have hp':=qag hpos
  have hy':=(g3.val hy).elems hvy
  obtain⟨ad,cap',hq⟩:=hy'.zcf
  rw[hq]at hy'
  obtain⟨g,f0,f1,f2,f3⟩:=zbZ (P:=P) hy' (by omega)
  have h:=g3.val hx
  generalize hz:ac.eval x=z at h
  cases h with
  | ms _ _ _ _ cap p hp hn hc hh=>
    have hH1:m.H[id]?=some (.cells cs):=by rw[g1];exact hH
    obtain⟨b1,b2,b3⟩:=g2.blk id p _ hp hH1
    have hcap:len+ys.length≤cap:=by
     have:(len+ys.length)*sz≤cap*sz:=by omega
     exact Nat.le_of_mul_le_mul_right this (by omega)
    have hmul:(len+ys.length)*sz=len*sz+ys.length*sz:=qaX _ _ _
    obtain⟨l1,l2⟩:=zcr ys (fun e he=>by obtain⟨j,hj⟩:=qbc he;exact f2 j e hj)
    have hrun:(Builtin.append_ #[t,t'] ty #[.slice (some ⟨p.b,p.lo+off,none⟩) len cap,ac.eval y]).run P m.w=
      ((storeCells (Addr.add ⟨p.b,p.lo+off,none⟩ (len*sz)) ((List.range (ys.length*sz)).map g)).run P m.w).andThen fun _ w'=>.ok (.slice (some ⟨p.b,p.lo+off,none⟩) (len+ys.length) cap) w':=by
     rw[hq]
     simp[Builtin.append_,underlying,(hT t i ht).slice hk,(hT t' i' ht').slice hk',(hT e ie he).sizeOf,hs,Builtin.lenOf,hcap,f0 m.w rfl]
    by_cases h0:ys.length*sz=0
    ·have hys:ys=[]:=by
      rcases Nat.mul_eq_zero.1 h0 with h|h
      ·exact qaM h
      ·omega
     subst hys
     refine⟨.slice (some ⟨p.b,p.lo+off,none⟩) (len+0) cap,m,?_,Step.refl m,g2,?_,.ms sz id off len cap p hp hn hc hh⟩
     ·simp[execOp,resolve,invoke,builtin,hz,hrun,storeCells]
     ·obtain⟨hlt,hg⟩:=qaa.1 hH
      have h5:splice cs (off+len*sz) ((List.map T.cells []).flatten.map .t)=cs:=by simp[splice]
      have h6:=qcb hlt
      rw[hg]at h6
      rw[g1,<-hH',h5]
      exact h6.symm
    ·obtain⟨s,hm'⟩:=zh7 g2 (off:=off+len*sz) (vs:=(ys.map T.cells).flatten.map .t) (ys:=(List.range (ys.length*sz)).map g) hp hH1 (by rw[qab,l1];omega) (by rw[qab,l1];omega) (by rw[qab,l1];simp) (fun v hv=>by simp at hv;obtain⟨q,hq,rfl⟩:=hv;exact f1 q hq) (fun j c v hc' hv=>by
      have hj:=(qaa.1 hv).1
      simp at hj
      simp[hj]at hv
      subst hv
      rw[qar]at hc'
      obtain⟨d1,d2,d3⟩:=zhn (show 0<sz by omega) hj
      have hyq:ys[j / sz]?=some ys[j / sz]:=qac d1
      have hcl:=f2 _ _ hyq
      have hyc:(ys[j / sz]).cells[j % sz]?=some ((ys[j / sz]).cells[j % sz]'(by omega)):=qac (by omega)
      have:=l2 _ _ _ _ hyq hyc
      rw[d3]at this
      rw[this]at hc'
      cases hc'
      have hr:=f3 _ _ _ _ hyq hyc
      rw[d3]at hr
      exact .t _ _ hr)
     have hst:=run_storeCells_cells (P:=P) p.b (p.lo+(off+len*sz)) ((List.range (ys.length*sz)).map g) 0 m.w (fun q hq=>(b2 _ (by omega) (by simp at hq;omega)).1) (fun q hq=>(b2 _ (by omega) (by simp at hq;omega)).2)
      (fun v hv=>by simp at hv;obtain⟨q,hq,rfl⟩:=hv;exact f1 q hq)
     refine⟨.slice (some ⟨p.b,p.lo+off,none⟩) (len+ys.length) cap,_,?_,s,hm',by rw[g1];exact hH',?_⟩
     ·rw[show p.lo+(off+len*sz)=p.lo+off+len*sz from by omega]at hst⊢
      simp only[zbv]at hrun
      rw[hst]at hrun
      simp[execOp,resolve,invoke,builtin,hz,hrun]
     ·exact s.srel g2 (.ms sz id off (len+ys.length) cap p hp hn hcap hh)) k
theorem TO.znA(hT:zaw P tab){q:Bool}{t e:TypeId}{i ie:TyI}{x z:Operand}{sz id off len b:Nat}{ik:IntKind}(hd:Nat.ble (d+1) n=true)(ht:tab.get t=some i)(hk:i.k= .slice e)(he:tab.get e=some ie)
  (hx:env.val x=some (.ms sz id off len))(hz:env.val z=some (.t (.v (.int ik (b:Int)))))(h2:b≤len)
  (k:TO q P n all rest ((d,.ms sz id off b)::env) H K):TO q P n all (⟨some d,.slice t x none (some z) none,ty,pos,aft,none⟩::rest) env H K:=
 TO.op hd (fun m ac g1 g2 g3=>by
  have h:=g3.val hx
  generalize hq:ac.eval x=v at h
  cases h with
  | ms _ _ _ _ cap p hp hn hc hh=>
    refine⟨.slice (some ⟨p.b,p.lo+off,none⟩) b cap,fun w' hw'=>?_,.ms sz id off b cap p hp hn (by omega) hh⟩
    have:=zdj (P:=P) hT ht hk he (some ⟨p.b,p.lo+off,none⟩) len cap none (some (ac.eval z)) 0 b w' (.inl ⟨rfl,rfl⟩) (.inr ⟨ik,by rw[(g3.val hz).v_eq]⟩) (qaJ _) (by omega)
    simp only[qcp,Nat.sub_zero,qaW,zbv,qcc,ite_self]at this
    simp[execOp,hq,this]) k
theorem TR.freeze{c:Code}(i sz id len:Nat){cs:List SV}{es:List T}{H':Heap}(hi:env.look i=some (.ms sz id 0 len))(hH:H[id]?=some (.cells cs))(hcs:cs=(es.map T.cells).flatten.map .t)(hlen:len=es.length)(hsz:∀e∈es,e.cells.length=sz)
  (hpos:Nat.ble 1 sz=true)(hH':H.set id .dead=H')(k:TR P n c ((i,.t (.sl sz es))::env) H' K):TR P n c env H K:=by
 intro φ m a h1 h2 h3 h4
 have hp':=qag hpos
 obtain⟨x,hx1,hx2⟩:=h3.2 i _ hi
 subst hlen
 obtain⟨l1,l2⟩:=zcr es hsz
 have hcl:cs.length=es.length*sz:=by rw[hcs,qab,l1]
 cases hx2 with
 | ms _ _ _ _ cap p hp hn hc hh=>
   have hH1:m.H[id]?=some (.cells cs):=by rw[h1];exact hH
   obtain⟨b1,b2,b3⟩:=h2.blk id p _ hp hH1
   have hex:∀j,∃y,j<cs.length->m.w.cell? ⟨p.b,p.lo+j,none⟩=some y/\y.oneCell'=true/\∀c,cs[j]?=some c->SRel m c y:=by
    exact zwbf
   let f:Nat->Value:=fun j=>Classical.choose (hex j)
   have hf:=fun j=>qb7 (hex j)
   obtain⟨s,hm'⟩:=ze4 h2 (k1:=.dead) (p':=p) (A':=fun b o=>m.A b o\/(b=p.b/\p.lo≤o/\o<p.lo+cs.length)) (w':=m.w) hp hH1 rfl rfl rfl rfl (qae _) (fun _ _ _ _=>rfl) (fun _ _ _ _ _=>rfl) (fun _ _ _=>rfl) (fun _ _ _ h=>h) (fun _ _ h=>h)
    (fun _ _ h=>.inl h) (fun b o h=>by
      rcases h with h|h
      ·exact .inl h
      ·exact .inr (.inl (by omega))) (fun h=>by cases h) (fun h=>by cases h) (fun o q1 q2=>(b2 o q1 q2).1) ⟨rfl,fun n'=>by simp[tlOf]⟩ (fun _=>trivial)
   have hlt:∀q j,q<es.length->j<sz->q*sz+j<cs.length:=fun q j hq hj=>by
    exact zwdz
   have hr:SRel ⟨fun b o=>m.A b o\/(b=p.b/\p.lo≤o/\o<p.lo+cs.length),m.β.set id p,m.H.set id .dead,m.w⟩ (.t (.sl sz es)) (.slice (some ⟨p.b,p.lo+0,none⟩) es.length cap):=by
    refine .t _ _ (.sl sz es p.b (p.lo+0) cap f hc (fun j e he=>hsz e (qas he)) (fun q j hq hj=>.inr ⟨rfl,by omega,by have:=hlt q j hq hj;omega⟩) (fun q j hq hj=>(hf _ (hlt q j hq hj)).1) (fun q j hq hj=>(hf _ (hlt q j hq hj)).2.1) (fun q e j c he hc'=>?_))
    have hq:=(qaa.1 he).1
    have hj:=(qaa.1 hc').1
    rw[hsz e (qas he)]at hj
    have hcc:cs[q*sz+j]?=some (.t c):=by rw[hcs,qar,l2 q j e c he hc'];rfl
    have:=(hf _ (hlt q j hq hj)).2.2 _ hcc
    cases this with
    | t _ _ h=>exact s.trel h2 h
   refine zbk (k φ ⟨fun b o=>m.A b o\/(b=p.b/\p.lo≤o/\o<p.lo+cs.length),m.β.set id p,m.H.set id .dead,m.w⟩ a (by rw[h1];exact hH') hm' ⟨h3.1,fun j v hv=>?_⟩ (h4.step h2 s)) fun _ _ _ hp=>hp.step s
   by_cases hj:i=j
   ·exact zwfw
   ·exact zwfl
end rules
end Go.TL
