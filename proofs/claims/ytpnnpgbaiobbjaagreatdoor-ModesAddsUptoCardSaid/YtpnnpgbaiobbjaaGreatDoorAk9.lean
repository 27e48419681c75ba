import Derived.Test.YtpnnpgbaiobbjaaGreatDoorAk8
set_option linter.all false
namespace Go.Proofs.YtpnnpgbaiobbjaaGreatDoor
open Go Go.TL
theorem hmix:Tryz.prog.follows .mixedOrders=true:=by kernel_rfl
attribute [local irreducible] TR TO Then zao RetK Sound zab Kf GG zaZ
structure Hold (Q:Prop):Prop where
 p:Q
theorem wk{G Q:Prop}(k:Q)(h:Hold Q->G:=by
  first
  | (intro k;apply TO.go zag 300 false;exact rfl;(first|apply GG.to|apply GG.stop|apply GG.tr0|apply GG.tr|apply GG.ex);exact k.p)
  | (intro k;apply TR.go0 zag 300 false;exact rfl;(first|apply GG.to|apply GG.stop|apply GG.tr0|apply GG.tr|apply GG.ex);exact k.p)
  | (intro k;apply TR.go zag 300 false;exact rfl;(first|apply GG.to|apply GG.stop|apply GG.tr0|apply GG.tr|apply GG.ex);exact k.p)
  | (intro k;apply TO.go0 zag 300 false;exact rfl;(first|apply GG.to|apply GG.stop|apply GG.tr0|apply GG.tr|apply GG.ex);exact k.p)
  | (intro k;apply zaZ.go;exact k.p)
  | (intro k;apply zdL.go zag 300 false;exact rfl;(first|apply GG.to|apply GG.stop|apply GG.tr0|apply GG.tr|apply GG.ex);exact k.p)
  | (intro k;apply zdL.fin;exact k.p)
  | (intro k;apply TO.want;exact rfl;exact k.p)
  | (intro k;apply TO.add;(iterate 3 exact rfl);exact zql;exact zql;exact k.p)
  | (intro k;apply TO.zu8;(iterate 3 exact rfl);exact zql;exact zql;exact k.p)
  | (intro k;apply TO.zdP zag;(iterate 8 exact rfl);assumption;exact rfl;exact k.p)
  | (intro k;apply TO.zdP (j:=0) zag;(iterate 10 exact rfl);exact k.p)
  | (intro k;apply TO.zdP (j:=1) zag;(iterate 10 exact rfl);exact k.p)
  | (intro k;apply TO.zdP (j:=2) zag;(iterate 10 exact rfl);exact k.p)
  | (intro k;apply TO.indexAddr zag;(iterate 8 exact rfl);omega;assumption;exact k.p)
  | (intro k;apply TO.zhP zag;(iterate 5 exact rfl);assumption;exact k.p)
  | (intro k;apply TO.zet zag;(iterate 5 exact rfl);decide;exact rfl;exact k.p)
  | (intro k;apply TO.zet zag;(iterate 5 exact rfl);omega;assumption;exact k.p)
  | (intro k;apply TO.maxi;(iterate 3 exact rfl);exact k.p)
  | (intro k;apply TO.mini;(iterate 3 exact rfl);exact k.p)
  | (intro k;apply TR.regionLf hmix;decide +kernel;exact rfl;exact k.p)
  | (intro k;apply TR.zs7 hmix;decide +kernel;exact rfl;exact k.p)
  | (intro k;apply TR.zs6 hmix;decide +kernel;exact rfl;exact k.p)
  | (intro k;apply TR.regionQ hmix;kernel_rfl;exact rfl;exact k.p)
  | (intro k;apply TO.zbb zag;(iterate 13 exact rfl);exact zql;exact rfl;exact k.p)
  | (intro k;apply TO.ssl2 zag;(iterate 9 exact rfl);omega;omega;exact k.p)
  | (intro k;apply TO.zrH zag;(iterate 8 exact rfl);omega;exact k.p)
  | (intro k;apply TO.zoo zag;(iterate 8 exact rfl);omega;exact k.p)
  | (intro k;apply TO.slice2 zag;(iterate 6 exact rfl);omega;omega;exact k.p)
  | (intro k;apply TO.zfS zag;(iterate 5 exact rfl);omega;exact k.p)
  | (intro k;apply TO.zeM zag;(iterate 5 exact rfl);omega;exact k.p)
  | (intro k;apply TO.convert_u8;exact rfl;kernel_rfl;kernel_rfl;exact rfl;exact k.p)
  | (intro k;apply TO.eqb;(iterate 3 exact rfl);kernel_rfl;exact k.p)
  | (intro k;apply TO.neb;(iterate 3 exact rfl);kernel_rfl;exact k.p)
  | (intro k;apply TO.go zag 0 false;exact rfl;(first|apply GG.to|apply GG.stop|apply GG.tr0|apply GG.tr|apply GG.ex);exact k.p)
  | (intro k;apply TR.go0 zag 0 false;exact rfl;(first|apply GG.to|apply GG.stop|apply GG.tr0|apply GG.tr|apply GG.ex);exact k.p)
  | (intro k;apply TR.go zag 0 false;exact rfl;(first|apply GG.to|apply GG.stop|apply GG.tr0|apply GG.tr|apply GG.ex);exact k.p)
  | (intro k;apply TO.go0 zag 0 false;exact rfl;(first|apply GG.to|apply GG.stop|apply GG.tr0|apply GG.tr|apply GG.ex);exact k.p)
  | (intro k;apply zdL.go zag 0 false;exact rfl;(first|apply GG.to|apply GG.stop|apply GG.tr0|apply GG.tr|apply GG.ex);exact k.p)
  | (intro k;apply zab.exit;exact k.p)
  | (intro k;apply zab.ret;exact k.p)):G:=h ⟨k⟩
theorem wkt{G Q:Prop}(k:Q)(h:Hold Q->G:=by
  first
  | (intro k;apply TO.go zag 300 true;exact rfl;(first|apply GG.to|apply GG.stop|apply GG.tr0|apply GG.tr|apply GG.ex);exact k.p)
  | (intro k;apply TR.go0 zag 300 true;exact rfl;(first|apply GG.to|apply GG.stop|apply GG.tr0|apply GG.tr|apply GG.ex);exact k.p)
  | (intro k;apply TR.go zag 300 true;exact rfl;(first|apply GG.to|apply GG.stop|apply GG.tr0|apply GG.tr|apply GG.ex);exact k.p)
  | (intro k;apply TO.go0 zag 300 true;exact rfl;(first|apply GG.to|apply GG.stop|apply GG.tr0|apply GG.tr|apply GG.ex);exact k.p)
  | (intro k;apply zdL.go zag 300 true;exact rfl;(first|apply GG.to|apply GG.stop|apply GG.tr0|apply GG.tr|apply GG.ex);exact k.p)
  | (intro k;apply TO.zvk zag;(iterate 6 exact rfl);exact leB;exact k.p)):G:=h ⟨k⟩
theorem wkb{G Q:Prop}(k:Q)(h:Hold Q->G:=by
  first
  | (intro k;apply TO.go zag 300 true;exact rfl;(first|apply GG.to|apply GG.stop|apply GG.tr0|apply GG.tr|apply GG.ex);exact k.p)
  | (intro k;apply TR.go0 zag 300 true;exact rfl;(first|apply GG.to|apply GG.stop|apply GG.tr0|apply GG.tr|apply GG.ex);exact k.p)
  | (intro k;apply TR.go zag 300 true;exact rfl;(first|apply GG.to|apply GG.stop|apply GG.tr0|apply GG.tr|apply GG.ex);exact k.p)
  | (intro k;apply TO.go0 zag 300 true;exact rfl;(first|apply GG.to|apply GG.stop|apply GG.tr0|apply GG.tr|apply GG.ex);exact k.p)
  | (intro k;apply zdL.go zag 300 true;exact rfl;(first|apply GG.to|apply GG.stop|apply GG.tr0|apply GG.tr|apply GG.ex);exact k.p)):G:=h ⟨k⟩
theorem wu{G Q:Prop}(k:Q)(h:Hold Q->G:=by first|(intro k;exact wkt k.p)|(intro k;exact wk k.p)):G:=h ⟨k⟩
theorem wk2{G Q1 Q2:Prop}(k1:Q1)(k2:Q2)(h:Hold Q1->Hold Q2->G:=by
  intro k1 k2
  first
  | (apply TO.ceq;(iterate 3 exact rfl);exact k1.p;exact k2.p)
  | (apply TO.cne;(iterate 3 exact rfl);exact k1.p;exact k2.p)
  | (apply TO.clt;(iterate 3 exact rfl);exact k1.p;exact k2.p)
  | (apply TO.cle;(iterate 3 exact rfl);exact k1.p;exact k2.p)
  | (apply TO.cgt;(iterate 3 exact rfl);exact k1.p;exact k2.p)
  | (apply TO.cge;(iterate 3 exact rfl);exact k1.p;exact k2.p)
  | (apply TO.seq';(iterate 3 exact rfl);exact k1.p;exact k2.p)
  | (apply TO.sne';(iterate 3 exact rfl);exact k1.p;exact k2.p)
  | (apply TR.zwA;exact rfl;exact k1.p;exact k2.p)):G:=h ⟨k1⟩ ⟨k2⟩
theorem wkc{G:Prop}(h:G:=by
  first
  | (intro hc;exact absurd hc (by decide))
  | (intro hc;exfalso;simp only[qam,qaD]at hc;omega)
  | (intro hc;exfalso;simp only[decide_eq_true_eq,decide_eq_false_iff_not,beq_iff_eq,beq_eq_false_iff_ne,bne_iff_ne,bne_eq_false_iff_eq,ne_eq,qbg,not_true_eq_false]at hc <;> omega)
  | (intro hc;exfalso;omega)):G:=h
theorem wv{G Q:Prop}{f:FuncId}{cargs:List SV}{v:SV}(hs:Pure Tryz.prog f cargs v)(k:Q)(h:Pure Tryz.prog f cargs v->Hold Q->G:=by
  intro hs k
  first
  | (apply TO.zeQ hs;(iterate 3 exact rfl);exact zqb;exact rfl;exact rfl;exact k.p)
  | (apply TO.zuk hs;(iterate 3 exact rfl);(repeat' (first|exact trivial|exact LeB.t _|exact LeB.cp _ _|exact LeB.fn0 _|exact LeB.any _|refine qaf ?_ ?_|fail));exact Go.TL.Rigid.v _;exact k.p)):G:=h hs ⟨k⟩
theorem wb{G Q1 Q2:Prop}{f:FuncId}{cargs:List SV}{b:Bool}(hs:Pure Tryz.prog f cargs (.t (.v (.bool b))))(k1:Q1)(k2:Q2)(h:Pure Tryz.prog f cargs (.t (.v (.bool b)))->Hold Q1->Hold Q2->G:=by
  intro hs k1 k2
  apply TO.zvq hs;(iterate 3 exact rfl)
  (repeat' (first|exact trivial|exact LeB.t _|exact LeB.cp _ _|exact LeB.fn0 _|exact LeB.any _|refine qaf ?_ ?_|refine LeB.tree rfl ?_|exact TLe.refl _|exact TLe.nil _|refine TLe.ags ?_|fail))
  exact k1.p
  exact k2.p):G:=h hs ⟨k1⟩ ⟨k2⟩
theorem wd{G Q:Prop}{f:FuncId}{cargs:List SV}{v:SV}{Hc Hc1:Heap}(hs:Sound Tryz.prog f cargs Hc fun r H'=>r= .ret v/\H'=Hc1)(k:Q)(h:(Sound Tryz.prog f cargs Hc fun r H'=>r= .ret v/\H'=Hc1)->Hold Q->G:=by
  intro hs k
  first
  | (apply TO.zaE 1 hs;(iterate 3 exact rfl);exact zqb;(iterate 8 exact rfl);exact k.p)
  | (apply TO.zaE 2 hs;(iterate 3 exact rfl);exact zqb;(iterate 8 exact rfl);exact k.p)
  | (apply TO.zaE 3 hs;(iterate 3 exact rfl);exact zqb;(iterate 8 exact rfl);exact k.p)):G:=h hs ⟨k⟩
theorem wkr{G:Prop}(h:G:=by
  first
  | exact RetK.pure rfl (Le.refl _) rfl
  | exact RetK.pureN rfl (Le.refl _) rfl
  | ((first|refine RetK.pure rfl ?_ rfl|refine RetK.pureN rfl ?_ rfl);repeat' (first|exact Le.refl _|exact trivial|refine Le.tup ⟨?_,?_⟩|refine qaf ?_ ?_|exact Le.any _|refine Le.tree rfl ?_|exact TLe.refl _|exact TLe.nil _|refine TLe.ags ⟨?_,?_⟩|fail))):G:=h
end Go.Proofs.YtpnnpgbaiobbjaaGreatDoor
namespace Go.Proofs.YtpnnpgbaiobbjaaGreatDoor
open Go Go.TL
attribute [local irreducible] TR TO Then zao RetK Sound zab Kf GG zaZ
abbrev I64:={n:Int // -9223372036854775808≤n/\n≤9223372036854775807}
instance:Inhabited I64:=⟨⟨0,by decide⟩⟩
abbrev _root_.Go.TL.T.n (n:I64):T:=.v (.int .i64 n.1)
abbrev _root_.Go.TL.SV.n (n:I64):SV:=.t (.v (.int .i64 n.1))
inductive Ex where
 | mk (kind op t v:I64) (name:Str) (args:List Ex)
instance:Inhabited Ex:=⟨.mk default default default default [] []⟩
namespace Ex
def kind:Ex->I64| .mk k _ _ _ _ _=>k
def op:Ex->I64| .mk _ o _ _ _ _=>o
def t:Ex->I64| .mk _ _ t _ _ _=>t
def v:Ex->I64| .mk _ _ _ v _ _=>v
def name:Ex->Str| .mk _ _ _ _ n _=>n
def args:Ex->List Ex| .mk _ _ _ _ _ l=>l
end Ex
def exT:Ex->T
 | .mk k o t v n l=>.ag [T.n k,T.n o,T.n t,T.n v,.s n,.sl 6 (l.attach.map fun x=>exT x.1)]
decreasing_by
 have:=qbi x.2
 simp;omega
theorem ztC(k o t v:I64)(n:Str)(l:List Ex):exT (.mk k o t v n l)= .ag [T.n k,T.n o,T.n t,T.n v,.s n,.sl 6 (l.map exT)]:=by
 rw[exT];simp
def exC(e:Ex):List T:=[T.n e.kind,T.n e.op,T.n e.t,T.n e.v,.s e.name,.sl 6 (e.args.map exT)]
theorem zay(e:Ex):exT e= .ag (exC e):=by cases e;rw[ztC];rfl
structure OnC where
 name:Str
 t:I64
 tag:I64
structure Decl where
 name:Str
 ty:I64
 clock:List OnC
structure Equ where
 left:List Str
 right:Ex
structure Tran where
 cond:Ex
 to:I64
 resume:Bool
mutual
inductive Auto where
 | mk (states:List Sta)
inductive Sta where
 | mk (name:Str) (locals:List Decl) (eqs:List Equ) (autos:List Auto) (unl unt:List Tran)
end
structure Nod where
 name:Str
 ins:List Decl
 outs:List Decl
 locals:List Decl
 eqs:List Equ
 autos:List Auto
 assume:List Ex
 ensure:List Ex
structure En where
 name:Str
 tags:List Str
structure Prog where
 enums:List En
 nodes:List Nod
namespace Auto
def states:Auto->List Sta| .mk l=>l
end Auto
namespace Sta
def name:Sta->Str| .mk n _ _ _ _ _=>n
def locals:Sta->List Decl| .mk _ l _ _ _ _=>l
def eqs:Sta->List Equ| .mk _ _ l _ _ _=>l
def autos:Sta->List Auto| .mk _ _ _ l _ _=>l
def unl:Sta->List Tran| .mk _ _ _ _ l _=>l
def unt:Sta->List Tran| .mk _ _ _ _ _ l=>l
end Sta
def onT(o:OnC):T:=.ag [.s o.name,T.n o.t,T.n o.tag]
def zaa(d:Decl):T:=.ag [.s d.name,T.n d.ty,.sl 3 (d.clock.map onT)]
def equT(q:Equ):T:=.ag (.sl 1 (q.left.map T.s)::exC q.right)
def zah(q:Tran):T:=.ag [T.n q.cond.kind,T.n q.cond.op,T.n q.cond.t,T.n q.cond.v,.s q.cond.name,.sl 6 (q.cond.args.map exT),T.n q.to,.b q.resume]
mutual
def zae:Auto->T
 | .mk l=>.ag [.sl 6 (l.attach.map fun x=>staT x.1)]
decreasing_by
 have:=qbi x.2
 simp;omega
def staT:Sta->T
 | .mk n l q a u v=>.ag [.s n,.sl 3 (l.map zaa),.sl 7 (q.map equT),.sl 1 (a.attach.map fun x=>zae x.1),.sl 8 (u.map zah),.sl 8 (v.map zah)]
decreasing_by
 have:=qbi x.2
 simp;omega
end
theorem zbV(a:Auto):zae a= .ag [.sl 6 (a.states.map staT)]:=by cases a;rw[zae];simp[Auto.states]
theorem za8(s:Sta):staT s= .ag [.s s.name,.sl 3 (s.locals.map zaa),.sl 7 (s.eqs.map equT),.sl 1 (s.autos.map zae),.sl 8 (s.unl.map zah),.sl 8 (s.unt.map zah)]:=by
 cases s;rw[staT];simp[Sta.name,Sta.locals,Sta.eqs,Sta.autos,Sta.unl,Sta.unt]
def nodT(n:Nod):T:=.ag [.s n.name,.sl 3 (n.ins.map zaa),.sl 3 (n.outs.map zaa),.sl 3 (n.locals.map zaa),.sl 7 (n.eqs.map equT),.sl 1 (n.autos.map zae),.sl 6 (n.assume.map exT),.sl 6 (n.ensure.map exT)]
def enT(e:En):T:=.ag [.s e.name,.sl 1 (e.tags.map T.s)]
def wEx:Ex->Nat
 | .mk _ _ _ _ _ l=>1+(l.attach.map fun x=>wEx x.1).sum
decreasing_by
 have:=qbi x.2
 simp;omega
theorem zjy(e:Ex):wEx e=1+(e.args.map wEx).sum:=by cases e;rw[wEx];simp[Ex.args]
theorem znh{α:Type}(f:α->Nat):∀ {l:List α} {x:α},x∈l->f x≤(l.map f).sum
 | a::l,x,h=>by
   rcases qbe.1 h with rfl|h
   ·simp
   ·have:=znh f h
    simp;omega
theorem zng{α:Type}(f:α->Nat)(hf:∀x,1≤f x):∀(l:List α),l.length≤(l.map f).sum
 | []=>by simp
 | a::l=>by
   have:=zng f hf l
   have:=hf a
   simp;omega
theorem zcn(e:Ex):1≤wEx e:=by rw[zjy];omega
theorem zbP{e x:Ex}(h:x∈e.args):wEx x<wEx e:=by
 have:=znh wEx h
 rw[zjy e];omega
theorem zhj(e:Ex):e.args.length<wEx e:=by
 have:=zng wEx zcn e.args
 rw[zjy];omega
theorem zar{α:Type}(f:α->T){l:List α}{k:Nat}(h:k<l.length):(l.map f)[k]?=some (f l[k]):=by simp[h]
theorem zed{l:List Ex}{k:Nat}(h:k<l.length):(l.map exT)[k]?=some (.ag (exC l[k])):=by simp[h,zay]
end Go.Proofs.YtpnnpgbaiobbjaaGreatDoor
namespace Go.TL
open Go
def zaX(z:List T)(n:Nat):List SV:=(List.replicate n z).flatten.map .t
theorem zrv{α:Type}(z:List α)(hz:0<z.length):∀(n j:Nat),j<n*z.length->(List.replicate n z).flatten[j]?=z[j % z.length]?
 | 0,j,h=>by simp at h
 | n+1,j,h=>by
   rw[List.replicate_succ,qa9]
   by_cases hj:j<z.length
   ·rw[qaq hj,Nat.mod_eq_of_lt hj]
   ·rw[qax (by omega),zrv z hz n (j-z.length) (by rw[qbc]at h;omega),<-Nat.mod_eq_sub_mod (by omega)]
theorem zb1(z:List T)(n:Nat):(zaX z n).length=n*z.length:=by simp[zaX]
theorem zjg{m:M}(hm:HRel m){ts:List T}{z:Array Value}{e:TypeId}{arr:Array Value}{c N:Nat}(hz:zdT ts z.toList=true)(hpos:0<ts.length)(hN:c≤N)(hsz:arr.size=N*ts.length)(harr:∀j,j<N*ts.length->arr[j]?=z[j % ts.length]?):
  Step m ⟨m.A,m.β++[⟨m.w.heap.size,0,arr.size⟩],m.H++[.cells (zaX ts c)],m.w.alloc (.cells arr e)⟩/\HRel ⟨m.A,m.β++[⟨m.w.heap.size,0,arr.size⟩],m.H++[.cells (zaX ts c)],m.w.alloc (.cells arr e)⟩:=by
 obtain⟨g1,g0,g2⟩:=zbW (A:=m.A) (w:=m.w) _ _ hz
 have hcN:c*ts.length≤N*ts.length:=qaC _ hN
 refine zgc hm _ arr e (by rw[zb1,hsz];exact hcN) (fun j y hy=>?_) (fun j s y hs hy=>?_)
 ·have hj:=(qak.1 hy).1
  rw[harr j (by omega)]at hy
  exact g0 _ y (by simpa using hy)
 ·have hj:=(qak.1 hy).1
  rw[harr j (by omega)]at hy
  have hjs:=(qab.1 hs).1
  rw[zb1]at hjs
  unfold zaX at hs
  rw[qau,zrv ts hpos c j hjs]at hs
  cases hq:ts[j % ts.length]? with
  | none=>rw[hq]at hs;cases hs
  | some u=>rw[hq]at hs;cases hs;exact .t _ _ (g2 _ u y hq (by simpa using hy))
theorem zd6(z:Array Value)(n j:Nat)(hz:0<z.size)(hj:j<n*z.size):(Builtin.zeroCells z n)[j]?=z[j % z.size]? :=by
 have h2:j % z.size<z.size:=Nat.mod_lt _ hz
 unfold Builtin.zeroCells
 rw[qcp,qan (by simpa using hj)]
 simp[h2]
theorem zbA(z:Array Value)(n:Nat):(Builtin.zeroCells z n).size=n*z.size:=by simp[Builtin.zeroCells]
section rules
variable {P:Program}{n:Nat}{env:Env}{H:Heap}{K:TK}{all:Array Oper}{rest:List Oper}{tab:Tab}
variable {d:Nat}{ty:TypeId}{pos:String}{aft:Array Edge}
theorem zsV{m:M}(hm:HRel m):Step m ⟨m.A,m.β,m.H,m.w.drew⟩/\HRel ⟨m.A,m.β,m.H,m.w.drew⟩:=
 zcT hm ⟨rfl,rfl,rfl,qag _,fun _ _=>rfl⟩
theorem TO.zky(hT:zaA P tab){t t' e:TypeId}{i ie:TyI}{sz c:Nat}{ik ik':IntKind}{x y:Operand}(hd:Nat.ble (d+1) n=true)(ht:tab.get t=some i)(hk:i.k= .slice e)(he:tab.get e=some ie)(hs:ie.size=sz)(hpos:Nat.ble 1 sz=true)
  (hu:P.underlying t'=some (.int ik'))(hx:env.val x=some (.t (.v (.slice none 0 0))))(hy:env.val y=some (.t (.v (.int ik (c:Int)))))(h1:1≤c)(h2:c≤10000000000)(hby:Nat.ble ie.bytes 4096=true)
  (k:TO false P n all rest ((d,.ms sz H.length 0 c)::env) (H++[.cells (zaX ie.zero c)]) K):TO false P n all (⟨some d,.call { callee:=.builtin .append,args:=#[x,y],argTypes:=#[t,t'] },ty,pos,aft,none⟩::rest) env H K:=
 TO.eff hd (fun m ac g1 g2 g3=>by
  have hp':=qai hpos
  have hb':=qai hby
  obtain⟨ti,hti,hti1,hti2⟩:=(hT e ie he).info
  obtain⟨z,hz1,hz2,_,_⟩:=(hT e ie he).zero
  have hln:=(hT e ie he).len
  have hzl:z.cells.size=sz:=by
   exact zwft
  have hmul:(2*c+512)*ie.bytes≤(2*10000000000+512)*4096:=qb6 (by omega) hb'
  have hcm:c*ie.bytes≤10000000000*4096:=qb6 h2 hb'
  have hw:IntKind.i64.wrap (c:Int)=c:=zgp (by omega) (by omega)
  have hbig:¬(281474976710656<(c:Int)*(ti.bytes:Int)):=by
   rw[hti2,<-Int.natCast_mul];omega
  have hneg:¬((c:Int)<0):=by omega
  have hbound:¬281474976710656<Builtin.nextslicecap c 0*ti.bytes:=by
   have h1:=nextslicecap_le c 0 (by omega)
   have h2:Builtin.nextslicecap c 0≤2*c+512:=by omega
   have h3:=qaC ti.bytes h2
   rw[hti2]at h3⊢;omega
  have hmax:¬(9223372036854775807<(c:Int)):=by omega
  have hmx:(IntKind.i64.max:Int)=9223372036854775807:=by decide
  obtain⟨nc,hnc⟩:∃nc,nc=(Question.appendCap c 0 e).cut (m.w.tape m.w.drawn (.appendCap c 0 e)):=⟨_,rfl⟩
  have hnc2:c≤nc:=by rw[hnc];simp[Question.cut]
  obtain⟨arr,harr⟩:∃arr:Array Value,arr=Builtin.zeroCells z.cells c++Builtin.zeroCells z.cells (nc-c):=⟨_,rfl⟩
  have hcs:c*sz≠0:=Nat.mul_ne_zero (by omega) (by omega)
  have hrun:(Builtin.append_ #[t,t'] ty #[.slice none 0 0,.int ik (c:Int)]).run P m.w= .ok (.slice (some ⟨m.w.heap.size,0,none⟩) c nc) (m.w.drew.alloc (.cells arr e)):=by
   have hfo:(Question.appendCap c 0 e).forced=false:=rfl
   have hc0:¬c=0:=by omega
   have hs0:¬sz=0:=by omega
   have hadd:(Builtin.append_ #[t,t'] ty #[.slice none 0 0,.int ik (c:Int)]).run P m.w=(((do
     pure (.slice (some (<-newRow e (Builtin.zeroCells z.cells c++Builtin.zeroCells z.cells (nc-c)))) c nc)):Sem Value).run P { m.w with drawn:=m.w.drawn+1 }):=by
    simp[Builtin.append_,underlying,hu,(hT t i ht).slice hk,(hT e ie he).sizeOf,hs,asInt,asIntOf,hw,typeInfo,hti,hbig,hneg,hbound,hmx,hmax,hfo,<-hnc,hz1,hcs,hc0,hs0,Builtin.firstCells]
   rw[hadd]
   simp[newRow]
   rw[harr]
  have hsize:arr.size=nc*ie.zero.length:=by
   rw[harr,Array.size_append,zbA,zbA,<-qa0,hzl,hln,hs]
   congr 1;omega
  obtain⟨s0,hm0⟩:=zsV g2
  obtain⟨s,hm'⟩:=zjg hm0 (ts:=ie.zero) (z:=z.cells) (e:=e) (arr:=arr) (c:=c) (N:=nc) hz2 (by omega) hnc2 hsize (fun j hj=>by
   have hzz:z.cells.size=ie.zero.length:=by omega
   rw[harr,<-hzz]
   rw[<-hzz]at hj
   by_cases hj1:j<c*z.cells.size
   ·rw[qaY (by rw[zbA];exact hj1),zd6 _ _ _ (by omega) hj1]
   ·rw[qa5 (by rw[zbA];omega),zbA,zd6 _ _ _ (by omega) (by rw[Nat.sub_mul];omega)]
    congr 1
    rw[qcr c]
    exact Nat.sub_mul_mod (by rw[qcr];omega))
  refine⟨.slice (some ⟨m.w.heap.size,0,none⟩) c nc,⟨m.A,m.β++[⟨m.w.heap.size,0,arr.size⟩],m.H++[.cells (zaX ie.zero c)],m.w.drew.alloc (.cells arr e)⟩,by simp[execOp,resolve,invoke,builtin,(g3.val hx).v_eq,(g3.val hy).v_eq,hrun],s0.trans s,hm',by rw[<-g1],?_⟩
  rw[<-g1]
  refine .ms sz m.H.length 0 c nc ⟨m.w.heap.size,0,arr.size⟩ (by simp[g2.len]) (by intro q;simp[tlOf]) hnc2 ?_
  show 0+0+nc*sz=arr.size
  rw[hsize,hln,hs];omega) k
theorem zcO{sz:Nat}:∀(es:List T),(∀e∈es,e.cells.length=sz)->((es.map T.cells).flatten.length=es.length*sz/\∀(i j:Nat) e c,es[i]?=some e->e.cells[j]?=some c->((es.map T.cells).flatten)[i*sz+j]?=some c)
 | [],_=>by simp
 | e::es,h=>by
   obtain⟨h1,h2⟩:=zcO es (fun x hx=>h x (qar _ hx))
   have he:=h e qas
   refine⟨by rw[qaj,qa9,qae,h1,he,qam,qbc];omega,fun i j x c hx hc=>?_⟩
   rw[qaj,qa9]
   cases i with
   | zero=>
     simp at hx;subst hx
     have:=(qab.1 hc).1
     rw[qca,qaO,qaq this];exact hc
   | succ i=>
     rw[qax (by rw[he,qbc];omega),he,show(i+1)*sz+j-sz=i*sz+j from by rw[qbc];omega]
     exact h2 i j x c (by simpa using hx) hc
theorem TO.zpE(hT:zaA P tab){t t' e:TypeId}{i i' ie:TyI}{sz id off len:Nat}{cs:List SV}{ys:List T}{x y:Operand}{vy:SV}{H':Heap}(hd:Nat.ble (d+1) n=true)(ht:tab.get t=some i)(hk:i.k= .slice e)(ht':tab.get t'=some i')(hk':i'.k= .slice e)
  (he:tab.get e=some ie)(hs:ie.size=sz)(hpos:Nat.ble 1 sz=true)(hx:env.val x=some (.ms sz id off len))(hH:H[id]?=some (.cells cs))(hy:env.val y=some vy)(hvy:vy.elems sz=some ys)
  (hfit:off+(len+ys.length)*sz≤cs.length)(hH':H.set id (.cells (splice cs (off+len*sz) ((ys.map T.cells).flatten.map .t)))=H')
  (k:TO false P n all rest ((d,.ms sz id off (len+ys.length))::env) H' K):TO false P n all (⟨some d,.call { callee:=.builtin .append,args:=#[x,y],argTypes:=#[t,t'] },ty,pos,aft,none⟩::rest) env H K:=
 TO.eff hd (fun m ac g1 g2 g3=>by
  have hp':=qai hpos
  have hy':=(g3.val hy).elems hvy
  obtain⟨ad,cap',hq⟩:=hy'.zbz
  rw[hq]at hy'
  obtain⟨g,f0,f1,f2,f3⟩:=zbi (P:=P) hy' (by omega)
  have h:=g3.val hx
  generalize hz:ac.eval x=z at h
  cases h with
  | ms _ _ _ _ cap p hp hn hc hh=>
    have hH1:m.H[id]?=some (.cells cs):=by rw[g1];exact hH
    obtain⟨b1,b2,b3⟩:=g2.blk id p _ hp hH1
    have hcap:len+ys.length≤cap:=by
     have:(len+ys.length)*sz≤cap*sz:=by omega
     exact Nat.le_of_mul_le_mul_right this (by omega)
    have hmul:(len+ys.length)*sz=len*sz+ys.length*sz:=qa0 _ _ _
    obtain⟨l1,l2⟩:=zcO ys (fun e he=>by obtain⟨j,hj⟩:=qbd he;exact f2 j e hj)
    have hrun:(Builtin.append_ #[t,t'] ty #[.slice (some ⟨p.b,p.lo+off,none⟩) len cap,ac.eval y]).run P m.w=
      ((storeCells (Addr.add ⟨p.b,p.lo+off,none⟩ (len*sz)) ((List.range (ys.length*sz)).map g)).run P m.w).andThen fun _ w'=>.ok (.slice (some ⟨p.b,p.lo+off,none⟩) (len+ys.length) cap) w':=by
     rw[hq]
     simp[Builtin.append_,underlying,(hT t i ht).slice hk,(hT t' i' ht').slice hk',(hT e ie he).sizeOf,hs,Builtin.lenOf,hcap,f0 m.w rfl]
    by_cases h0:ys.length*sz=0
    ·have hys:ys=[]:=by
      exact zwej
     subst hys
     refine⟨.slice (some ⟨p.b,p.lo+off,none⟩) (len+0) cap,m,?_,Step.refl m,g2,?_,.ms sz id off len cap p hp hn hc hh⟩
     ·simp[execOp,resolve,invoke,builtin,hz,hrun,storeCells]
     ·obtain⟨hlt,hg⟩:=qab.1 hH
      have h5:splice cs (off+len*sz) ((List.map T.cells []).flatten.map .t)=cs:=by simp[splice]
      exact zwes
    ·obtain⟨s,hm'⟩:=zfZ g2 (off:=off+len*sz) (vs:=(ys.map T.cells).flatten.map .t) (ys:=(List.range (ys.length*sz)).map g) hp hH1 (by rw[qaa,l1];omega) (by rw[qaa,l1];omega) (by rw[qaa,l1];simp) (fun v hv=>by simp at hv;obtain⟨q,hq,rfl⟩:=hv;exact f1 q hq) (fun j c v hc' hv=>by
      have hj:=(qab.1 hv).1
      simp at hj
      simp[hj]at hv
      subst hv
      rw[qau]at hc'
      obtain⟨d1,d2,d3⟩:=zfs (show 0<sz by omega) hj
      have hyq:ys[j / sz]?=some ys[j / sz]:=qac d1
      have hcl:=f2 _ _ hyq
      have hyc:(ys[j / sz]).cells[j % sz]?=some ((ys[j / sz]).cells[j % sz]'(by omega)):=qac (by omega)
      have:=l2 _ _ _ _ hyq hyc
      rw[d3]at this
      rw[this]at hc'
      cases hc'
      have hr:=f3 _ _ _ _ hyq hyc
      rw[d3]at hr
      exact .t _ _ hr)
     have hst:=run_storeCells_cells (P:=P) p.b (p.lo+(off+len*sz)) ((List.range (ys.length*sz)).map g) 0 m.w (fun q hq=>(b2 _ (by omega) (by simp at hq;omega)).1) (fun q hq=>(b2 _ (by omega) (by simp at hq;omega)).2)
      (fun v hv=>by simp at hv;obtain⟨q,hq,rfl⟩:=hv;exact f1 q hq)
     refine⟨.slice (some ⟨p.b,p.lo+off,none⟩) (len+ys.length) cap,_,?_,s,hm',by rw[g1];exact hH',?_⟩
     ·rw[show p.lo+(off+len*sz)=p.lo+off+len*sz from by omega]at hst⊢
      simp only[zbs]at hrun
      rw[hst]at hrun
      simp[execOp,resolve,invoke,builtin,hz,hrun]
     ·exact s.srel g2 (.ms sz id off (len+ys.length) cap p hp hn hcap hh)) k
theorem TO.zom(hT:zaA P tab){q:Bool}{t e:TypeId}{i ie:TyI}{x z:Operand}{sz id off len b:Nat}{ik:IntKind}(hd:Nat.ble (d+1) n=true)(ht:tab.get t=some i)(hk:i.k= .slice e)(he:tab.get e=some ie)
  (hx:env.val x=some (.ms sz id off len))(hz:env.val z=some (.t (.v (.int ik (b:Int)))))(h2:b≤len)
  (k:TO q P n all rest ((d,.ms sz id off b)::env) H K):TO q P n all (⟨some d,.slice t x none (some z) none,ty,pos,aft,none⟩::rest) env H K:=
 TO.op hd (fun m ac g1 g2 g3=>by
  have h:=g3.val hx
  generalize hq:ac.eval x=v at h
  cases h with
  | ms _ _ _ _ cap p hp hn hc hh=>
    refine⟨.slice (some ⟨p.b,p.lo+off,none⟩) b cap,fun w' hw'=>?_,.ms sz id off b cap p hp hn (by omega) hh⟩
    have:=zcz (P:=P) hT ht hk he (some ⟨p.b,p.lo+off,none⟩) len cap none (some (ac.eval z)) 0 b w' (.inl ⟨rfl,rfl⟩) (.inr ⟨ik,by rw[(g3.val hz).v_eq]⟩) (qaK _) (by omega)
    simp only[qca,qcQ,qa6,zbs,qb9,ite_self]at this
    simp[execOp,hq,this]) k
theorem TR.freeze{c:Code}(i sz id len:Nat){cs:List SV}{es:List T}{H':Heap}(hi:env.look i=some (.ms sz id 0 len))(hH:H[id]?=some (.cells cs))(hcs:cs=(es.map T.cells).flatten.map .t)(hlen:len=es.length)(hsz:∀e∈es,e.cells.length=sz)
  (hpos:Nat.ble 1 sz=true)(hH':H.set id .dead=H')(k:TR P n c ((i,.t (.sl sz es))::env) H' K):TR P n c env H K:=by
 intro φ m a h1 h2 h3 h4
 have hp':=qai hpos
 obtain⟨x,hx1,hx2⟩:=h3.2 i _ hi
 subst hlen
 obtain⟨l1,l2⟩:=zcO es hsz
 have hcl:cs.length=es.length*sz:=by rw[hcs,qaa,l1]
 cases hx2 with
 | ms _ _ _ _ cap p hp hn hc hh=>
   have hH1:m.H[id]?=some (.cells cs):=by rw[h1];exact hH
   obtain⟨b1,b2,b3⟩:=h2.blk id p _ hp hH1
   have hex:∀j,∃y,j<cs.length->m.w.cell? ⟨p.b,p.lo+j,none⟩=some y/\y.oneCell'=true/\∀c,cs[j]?=some c->SRel m c y:=by
    exact zwbg
   let f:Nat->Value:=fun j=>Classical.choose (hex j)
   have hf:=fun j=>qcD (hex j)
   obtain⟨s,hm'⟩:=zh1 h2 (k1:=.dead) (p':=p) (A':=fun b o=>m.A b o\/(b=p.b/\p.lo≤o/\o<p.lo+cs.length)) (w':=m.w) hp hH1 rfl rfl rfl rfl (qag _) (fun _ _ _ _=>rfl) (fun _ _ _ _ _=>rfl) (fun _ _ _=>rfl) (fun _ _ _ h=>h) (fun _ _ h=>h)
    (fun _ _ h=>.inl h) (fun b o h=>by
      rcases h with h|h
      ·exact .inl h
      ·exact .inr (.inl (by omega))) (fun h=>by cases h) (fun h=>by cases h) (fun o q1 q2=>(b2 o q1 q2).1) ⟨rfl,fun n'=>by simp[tlOf]⟩ (fun _=>trivial)
   have hlt:∀q j,q<es.length->j<sz->q*sz+j<cs.length:=fun q j hq hj=>by
    exact zwea
   have hr:SRel ⟨fun b o=>m.A b o\/(b=p.b/\p.lo≤o/\o<p.lo+cs.length),m.β.set id p,m.H.set id .dead,m.w⟩ (.t (.sl sz es)) (.slice (some ⟨p.b,p.lo+0,none⟩) es.length cap):=by
    refine .t _ _ (.sl sz es p.b (p.lo+0) cap f hc (fun j e he=>hsz e (qat he)) (fun q j hq hj=>.inr ⟨rfl,by omega,by have:=hlt q j hq hj;omega⟩) (fun q j hq hj=>(hf _ (hlt q j hq hj)).1) (fun q j hq hj=>(hf _ (hlt q j hq hj)).2.1) (fun q e j c he hc'=>?_))
    have hq:=(qab.1 he).1
    have hj:=(qab.1 hc').1
    rw[hsz e (qat he)]at hj
    have hcc:cs[q*sz+j]?=some (.t c):=by rw[hcs,qau,l2 q j e c he hc'];rfl
    exact zweh
   refine za4 (k φ ⟨fun b o=>m.A b o\/(b=p.b/\p.lo≤o/\o<p.lo+cs.length),m.β.set id p,m.H.set id .dead,m.w⟩ a (by rw[h1];exact hH') hm' ⟨h3.1,fun j v hv=>?_⟩ (h4.step h2 s)) fun _ _ _ hp=>hp.step s
   by_cases hj:i=j
   ·exact zwfx
   ·exact zwfm
end rules
theorem zou(k:Nat):∀(ts:List T),unders k (ts.map .t)=true
 | []=>rfl
 | t::ts=>by simp[unders,SV.under,zou k ts]
theorem ztT(r:Nat->Nat):∀(ts:List T),rens r (ts.map .t)=ts.map .t
 | []=>rfl
 | t::ts=>by simp[rens,SV.ren,ztT r ts]
section rules
variable {P:Program}{n:Nat}{env:Env}{H:Heap}{K:TK}{all:Array Oper}{rest:List Oper}{tab:Tab}
variable {d:Nat}{ty:TypeId}{pos:String}{aft:Array Edge}
theorem zgd(H:Heap):Hands H [] []:=zdV (N:=0) (qaK _) rfl rfl
theorem TO.zpP{cargs:List SV}{tl:List T}{sz off len:Nat}{f:Operand}{fid:FuncId}{caps:List SV}{args:Array Operand}{ts:Array TypeId}{vs:List SV}
  (hs:Sound P fid cargs [] fun r H'=>r= .ret (.ms sz 0 off len)/\H'=[.cells (tl.map .t)])(hd:Nat.ble (d+1) n=true)
  (hf:env.val f=some (.fn fid caps))(ha:env.vals args.toList=some vs)(hl:Les (vs++caps) cargs)(hu:unders 0 cargs=true)
  (k:TO false P n all rest ((d,.ms sz H.length off len)::env) (H++[.cells (tl.map .t)]) K):
  TO false P n all (⟨some d,.call { callee:=.value f,args:=args,argTypes:=ts },ty,pos,aft,none⟩::rest) env H K:=
 TO.zpN [] hs hd hf ha (by rw[zbn (N:=0) (fun j hj=>by omega) _ hu];exact hl) hu (zgd H) (by simp[SV.ren,names]) (by
  simp only[patch,qaj,qay,Blk.ren,ztT]) k
theorem TO.zl1(hT:zaA P tab){t t' e:TypeId}{i i' ie:TyI}{sz:Nat}{x y:Operand}{vy:SV}(hd:Nat.ble (d+1) n=true)(ht:tab.get t=some i)(hk:i.k= .slice e)(ht':tab.get t'=some i')(hk':i'.k= .slice e)
  (he:tab.get e=some ie)(hs:ie.size=sz)(hpos:Nat.ble 1 sz=true)(hx:env.val x=some (.t (.v (.slice none 0 0))))(hy:env.val y=some vy)(hvy:vy.elems sz=some [])
  (k:TO false P n all rest ((d,.t (.v (.slice none 0 0)))::env) H K):TO false P n all (⟨some d,.call { callee:=.builtin .append,args:=#[x,y],argTypes:=#[t,t'] },ty,pos,aft,none⟩::rest) env H K:=
 TO.eff hd (fun m ac g1 g2 g3=>by
  have hp':=qai hpos
  have hy':=(g3.val hy).elems hvy
  obtain⟨ad,cap',hq⟩:=hy'.zbz
  rw[hq]at hy'
  obtain⟨g,f0,f1,f2,f3⟩:=zbi (P:=P) hy' (by omega)
  have f0':=f0 m.w rfl
  simp only[qaD]at hq f0'
  refine⟨.slice none 0 0,m,?_,Step.refl m,g2,g1,.t _ _ (.v _)⟩
  simp[execOp,resolve,invoke,builtin,Builtin.append_,underlying,(hT t i ht).slice hk,(hT t' i' ht').slice hk',(hT e ie he).sizeOf,hs,Builtin.lenOf,hq,f0',(g3.val hx).v_eq]) k
theorem zic{t e:TypeId}(h:P.underlying t=some (.slice e))(p:Option Addr)(len cap:Nat)(w:World):(Go.binOp .eql t (.slice p len cap) (.slice none 0 0)).run P w= .ok (.bool p.isNone) w:=by
 have h':∀d:Nat,(Op.equalIn (d+1) t (.slice p len cap) (.slice none 0 0)).run P w= .ok p.isNone w:=fun d=>by
  cases p <;> simp[Op.equalIn,run_underlying h]
 simp only[Go.binOp]
 simp[Op.equal,Op.maxDepth,h' 9999]
theorem TO.zdy(hT:zaA P tab){t t' e:TypeId}{i:TyI}{sz:Nat}{es:List T}{x:Operand}{v:SV}(hd:Nat.ble (d+1) n=true)(ht:tab.get t=some i)(hk:i.k= .slice e)(hx:env.val x=some v)(hv:v.elems sz=some es)
  (k1:es=[]->TO false P n all rest ((d,.t (.v (.bool true)))::env) H K)(k2:TO false P n all rest ((d,.t (.v (.bool false)))::env) H K):TO false P n all (⟨some d,.binOp .eql t x (.const (.slice none 0 0)) t',ty,pos,aft,none⟩::rest) env H K:=by
 intro φ m a h1 h2 h3 h4
 have h:=(h3.val hx).elems hv
 obtain⟨ad,cap,hq⟩:=h.zbz
 rw[hq]at h
 have hrun:(execOp a.eval ⟨some d,.binOp .eql t x (.const (.slice none 0 0)) t',ty,pos,aft,none⟩).run P m.w= .ok (.value (.bool ad.isNone)) m.w:=by
  simp[execOp,eval_const,hq,eqGuard,zic ((hT t i ht).slice hk)]
 refine wpListIn_plain rfl fun K' hK=>?_
 unfold Oper.wpIn
 refine⟨fun _ _=>trivial,?_⟩
 rw[za3 hrun (by intro d e;cases e)]
 simp only[Oper.uponIn]
 refine hK _ _ (TO.zeT (Step.refl m) ?_)
 cases ad with
 | none=>
   have he:es=[]:=by
    generalize hl:es.length=q at h
    cases h with
    | nil=>rfl
   exact k1 he φ m _ h1 h2 (h3.put d (qai hd) (.t _ _ (.v _))) (by simpa [Act.put]using h4)
 | some b=>exact k2 φ m _ h1 h2 (h3.put d (qai hd) (.t _ _ (.v _))) (by simpa [Act.put]using h4)
theorem TO.zts(hT:zaA P tab){t e:TypeId}{i ie:TyI}{sz:Nat}(hd:Nat.ble (d+1) n=true)(ht:tab.get t=some i)(hk:i.k= .slice e)(he:tab.get e=some ie)(hs:ie.size=sz)
  (k:TO false P n all rest ((d,.sl sz [] H.length)::env) (H++[.tail 0]) K):TO false P n all (⟨some d,.buildSlice t 0 #[],ty,pos,aft,none⟩::rest) env H K:=
 TO.eff hd (fun m ac h1 h2 h3=>by
  subst h1
  have hrun:(Instr.buildSlice t 0 #[]).run P m.w= .ok (.slice (some ⟨m.w.heap.size,0,none⟩) 0 0) (m.w.alloc (.cells #[] e)):=by
   simp[Instr.buildSlice,underlying,(hT t i ht).slice hk,(hT e ie he).sizeOf,newRow,Instr.fill]
   rw[show Array.range 0= #[] from by decide];simp
  obtain⟨s,hm'⟩:=grow h2 (A':=m.A) (βn:=[⟨m.w.heap.size,0,0⟩]) (Hn:=[.tail 0]) (w':=m.w.alloc (.cells #[] e)) rfl rfl rfl (by simp) (fun b hb=>RowKit.Below.heap_alloc _ _ _ hb) (fun _ _ h=>h) (fun _ _ h=>.inl h) rfl (by
   intro i p k h1 h2 h3
   cases i with
   | zero=>simp at h1;subst h1;left;simp
   | succ i=>simp at h1) (by
   intro i j p q hij h1 h2
   cases i <;> cases j <;> simp at h1 h2 hij) (fun _ _ h h'=>absurd h h') (by
   intro s i p k h1 h2
   cases i with
   | zero=>simp at h1 h2;subst h1;subst h2;exact fun o q1 q2=>by simp only at q1 q2;omega
   | succ i=>simp at h1)
  refine⟨_,_,by simp only[execOp,Array.map_empty,Sem.run_bind,hrun];rfl,s,hm',rfl,?_⟩
  refine .sl _ _ _ _ ⟨m.w.heap.size,0,0⟩ (.empty sz _) (by show(m.β++_)[m.H.length]?=_;rw[<-h2.len];simp) fun q hq=>?_
  have hk':tlOf (m.H++[Blk.tail 0])[m.H.length]?=some q:=hq
  simp[tlOf]at hk'
  subst hk'
  exact⟨qag _,fun _=>⟨some ⟨m.w.heap.size,0,none⟩,0,0,rfl,qag _,rfl,by simp,by simp,rfl⟩⟩) k
end rules
def mixC(cs:List T)(z:List T)(n:Nat):List SV:=cs.map .t++zaX z n
theorem zn9(cs z:List T)(n:Nat):(mixC cs z n).length=cs.length+n*z.length:=by simp[mixC,zb1]
theorem zlW(z:List T)(n m:Nat)(h:m≤n):(zaX z n).drop (m*z.length)=zaX z (n-m):=by
 obtain⟨q,rfl⟩:∃q,n=m+q:=⟨n-m,by omega⟩
 have:zaX z (m+q)=zaX z m++zaX z q:=by
  unfold zaX
  rw[<-qal,<-qbz,List.replicate_append_replicate]
 rw[this,List.drop_append_of_le_length (by rw[zb1];exact qag _),qa7 (by rw[zb1];exact qag _),qa1]
 congr 1;omega
theorem zd0(cs ys z:List T)(n m off:Nat)(h:m≤n)(ho:off=cs.length)(hy:ys.length=m*z.length):splice (mixC cs z n) off (ys.map .t)=mixC (cs++ys) z (n-m):=by
 subst ho
 unfold splice mixC
 have h1:((cs.map SV.t++zaX z n).take cs.length)=cs.map SV.t:=by
  rw[qcf (by simp)]
  exact qaX (by simp)
 have h2:(cs.map SV.t++zaX z n).drop (cs.length+(ys.map SV.t).length)=zaX z (n-m):=by
  rw[qcz,qa7 (by simp),qa1,qaa,qaa,hy,show cs.length+m*z.length-cs.length=m*z.length from by omega]
  exact zlW z n m h
 rw[h1,h2,qal]
theorem zhY(cs z:List T):mixC cs z 0=cs.map .t:=by simp[mixC,zaX]
theorem zqH{sz:Nat}(es:List T)(h:∀e∈es,e.cells.length=sz):∀(k:Nat) (hk:k<es.length),(((es.map T.cells).flatten).drop (k*sz)).take sz=es[k].cells:=by
 induction es with
 | nil=>intro k hk;simp at hk
 | cons e es ih=>
   intro k hk
   have he:=h e qas
   rw[qaj,qa9]
   cases k with
   | zero=>rw[qca,qbh,qcf (by omega),qaX (by omega)];rfl
   | succ k=>
     rw[qcz,qa7 (by rw[he,qbc];omega),qa1,he,show(k+1)*sz-sz=k*sz from by rw[qbc];omega]
     exact ih (fun x hx=>h x (qar _ hx)) k (by simpa using hk)
end Go.TL
