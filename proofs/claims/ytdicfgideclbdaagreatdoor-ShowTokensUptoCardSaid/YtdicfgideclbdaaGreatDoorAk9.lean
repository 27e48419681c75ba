import Derived.Test.YtdicfgideclbdaaGreatDoorAk8
set_option maxHeartbeats 64000000
set_option linter.all false
namespace Go.Proofs.YtdicfgideclbdaaGreatDoor
open Go Go.TL
attribute [local irreducible] TR TO Then zaj RetK Sound zac Kf GG zaQ
abbrev I64:={n:Int // -9223372036854775808≤n/\n≤9223372036854775807}
instance:Inhabited I64:=⟨⟨0,oB⟩⟩
abbrev _root_.Go.TL.T.n (n:I64):T:=.v (.int .i64 n.1)
abbrev _root_.Go.TL.SV.n (n:I64):SV:=.t (.v (.int .i64 n.1))
inductive Ex where
 | mk (kind op t v:I64) (name:Str) (args:List Ex)
instance:Inhabited Ex:=⟨.mk default default default default [] []⟩
namespace Ex
def kind:Ex->I64| .mk k _ _ _ _ _=>k
def op:Ex->I64| .mk _ o _ _ _ _=>o
def t:Ex->I64| .mk _ _ t _ _ _=>t
def v:Ex->I64| .mk _ _ _ v _ _=>v
def name:Ex->Str| .mk _ _ _ _ n _=>n
def args:Ex->List Ex| .mk _ _ _ _ _ l=>l
end Ex
def exT:Ex->T
 | .mk k o t v n l=>.ag [T.n k,T.n o,T.n t,T.n v,.s n,.sl 6 (l.attach.map fun x=>exT x.1)]
decreasing_by
 have:=qbw x.2
 simp;omega
theorem zy8(k o t v:I64)(n:Str)(l:List Ex):exT (.mk k o t v n l)= .ag [T.n k,T.n o,T.n t,T.n v,.s n,.sl 6 (l.map exT)]:=by
 rw[exT];simp
def exC(e:Ex):List T:=[T.n e.kind,T.n e.op,T.n e.t,T.n e.v,.s e.name,.sl 6 (e.args.map exT)]
theorem zan(e:Ex):exT e= .ag (exC e):=by cases e;rw[zy8];rfl
structure OnC where
 name:Str
 t:I64
 tag:I64
structure Decl where
 name:Str
 ty:I64
 clock:List OnC
structure Equ where
 left:List Str
 right:Ex
structure Tran where
 cond:Ex
 to:I64
 resume:Bool
mutual
inductive Auto where
 | mk (states:List Sta)
inductive Sta where
 | mk (name:Str) (locals:List Decl) (eqs:List Equ) (autos:List Auto) (unl unt:List Tran)
end
structure Nod where
 name:Str
 ins:List Decl
 outs:List Decl
 locals:List Decl
 eqs:List Equ
 autos:List Auto
 assume:List Ex
 ensure:List Ex
structure En where
 name:Str
 tags:List Str
structure Prog where
 enums:List En
 nodes:List Nod
namespace Auto
def states:Auto->List Sta| .mk l=>l
end Auto
namespace Sta
def name:Sta->Str| .mk n _ _ _ _ _=>n
def locals:Sta->List Decl| .mk _ l _ _ _ _=>l
def eqs:Sta->List Equ| .mk _ _ l _ _ _=>l
def autos:Sta->List Auto| .mk _ _ _ l _ _=>l
def unl:Sta->List Tran| .mk _ _ _ _ l _=>l
def unt:Sta->List Tran| .mk _ _ _ _ _ l=>l
end Sta
def onT(o:OnC):T:=.ag [.s o.name,T.n o.t,T.n o.tag]
def zak(d:Decl):T:=.ag [.s d.name,T.n d.ty,.sl 3 (d.clock.map onT)]
def equT(q:Equ):T:=.ag (.sl 1 (q.left.map T.s)::exC q.right)
def zaA(q:Tran):T:=.ag [T.n q.cond.kind,T.n q.cond.op,T.n q.cond.t,T.n q.cond.v,.s q.cond.name,.sl 6 (q.cond.args.map exT),T.n q.to,.b q.resume]
mutual
def zam:Auto->T
 | .mk l=>.ag [.sl 6 (l.attach.map fun x=>staT x.1)]
decreasing_by
 have:=qbw x.2
 simp;omega
def staT:Sta->T
 | .mk n l q a u v=>.ag [.s n,.sl 3 (l.map zak),.sl 7 (q.map equT),.sl 1 (a.attach.map fun x=>zam x.1),.sl 8 (u.map zaA),.sl 8 (v.map zaA)]
decreasing_by
 have:=qbw x.2
 simp;omega
end
theorem zd6(a:Auto):zam a= .ag [.sl 6 (a.states.map staT)]:=by cases a;rw[zam];simp[Auto.states]
theorem zdf(s:Sta):staT s= .ag [.s s.name,.sl 3 (s.locals.map zak),.sl 7 (s.eqs.map equT),.sl 1 (s.autos.map zam),.sl 8 (s.unl.map zaA),.sl 8 (s.unt.map zaA)]:=by
 cases s;rw[staT];simp[Sta.name,Sta.locals,Sta.eqs,Sta.autos,Sta.unl,Sta.unt]
def nodT(n:Nod):T:=.ag [.s n.name,.sl 3 (n.ins.map zak),.sl 3 (n.outs.map zak),.sl 3 (n.locals.map zak),.sl 7 (n.eqs.map equT),.sl 1 (n.autos.map zam),.sl 6 (n.assume.map exT),.sl 6 (n.ensure.map exT)]
def enT(e:En):T:=.ag [.s e.name,.sl 1 (e.tags.map T.s)]
def zsU(p:Prog):T:=.ag [.sl 2 (p.enums.map enT),.sl 8 (p.nodes.map nodT)]
def wEx:Ex->Nat
 | .mk _ _ _ _ _ l=>1+(l.attach.map fun x=>wEx x.1).sum
decreasing_by
 have:=qbw x.2
 simp;omega
theorem zgk(e:Ex):wEx e=1+(e.args.map wEx).sum:=by cases e;rw[wEx];simp[Ex.args]
theorem ziN{α:Type}(f:α->Nat):∀ {l:List α} {x:α},x∈l->f x≤(l.map f).sum
 | a::l,x,h=>by
   rcases qa5.1 h with rfl|h
   ·simp
   ·have:=ziN f h
    simp;omega
theorem zob{α:Type}(f:α->Nat)(hf:∀x,1≤f x):∀(l:List α),l.length≤(l.map f).sum
 | []=>oC
 | a::l=>by
   have:=zob f hf l
   have:=hf a
   simp;omega
theorem zcG(e:Ex):1≤wEx e:=by rw[zgk];omega
theorem zcS{e x:Ex}(h:x∈e.args):wEx x<wEx e:=by
 have:=ziN wEx h
 rw[zgk e];omega
theorem zvl(e:Ex):e.args.length<wEx e:=by
 have:=zob wEx zcG e.args
 rw[zgk];omega
theorem zbc{α:Type}(f:α->T){l:List α}{k:Nat}(h:k<l.length):(l.map f)[k]?=some (f l[k]):=by simp[h]
theorem zeA{l:List Ex}{k:Nat}(h:k<l.length):(l.map exT)[k]?=some (.ag (exC l[k])):=by simp[h,zan]
end Go.Proofs.YtdicfgideclbdaaGreatDoor
