import Derived.Test.YtdicfgideclbdaaGreatDoorAk9
set_option linter.all false
namespace Go.Proofs.YtdicfgideclbdaaGreatDoor
open Go Go.TL
attribute [local irreducible] TR TO Then zaj RetK Sound zac Kf GG zaQ
inductive PR (α:Type) where
 | ok (v:α) (i:Nat)
 | er (k:Nat) (c:Int)
def PR.bind{α β:Type}:PR α->(α->Nat->PR β)->PR β
 | .ok v i,f=>f v i
 | .er k c,_=>.er k c
structure Rd where
 K:List (Int×Str)
 es:List En
def Rd.isAt(R:Rd)(i:Nat)(s:Str):Bool:=match R.K[i]? with
 | some t=>(decide (t.1=3) || decide (t.1=4)) && decide (t.2=s)
 | none=>false
def Rd.kind(R:Rd)(i:Nat)(k:Int):Bool:=match R.K[i]? with
 | some t=>decide (t.1=k)
 | none=>false
def Rd.txt(R:Rd)(i:Nat):Str:=match R.K[i]? with
 | some t=>t.2
 | none=>[]
def Rd.must(R:Rd):List Str->Nat->PR Unit
 | [],i=>.ok () i
 | s::ss,i=>if R.isAt i s=true then R.must ss (i+1) else .er i 5
def Rd.id(R:Rd)(i:Nat):PR Str:=if R.kind i 1=true then .ok (R.txt i) (i+1) else .er i 5
def limR(n most i:Nat):PR Unit:=if most≤n then .er i 3 else .ok () i
def idxOf(s:Str):Nat->List Str->Option Nat
 | _,[]=>none
 | k,t::l=>if t=s then some k else idxOf s (k+1) l
def zbu(s:Str):Nat->List En->Option (Nat×Nat)
 | _,[]=>none
 | k,u::l=>match idxOf s 0 u.tags with
   | some j=>some (3+k,j)
   | none=>zbu s (k+1) l
def Rd.tag(R:Rd)(s:Str):Option (Nat×Nat):=zbu s 0 R.es
def Rd.aTag(R:Rd)(i:Nat):PR (Nat×Nat):=
 if R.isAt i [116,114,117,101]=true then .ok (1,1) (i+1) else if R.isAt i [102,97,108,115,101]=true then .ok (1,0) (i+1) else
 (R.id i).bind fun s j=>match R.tag s with
   | some tv=>.ok tv j
   | none=>.er (j-1) 6
def toI(x:Int):I64:=if h:-9223372036854775808≤x/\x≤9223372036854775807 then⟨x,h⟩ else⟨0,oB⟩
def Rd.sampling(R:Rd)(i:Nat):PR OnC:=
 (R.aTag i).bind fun tv i=>(R.must [[40]] i).bind fun _ i=>(R.id i).bind fun s i=>(R.must [[41]] i).bind fun _ i=>.ok ⟨s,toI tv.1,toI tv.2⟩ i
def numV(s:Str):Int:=s.foldl (fun n c=>10*n+((c.toNat:Int)-48)) 0
def mkE(k o t v:Int)(s:Str)(l:List Ex):Ex:=.mk (toI k) (toI o) (toI t) (toI v) s l
def zir(n:Nat)(s:Str):Option Int:=
 if n=0 then(if s=[111,114] then some 4 else if s=[120,111,114] then some 5 else none)
 else if n=1 then(if s=[97,110,100] then some 3 else none)
 else if n=3 then(if s=[61] then some 11 else if s=[60,62] then some 12 else if s=[60] then some 13 else if s=[60,61] then some 14 else if s=[62] then some 15 else if s=[62,61] then some 16 else none)
 else if n=4 then(if s=[43] then some 6 else if s=[45] then some 7 else none)
 else(if s=[42] then some 8 else if s=[47] then some 9 else if s=[109,111,100] then some 10 else none)
def Rd.oper(R:Rd)(n i:Nat):Option Int:=if(R.kind i 3 || R.kind i 4)=true then zir n (R.txt i) else none
def Rd.neg(R:Rd)(i:Nat):Bool:=R.isAt i [45] && R.kind (i+1) 2
def Rd.ops(R:Rd)(f:Nat->PR Ex)(n:Nat):Nat->Ex->Nat->PR Ex
 | 0,a,i=>.ok a i
 | m+1,a,i=>match R.oper n i with
   | none=>.ok a i
   | some op=>(f (i+1)).bind fun b j=>if n=3 then .ok (mkE 3 op 0 0 [] [a,b]) j else R.ops f n m (mkE 3 op 0 0 [] [a,b]) j
def Rd.whens(R:Rd):Nat->Ex->Nat->PR Ex
 | 0,e,i=>.ok e i
 | m+1,e,i=>if R.isAt i [119,104,101,110]=true then(R.sampling (i+1)).bind fun o j=>R.whens m (.mk (toI 8) (toI 0) o.t o.tag o.name [e]) j else .ok e i
def Rd.args(R:Rd)(f:Nat->PR Ex):Nat->List Ex->Nat->PR (List Ex)
 | 0,l,i=>.ok l i
 | m+1,l,i=>if R.isAt i [44]=true then(f (i+1)).bind fun b j=>R.args f m (l++[b]) j else .ok l i
def Rd.call(R:Rd)(f g:Nat->PR Ex)(s:Str)(i:Nat):PR Ex:=
 (if R.isAt i [41]=true then .ok [] (i+1) else(f i).bind fun a j=>(R.args f R.K.length [a] j).bind fun l j=>(R.must [[41]] j).bind fun _ j=>.ok l j:PR (List Ex)).bind fun l j=>
 if R.isAt j [101,118,101,114,121]=true then(g (j+1)).bind fun a j=>.ok (mkE 10 0 0 1 s (l++[a])) j else .ok (mkE 10 0 0 0 s l) j
def Rd.wanted(R:Rd)(t v:Nat)(known:Bool)(i:Nat):PR Unit:=
 if R.isAt i [116,114,117,101]=true then(if known=true/\t≠1\/v≠1 then .er i 5 else .ok () i)
 else if R.isAt i [102,97,108,115,101]=true then(if known=true/\t≠1\/v=1\/known=false then .er i 5 else .ok () i)
 else if R.kind i 1=false then .er i 5
 else match R.tag (R.txt i) with
  | some uw=>if known=true/\(uw.1≠t\/uw.2≠v)\/known=false/\uw.2≠0 then .er i 5 else .ok () i
  | none=>if known=true then .er i 5 else .ok () i
def Rd.size(R:Rd)(t:Nat):Nat:=if t=1 then 2 else if t=2 then 65536 else match R.es[t-3]? with
 | some u=>u.tags.length
 | none=>0
def Rd.branch(R:Rd)(f:Nat->PR Ex)(t v:Nat)(known:Bool)(i:Nat):PR (Nat×Ex):=
 (R.must [[40]] i).bind fun _ i=>(R.wanted t v known i).bind fun _ _=>(R.aTag i).bind fun tv j=>
 if known=true/\tv.1≠t then .er i 5 else(R.must [[45,62]] j).bind fun _ j=>(f j).bind fun e j=>(R.must [[41]] j).bind fun _ j=>.ok (tv.1,e) j
def Rd.branches(R:Rd)(f:Nat->PR Ex)(t size:Nat):Nat->Nat->List Ex->Nat->PR (List Ex)
 | 0,_,l,i=>.ok l i
 | m+1,k,l,i=>if size≤k then .ok l i else
   (R.branch f t (if t=1 then 1-k else k) true i).bind fun te j=>R.branches f t size m (k+1) (l.set (if t=1 then 1-k else k) te.2) j
def noE:Ex:=mkE 0 0 0 0 [] []
def Rd.merge(R:Rd)(f:Nat->PR Ex)(i:Nat):PR Ex:=
 (R.id i).bind fun s i=>(R.branch f 0 (if R.isAt (i+1) [116,114,117,101]=true then 1 else 0) false i).bind fun te j=>
 (R.branches f te.1 (R.size te.1) (R.size te.1) 1 ((List.replicate (R.size te.1) noE).set (if R.isAt (i+1) [116,114,117,101]=true then 1 else 0) te.2) j).bind fun l j=>
 .ok (mkE 9 0 te.1 0 s l) j
def Rd.ident(R:Rd)(f g:Nat->PR Ex)(i:Nat):PR Ex:=
 (R.id i).bind fun s j=>if R.isAt j [40]=true then R.call f g s (j+1) else match R.tag s with
   | some tv=>.ok (mkE 1 0 tv.1 tv.2 [] []) j
   | none=>.ok (mkE 2 0 0 0 s []) j
def Rd.prim(R:Rd)(f g:Nat->PR Ex)(i:Nat):PR Ex:=
 if R.neg i=true then .ok (mkE 1 0 2 (-numV (R.txt (i+1))) [] []) (i+2)
 else if R.isAt i [45]=true then .er (i+1) 5
 else if R.kind i 2=true then(if 32767<numV (R.txt i) then .er i 14 else .ok (mkE 1 0 2 (numV (R.txt i)) [] []) (i+1))
 else if R.kind i 5=true then .ok (mkE 11 0 0 0 (R.txt i) []) (i+1)
 else if R.isAt i [116,114,117,101]=true then .ok (mkE 1 0 1 1 [] []) (i+1)
 else if R.isAt i [102,97,108,115,101]=true then .ok (mkE 1 0 1 0 [] []) (i+1)
 else if R.isAt i [40]=true then(f (i+1)).bind fun e j=>(R.must [[41]] j).bind fun _ j=>.ok e j
 else if R.isAt i [105,102]=true then(f (i+1)).bind fun c j=>(R.must [[116,104,101,110]] j).bind fun _ j=>(f j).bind fun a j=>(R.must [[101,108,115,101]] j).bind fun _ j=>(f j).bind fun b j=>.ok (mkE 4 0 0 0 [] [c,a,b]) j
 else if R.isAt i [109,101,114,103,101]=true then R.merge f (i+1)
 else R.ident f g i
inductive G where
 | expr
 | level (n:Nat)
 | unary
 | prim
def pF(R:Rd):Nat->G->Nat->PR Ex
 | 0,_,i=>.er i 5
 | m+1,.expr,i=>(pF R m (.level 0) i).bind fun a j=>
   if R.isAt j [45,62]=true then(pF R m .expr (j+1)).bind fun b k=>.ok (mkE 6 0 0 0 [] [a,b]) k
   else if R.isAt j [102,98,121]=true then(pF R m .expr (j+1)).bind fun b k=>.ok (mkE 7 0 0 0 [] [a,b]) k
   else .ok a j
 | m+1,.level n,i=>
   if n=2 then(if R.isAt i [110,111,116]=true then(pF R m (.level 2) (i+1)).bind fun a j=>.ok (mkE 3 1 0 0 [] [a]) j else pF R m (.level 3) i)
   else if n=6 then pF R m .unary i
   else(pF R m (.level (n+1)) i).bind fun a j=>R.ops (pF R m (.level (n+1))) n R.K.length a j
 | m+1,.unary,i=>
   if R.neg i=false/\R.isAt i [45]=true then(pF R m .unary (i+1)).bind fun a j=>.ok (mkE 3 2 0 0 [] [a]) j
   else if R.neg i=false/\R.isAt i [112,114,101]=true then(pF R m .unary (i+1)).bind fun a j=>.ok (mkE 5 0 0 0 [] [a]) j
   else(pF R m .prim i).bind fun e j=>R.whens R.K.length e j
 | m+1,.prim,i=>R.prim (pF R m .expr) (pF R m .prim) i
def Rd.expr(R:Rd)(i:Nat):PR Ex:=pF R (10*R.K.length+10) .expr i
end Go.Proofs.YtdicfgideclbdaaGreatDoor
