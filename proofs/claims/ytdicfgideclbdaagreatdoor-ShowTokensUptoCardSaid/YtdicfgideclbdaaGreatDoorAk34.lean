import Derived.Test.YtdicfgideclbdaaGreatDoorAk19
import Derived.Test.YtdicfgideclbdaaGreatDoorAk26
import Derived.Test.YtdicfgideclbdaaGreatDoorAk31
import Derived.Test.YtdicfgideclbdaaGreatDoorAk32
set_option maxHeartbeats 64000000
namespace Go.TL
open Go
end Go.TL
set_option linter.all false
namespace Go.Proofs.YtdicfgideclbdaaGreatDoor
open Go Go.TL
attribute [local irreducible] TR TO Then zaj RetK Sound zac Kf GG zaQ
abbrev zAu:Str:=[98,111,111,108]
abbrev bInt:Str:=[105,110,116]
def zdn(es:List En)(t:Int):Str×Bool:=if t=1 then(zAu,true) else if t=2 then(bInt,true) else((zaL es t).1.name,(zaL es t).2)
def zii(es:List En)(t:Int):Bool:=(zdn es t).2
def zji(es:List En)(t v:Int):Str×Int:=
 if zii es t=false then([],10) else if hasT es t v=false then([],14) else if t=1 then(if v=1 then([116,114,117,101],0) else([102,97,108,115,101],0)) else if t=2 then(Go.Lib.itoa v,0)
 else(((zaL es t).1.tags[v.toNat]?).getD [],0)
theorem zik(es:List En)(t:I64):Pure Tryz.prog 126 [.t (ensT es),.n t] (.tup [.s (zdn es t.1).1,.b (zdn es t.1).2]):=by
 have he:=zjx es t;unfold zdn;obtain⟨t,ht1,ht2⟩:=t;dsimp only[SV.n]at he⊢;generalize zaL es t=u at*;unfold enT at he;refine so Tryz.func126 ?_;repeat' (first|refine wu ?_|exact wkc|refine wk2 ?_ ?_|refine wv he ?_|intro hc)
 all_goals first
  | (rw[oG oE];exact wkr)
  | (rw[oH oE,oG oE];exact wkr)
  | (rw[oH oE,oH oE];exact wkr)
theorem zmS(es:List En)(t:I64):Pure Tryz.prog 162 [.t (ensT es),.n t] (.b (zii es t.1)):=by
 have he:=zik es t;unfold zii;generalize zdn es t.1=u at*;refine so Tryz.func162 ?_;refine yb he ?_;exact wkr
end Go.Proofs.YtdicfgideclbdaaGreatDoor
namespace Go.TL
open Go
def FinK(id:Nat)(EF:Env)(GF:Heap)(K:TK):TK
 | .exit i,env,H=>i=id/\env.sub EF/\H=GF
 | e,env,H=>K e env H
theorem TR.fin{P:Program}{n id:Nat}{env EF:Env}{H GF:Heap}{K:TK}{c:Code}(h:TR P n c env H (FinK id EF GF K))(fin:K (.exit id) EF GF):TR P n c env H K:=
 TR.weak (TR.mono h fun te env H hk=>by
  cases te with
  | exit i=>
    obtain⟨rfl,h1,rfl⟩:=hk;exact⟨EF,fun i v hv=>⟨v,Env.zgh h1 i v hv,Le.refl v⟩,fin⟩
  | _=>exact zra.done hk)
section
variable {P:Program}{n:Nat}{env:Env}{K:TK}{all:Array Oper}{rest:List Oper}{d:Nat}{ty:TypeId}{pos:String}{aft:Array Edge}{H:Heap}{q:Bool}
theorem TO.quoN{t t':TypeId}{x y:Operand}{a b:Nat}(hd:Nat.ble (d+1) n=true)(hx:env.val x=some (.i a))(hy:env.val y=some (.i b))(hb:0<b)(ha:a≤1000000000000)
  (k:TO q P n all rest ((d,.i (a / b:Nat))::env) H K):TO q P n all (⟨some d,.binOp .quo t x y t',ty,pos,aft,none⟩::rest) env H K:=
 TO.bquo hd hx hy oA (by
  have h2:a / b≤a:=Nat.div_le_self a b;rw[show((a:Int).tdiv b)=((a / b:Nat):Int) from by rw[Int.ofNat_tdiv]];generalize a / b=c at*;rw[ze2 oA oA];exact k)
end
end Go.TL
namespace Go.Proofs.YtdicfgideclbdaaGreatDoor
open Go Go.TL
attribute [local irreducible] TR TO Then zaj RetK Sound zac Kf GG zaQ
variable {α:Type}{q k B:Nat}{l:List Decl}{F:Nat->List Auto->Nat}
def wgs{α:Type}(g:Nat->α->Nat)(q:Nat):List α->Nat->Nat
 | [],n=>n
 | x::l,n=>if n<q then wgs g q l (g n x) else n
theorem zp1{g:Nat->α->Nat}{n:Nat}(h:¬n<q):∀(l:List α),wgs g q l n=n
 | []=>rfl
 | x::l=>by rw[wgs,oH h]
theorem zgQ{α:Type}(g:Nat->α->Nat)(q:Nat):∀(a b:List α) (n:Nat),wgs g q (a++b) n=wgs g q b (wgs g q a n)
 | [],b,n=>rfl
 | x::a,b,n=>by
   rw[qaZ,wgs,wgs];by_cases h:n<q
   ·rw[oG h,oG h,zgQ g q a b]
   ·rw[oH h,oH h,zp1 h]
theorem zdC{g:Nat->α->Nat}{n:Nat}{l:List α}(hk:k<l.length)(h:wgs g q (l.take k) n<q):wgs g q (l.take (k+1)) n=g (wgs g q (l.take k) n) l[k]:=by
 rw[qaE hk,zgQ,wgs,oG h,wgs]
theorem zgl{g:Nat->α->Nat}{n:Nat}{l:List α}(h:¬wgs g q (l.take k) n<q):wgs g q l n=wgs g q (l.take k) n:=by
 conv=>lhs;rw[<-qaX k l]
 rw[zgQ,zp1 h]
theorem zdi{α:Type}{g:Nat->α->Nat}{q B:Nat}:∀(l:List α) (n:Nat),n≤B->(∀n,n<q->∀x∈l,g n x≤B)->wgs g q l n≤B
 | [],n,h,_=>h
 | x::l,n,h,hg=>by
   rw[wgs];split
   ·rename_i hq;exact zdi l _ (hg n hq x oC) fun n hn y hy=>hg n hn y (by simp[hy])
   ·exact h
def wD(q:Nat)(l:List Decl):Nat:=wgs (fun n x=>n+((x.clock.map onT).length+x.name.length / 100)) q l l.length
theorem zmU(hq:q≤1500)(hl:l.length≤100000000)(hx:∀x∈l,(x.clock.map onT).length≤100000000/\x.name.length≤100000000):wD q l≤200000000:=
 zdi l _ oA fun n hn x h=>by have:=hx x h;omega
theorem zhH(q:Nat)(hq1:1≤q)(hq:q≤1500)(l:List Decl)(hl:l.length≤100000000)(hx:∀x∈l,(x.clock.map onT).length≤100000000/\x.name.length≤100000000):Pure Tryz.prog 38 [.t (zaw l),.i q] (.i (wD q l:Nat)):=by
 have hml:(l.map zak).length=l.length:=qac _;unfold wD;obtain⟨g,hg⟩:∃g:Nat->Decl->Nat,∀n x,g n x=n+((x.clock.map onT).length+x.name.length / 100):=⟨fun n x=>n+((x.clock.map onT).length+x.name.length / 100),fun _ _=>rfl⟩;rw[show(fun n x=>n+((x.clock.map onT).length+x.name.length / 100))=g from funext fun n=>funext fun x=>(hg n x).symm];refine so Tryz.func38 ?_;repeat' (first|refine wu ?_|exact wkc|refine wk2 ?_ ?_|intro hc)
 refine TR.fin (id:=0) (EF:=[(5,.i (wgs g q l l.length:Nat))]) (GF:=[]) (TR.zaz l.length (fun _=>True) (fun k=>[(0,.t (zaw l)),(1,.i q),(5,.i (wgs g q (l.take k) l.length:Nat)),(6,.i k)]) (fun _=>[]) trivial (fun k hlt _=>?_) (fun _=>?_) ⟨rfl,rfl,by rw[<-hml];rfl,rfl,trivial⟩) ?_
 ·have hat:=zd4 hlt;have hxk:=hx _ (qak hlt);have hb:wgs g q (l.take k) l.length≤200000000:=zdi _ _ oA fun n hn x h=>by rw[hg];have:=hx x (qaS h);omega
  by_cases hn:wgs g q (l.take k) l.length<q
  ·have hs:=(zdC hlt hn).trans (hg _ _);generalize wgs g q (l.take k) l.length=n at*;generalize l[k]=x at*;rw[show n+((x.clock.map onT).length+x.name.length / 100)=n+(x.clock.map onT).length+x.name.length / 100 by omega]at hs;unfold zfR at hat;repeat' (first|refine wkt ?_|(apply TO.quoN (b:=100);(iterate 3 exact rfl);omega;omega)|exact trivial|exact qav rfl rfl|refine qav (fun H env=>?_) ?_|refine wk ?_|exact wkc|refine wk2 ?_ ?_|intro hc)
   exact zwea
  ·exact zwcm
 ·exact zwcg
 ·refine ya ?_;exact wkr
def wE(q:Nat)(l:List Equ):Nat:=wgs (fun n x=>n+((x.left.map T.s).length+min (wEx x.right) q)) q l l.length
theorem zvk(hq:q≤1500){l:List Equ}(hl:l.length≤100000000)(hx:∀x∈l,(x.left.map T.s).length≤100000000):wE q l≤200000000:=
 zdi l _ oA fun n hn x h=>by have:=hx x h;omega
theorem zpY(q:Nat)(hq1:1≤q)(hq:q≤1500)(l:List Equ)(hl:l.length≤100000000)(hx:∀x∈l,(x.left.map T.s).length≤100000000):Pure Tryz.prog 39 [.t (.sl 7 (l.map equT)),.i q] (.i (wE q l:Nat)):=by
 have hml:(l.map equT).length=l.length:=qac _;unfold wE;obtain⟨g,hg⟩:∃g:Nat->Equ->Nat,∀n x,g n x=n+((x.left.map T.s).length+min (wEx x.right) q):=⟨fun n x=>n+((x.left.map T.s).length+min (wEx x.right) q),fun _ _=>rfl⟩;rw[show(fun n x=>n+((x.left.map T.s).length+min (wEx x.right) q))=g from funext fun n=>funext fun x=>(hg n x).symm];refine so Tryz.func39 ?_;repeat' (first|refine wu ?_|exact wkc|refine wk2 ?_ ?_|intro hc)
 refine TR.fin (id:=0) (EF:=[(5,.i (wgs g q l l.length:Nat))]) (GF:=[]) (TR.zaz l.length (fun _=>True) (fun k=>[(0,.t (.sl 7 (l.map equT))),(1,.i q),(5,.i (wgs g q (l.take k) l.length:Nat)),(6,.i k)]) (fun _=>[]) trivial (fun k hlt _=>?_) (fun _=>?_) ⟨rfl,rfl,by rw[<-hml];rfl,rfl,trivial⟩) ?_
 ·have hat:=zlm hlt;have hxk:=hx _ (qak hlt);have hb:wgs g q (l.take k) l.length≤200000000:=zdi _ _ oA fun n hn x h=>by rw[hg];have:=hx x (qaS h);omega
  by_cases hn:wgs g q (l.take k) l.length<q
  ·have hs:=(zdC hlt hn).trans (hg _ _);generalize wgs g q (l.take k) l.length=n at*;generalize l[k]=x at*;rw[show n+((x.left.map T.s).length+min (wEx x.right) q)=n+(x.left.map T.s).length+min (wEx x.right) q by omega]at hs;have hw:=ze1 _ x.right (qag _) q hq1 oA;have hmq:min (wEx x.right) q≤1500:=oA
   generalize min (wEx x.right) q=wq at*;unfold exC at hw;unfold equC at hat;repeat' (first|refine wkt ?_|refine rg [.i n,.t (.sl 7 (l.map equT)),.i k,.cp (equC x) 0,.cp (equC x) 0,.t (.sl 1 (x.left.map T.s)),.i (x.left.map T.s).length,.i (n+(x.left.map T.s).length:Nat),.t (.sl 7 (l.map equT)),.i k,.cp (equC x) 0,.cp (equC x) 1,.t (.ag [T.n x.right.kind,T.n x.right.op,T.n x.right.t,T.n x.right.v,.s x.right.name,.sl 6 (x.right.args.map exT)]),.i q,.i (wq:Nat),.i (n+(x.left.map T.s).length+wq:Nat),.i (n+(x.left.map T.s).length+wq:Nat)] ?_ ?_|refine wv hw ?_|exact trivial|exact qav rfl rfl|refine qav (fun H env=>?_) ?_|refine wk ?_|exact wkc|refine wk2 ?_ ?_|intro hc)
   exact zwea
  ·exact zwcm
 ·exact zwcg
 ·refine ya ?_;exact wkr
def wX(q:Nat)(l:List Ex):Nat:=wgs (fun n x=>n+(min (wEx x) q)) q l l.length
theorem zvn(hq:q≤1500){l:List Ex}(hl:l.length≤100000000)(hx:∀x∈l,wEx x≤1000000000):wX q l≤200000000:=
 zdi l _ oA fun n hn x h=>by have:=hx x h;omega
theorem zp0(q:Nat)(hq1:1≤q)(hq:q≤1500)(l:List Ex)(hl:l.length≤100000000)(hx:∀x∈l,wEx x≤1000000000):Pure Tryz.prog 40 [.t (.sl 6 (l.map exT)),.i q] (.i (wX q l:Nat)):=by
 have hml:(l.map exT).length=l.length:=qac _;unfold wX;obtain⟨g,hg⟩:∃g:Nat->Ex->Nat,∀n x,g n x=n+(min (wEx x) q):=⟨fun n x=>n+(min (wEx x) q),fun _ _=>rfl⟩;rw[show(fun n x=>n+(min (wEx x) q))=g from funext fun n=>funext fun x=>(hg n x).symm];refine so Tryz.func40 ?_;repeat' (first|refine wu ?_|exact wkc|refine wk2 ?_ ?_|intro hc)
 refine TR.fin (id:=0) (EF:=[(5,.i (wgs g q l l.length:Nat))]) (GF:=[]) (TR.zaz l.length (fun _=>True) (fun k=>[(0,.t (.sl 6 (l.map exT))),(1,.i q),(5,.i (wgs g q (l.take k) l.length:Nat)),(6,.i k)]) (fun _=>[]) trivial (fun k hlt _=>?_) (fun _=>?_) ⟨rfl,rfl,by rw[<-hml];rfl,rfl,trivial⟩) ?_
 ·have hat:=zeA hlt;have hxk:=hx _ (qak hlt);have hb:wgs g q (l.take k) l.length≤200000000:=zdi _ _ oA fun n hn x h=>by rw[hg];have:=hx x (qaS h);omega
  by_cases hn:wgs g q (l.take k) l.length<q
  ·have hs:=(zdC hlt hn).trans (hg _ _);generalize wgs g q (l.take k) l.length=n at*;generalize l[k]=x at*;have hw:=ze1 _ x (qag _) q hq1 oA;have hmq:min (wEx x) q≤1500:=oA
   generalize min (wEx x) q=wq at*;unfold exC at hw;unfold exC at hat;repeat' (first|refine wkt ?_|refine wv hw ?_|exact trivial|exact qav rfl rfl|refine qav (fun H env=>?_) ?_|refine wk ?_|exact wkc|refine wk2 ?_ ?_|intro hc)
   exact zwea
  ·exact zwcm
 ·exact zwcg
 ·refine ya ?_;exact wkr
def wT(q:Nat)(l:List Tran):Nat:=wgs (fun n x=>n+(min (wEx x.cond) q)) q l l.length
theorem zvm(hq:q≤1500){l:List Tran}(hl:l.length≤100000000)(hx:∀x∈l,wEx x.cond≤1000000000):wT q l≤200000000:=
 zdi l _ oA fun n hn x h=>by have:=hx x h;omega
theorem zpZ(q:Nat)(hq1:1≤q)(hq:q≤1500)(l:List Tran)(hl:l.length≤100000000)(hx:∀x∈l,wEx x.cond≤1000000000):Pure Tryz.prog 87 [.t (.sl 8 (l.map zaA)),.i q] (.i (wT q l:Nat)):=by
 have hml:(l.map zaA).length=l.length:=qac _;unfold wT;obtain⟨g,hg⟩:∃g:Nat->Tran->Nat,∀n x,g n x=n+(min (wEx x.cond) q):=⟨fun n x=>n+(min (wEx x.cond) q),fun _ _=>rfl⟩;rw[show(fun n x=>n+(min (wEx x.cond) q))=g from funext fun n=>funext fun x=>(hg n x).symm];refine so Tryz.func87 ?_;repeat' (first|refine wu ?_|exact wkc|refine wk2 ?_ ?_|intro hc)
 refine TR.fin (id:=0) (EF:=[(5,.i (wgs g q l l.length:Nat))]) (GF:=[]) (TR.zaz l.length (fun _=>True) (fun k=>[(0,.t (.sl 8 (l.map zaA))),(1,.i q),(5,.i (wgs g q (l.take k) l.length:Nat)),(6,.i k)]) (fun _=>[]) trivial (fun k hlt _=>?_) (fun _=>?_) ⟨rfl,rfl,by rw[<-hml];rfl,rfl,trivial⟩) ?_
 ·have hat:=zm9 hlt;have hxk:=hx _ (qak hlt);have hb:wgs g q (l.take k) l.length≤200000000:=zdi _ _ oA fun n hn x h=>by rw[hg];have:=hx x (qaS h);omega
  by_cases hn:wgs g q (l.take k) l.length<q
  ·have hs:=(zdC hlt hn).trans (hg _ _);generalize wgs g q (l.take k) l.length=n at*;generalize l[k]=x at*;have hw:=ze1 _ x.cond (qag _) q hq1 oA;have hmq:min (wEx x.cond) q≤1500:=oA
   generalize min (wEx x.cond) q=wq at*;unfold exC at hw;unfold zmO at hat;repeat' (first|refine wkt ?_|refine wv hw ?_|exact trivial|exact qav rfl rfl|refine qav (fun H env=>?_) ?_|refine wk ?_|exact wkc|refine wk2 ?_ ?_|intro hc)
   exact zwea
  ·exact zwcm
 ·exact zwcg
 ·refine ya ?_;exact wkr
def stW(F:Nat->List Auto->Nat)(q n:Nat)(s:Sta):Nat:=
 if n+1+wD q s.locals+wE q s.eqs+wT q s.unl+wT q s.unt<q then n+1+wD q s.locals+wE q s.eqs+wT q s.unl+wT q s.unt+F (q-(n+1+wD q s.locals+wE q s.eqs+wT q s.unl+wT q s.unt)) s.autos else n+1+wD q s.locals+wE q s.eqs+wT q s.unl+wT q s.unt
def wgA:Nat->Nat->List Auto->Nat
 | 0,_,_=>0
 | m+1,q,l=>wgs (fun n a=>wgs (stW (wgA m) q) q a.states n) q l l.length
theorem zeF(h:(zaw l).w≤100000000):l.length≤100000000/\∀x∈l,(x.clock.map onT).length≤100000000/\x.name.length≤100000000:=by
 have h1:=zaD zak 3 l;have h2:(zaw l).w=(T.sl 3 (l.map zak)).w:=rfl;refine⟨oA,fun x hx=>?_⟩;have h3:=zbq hx;have h4:=zaD onT 3 x.clock;rw[qac];omega
theorem zoP{l:List Equ}(h:(T.sl 7 (l.map equT)).w≤100000000):l.length≤100000000/\∀x∈l,(x.left.map T.s).length≤100000000:=by
 have h1:=zaD equT 7 l;refine⟨oA,fun x hx=>?_⟩;have h3:=zaY (f:=equT) (sz:=7) hx;have h4:=ze9 (q:=x);rw[qac];omega
theorem zuo{l:List Ex}(h:(T.sl 6 (l.map exT)).w≤100000000):l.length≤100000000/\∀x∈l,wEx x≤1000000000:=by
 have h1:=zaD exT 6 l;refine⟨oA,fun x hx=>?_⟩;have h3:=zaY (f:=exT) (sz:=6) hx;have h4:=zj5 x;omega
theorem zk3{l:List Tran}(h:(T.sl 8 (l.map zaA)).w≤100000000):l.length≤100000000/\∀x∈l,wEx x.cond≤1000000000:=by
 have h1:=zaD zaA 8 l;refine⟨oA,fun x hx=>?_⟩;have h3:=zaY (f:=zaA) (sz:=8) hx;have h4:=zlc (t:=x);omega
theorem zz7{n:Nat}(hF:∀(q:Nat),q≤1500->∀l:List Auto,(T.sl 1 (l.map zam)).w≤100000000->F q l≤B)(hB:1000000000≤B)(hq:q≤1500)(hn:n<q){s:Sta}(hs:(staT s).w≤100000000):stW F q n s≤B+2000:=by
 have w4:=zmW s;have d:=zeF (l:=s.locals) oA;have e:=zoP (l:=s.eqs) oA;have t1:=zk3 (l:=s.unl) oA;have t2:=zk3 (l:=s.unt) oA;have b1:=zmU hq d.1 d.2;have b2:=zvk hq e.1 e.2;have b3:=zvm hq t1.1 t1.2;have b4:=zvm hq t2.1 t2.2;unfold stW;generalize wD q s.locals=a1 at*;generalize wE q s.eqs=a2 at*;generalize wT q s.unl=a3 at*;generalize wT q s.unt=a4 at*;split
 ·have:=hF (q-(n+1+a1+a2+a3+a4)) oA s.autos oA
  omega
 ·omega
theorem zrj{n:Nat}(hF:∀(q:Nat),q≤1500->∀l:List Auto,(T.sl 1 (l.map zam)).w≤100000000->F q l≤B)(hB:1000000000≤B)(hq:q≤1500)(hn:n≤B){l:List Sta}(hs:∀s∈l,(staT s).w≤100000000):wgs (stW F q) q l n≤B+2000:=
 zdi l n oA fun n hn s h=>zz7 hF hB hq hn (hs s h)
theorem ztR:∀(m:Nat) (q:Nat),q≤1500->∀l:List Auto,(T.sl 1 (l.map zam)).w≤100000000->wgA m q l≤1000000000+2000*m
 | 0,q,hq,l,hw=>by simp[wgA]
 | m+1,q,hq,l,hw=>by
   have h1:=zaD zam 1 l;obtain⟨B,hB⟩:∃B,B=1000000000+2000*(m+1):=⟨_,rfl⟩;rw[<-hB];unfold wgA;refine zdi l _ oA fun n hn a ha=>?_
   have w1:=zaY (f:=zam) (sz:=1) ha;have w2:=zhc a
   have:=zrj (n:=n) (ztR m) oA hq oA (l:=a.states) fun s hs=>by have:=zaY (f:=staT) (sz:=6) hs;omega
   omega
theorem ztS:∀(m:Nat) (l:List Auto),m≤100000000->(T.sl 1 (l.map zam)).w≤m->∀q:Nat,1≤q->q≤1500->Pure Tryz.prog 41 [.t (.sl 1 (l.map zam)),.i q] (.i (wgA m q l:Nat)):=by
 intro m
 induction m with
 | zero=>intro l _ h;have:=zaD zam 1 l;omega
 | succ m ih0=>
   intro l hm8 hw q hq1 hq;have hml:(l.map zam).length=l.length:=qac _;have hll:=zaD zam 1 l;have ih:=fun l h=>ih0 l (by omega) h
   clear ih0;have hF:=ztR m;rw[wgA];generalize wgA m=F at*
   have hsw:∀a∈l,∀s∈a.states,(staT s).w≤m:=fun a ha s hs=>by
    have w1:=zaY (f:=zam) (sz:=1) ha;have w2:=zhc a;have w3:=zaY (f:=staT) (sz:=6) hs;omega
   refine so Tryz.func41 ?_;repeat' (first|refine wu ?_|exact wkc|refine wk2 ?_ ?_|intro hc)
   refine TR.fin (id:=0) (EF:=[(5,.i (wgs (fun n (a:Auto)=>wgs (stW F q) q a.states n) q l l.length:Nat))]) (GF:=[]) (TR.zaz l.length (fun _=>True) (fun k=>[(0,.t (.sl 1 (l.map zam))),(1,.i q),(5,.i (wgs (fun n (a:Auto)=>wgs (stW F q) q a.states n) q (l.take k) l.length:Nat)),(6,.i k)]) (fun _=>[]) trivial (fun k hlt _=>?_) (fun _=>?_) ⟨rfl,rfl,by rw[<-hml];rfl,rfl,trivial⟩) ?_
   ·have hat:=zhP hlt;have hak:=hsw _ (qak hlt);have hb:wgs (fun n (a:Auto)=>wgs (stW F q) q a.states n) q (l.take k) l.length≤1000000000+2000*m+2000:=zdi _ _ (by omega) fun n hn a ha=>zrj hF (by omega) hq (by omega) fun s hs=>by have:=hsw a (qaS ha) s hs;omega
    by_cases hn:wgs (fun n (a:Auto)=>wgs (stW F q) q a.states n) q (l.take k) l.length<q
    ·have hs:=zdC hlt hn;generalize wgs (fun n (a:Auto)=>wgs (stW F q) q a.states n) q (l.take k) l.length=n at*
     have hln:l[k].states.length≤1000000000:=by
      have w1:=zaY (f:=zam) (sz:=1) (qak hlt);have w2:=zhc l[k];have w3:=zaD staT 6 l[k].states;omega
     generalize l[k]=a at*;have hma:(a.states.map staT).length=a.states.length:=qac _;unfold zd5 at hat;repeat' (first|refine wu ?_|exact wkc|refine wk2 ?_ ?_|intro hc)
     refine TR.fin (id:=2) (EF:=[(0,.t (.sl 1 (l.map zam))),(1,.i q),(6,.i k),(5,.i (wgs (stW F q) q a.states n:Nat))]) (GF:=[]) (TR.zaz a.states.length (fun _=>True) (fun j=>[(0,.t (.sl 1 (l.map zam))),(1,.i q),(6,.i k),(5,.i (wgs (stW F q) q (a.states.take j) n:Nat)),(7,.i j)]) (fun _=>[]) trivial (fun j hlj _=>?_) (fun _=>?_)) ?_
     ·have hat2:=zov hlj;have hsk:=hak _ (qak hlj);have hb2:wgs (stW F q) q (a.states.take j) n≤1000000000+2000*m+2000:=zrj hF (by omega) hq (by omega) fun s hs=>by have:=hak s (qaS hs);omega
      by_cases hn2:wgs (stW F q) q (a.states.take j) n<q
      ·have hs2:=zdC hlj hn2;generalize wgs (stW F q) q (a.states.take j) n=n2 at*;generalize a.states[j]=s at*;rw[stW.eq_1 F q n2 s]at hs2;have w4:=zmW s;have d:=zeF (l:=s.locals) (by omega);have e:=zoP (l:=s.eqs) (by omega);have t1:=zk3 (l:=s.unl) (by omega);have t2:=zk3 (l:=s.unt) (by omega);have b1:=zmU hq d.1 d.2;have b2:=zvk hq e.1 e.2;have b3:=zvm hq t1.1 t1.2;have b4:=zvm hq t2.1 t2.2;have c1:=zhH q hq1 hq s.locals d.1 d.2;have c2:=zpY q hq1 hq s.eqs e.1 e.2;have c3:=zpZ q hq1 hq s.unl t1.1 t1.2;have c4:=zpZ q hq1 hq s.unt t2.1 t2.2;have hi:=ih s.autos (by omega);have hFs:=fun q' hq'=>hF q' hq' s.autos (by omega)
       clear ih hF hak hsw d e t1 t2 w4;generalize wD q s.locals=a1 at*;generalize wE q s.eqs=a2 at*;generalize wT q s.unl=a3 at*;generalize wT q s.unt=a4 at*;unfold staC at hat2;repeat' (first|refine wkt ?_|refine wka ?_|refine rg [.i n2,.i (n2+1:Nat),.cp (staC s) 1,.t (zaw s.locals),.i q,.i a1,.i (n2+1+a1:Nat),.cp (staC s) 2,.t (.sl 7 (s.eqs.map equT)),.i q,.i a2,.i (n2+1+a1+a2:Nat),.cp (staC s) 4,.t (.sl 8 (s.unl.map zaA)),.i q,.i a3,.i (n2+1+a1+a2+a3:Nat),.cp (staC s) 5,.t (.sl 8 (s.unt.map zaA)),.i q,.i a4,.i (n2+1+a1+a2+a3+a4:Nat),.i (n2+1+a1+a2+a3+a4:Nat)] ?_ ?_|refine wv c1 ?_|refine wv c2 ?_|refine wv c3 ?_|refine wv c4 ?_|exact trivial|exact qav rfl rfl|refine qav (fun H env=>?_) ?_|refine wk ?_|exact wkc|refine wk2 ?_ ?_|intro hc)
       ·have hn3:n2+1+a1+a2+a3+a4<q:=by omega
        rw[oG hn3]at hs2;have hi:=hi (q-(n2+1+a1+a2+a3+a4)) (by omega) (by omega);have hFs:=hFs (q-(n2+1+a1+a2+a3+a4)) (by omega);generalize F (q-(n2+1+a1+a2+a3+a4)) s.autos=fz at*;rw[show((q-(n2+1+a1+a2+a3+a4):Nat):Int)=(q:Int)-((n2+1+a1+a2+a3+a4:Nat):Int) by omega]at hi;repeat' (first|refine wkt ?_|refine wka ?_|refine wv hi ?_|refine wk ?_|fail)
        exact zwdu
       ·rw[oH (show ¬n2+1+a1+a2+a3+a4<q by omega)]at hs2;exact zwdu
      ·have hs2:=zgl hn2;generalize wgs (stW F q) q (a.states.take j) n=n2 at*;rw[hs2];refine ya ?_;exact⟨rfl,⟨rfl,rfl,rfl,rfl,trivial⟩,rfl⟩
     ·rw[qap];repeat' (first|refine wu ?_|exact wkc|refine wk2 ?_ ?_|intro hc)
      all_goals exact⟨rfl,⟨rfl,rfl,rfl,rfl,trivial⟩,rfl⟩
     ·exact zwdj
    ·have hs:=zgl hn;generalize wgs (fun n (a:Auto)=>wgs (stW F q) q a.states n) q (l.take k) l.length=n at*;rw[hs];refine ya ?_;exact⟨rfl,⟨rfl,trivial⟩,rfl⟩
   ·exact zwcg
   ·refine ya ?_;exact wkr
def ndW(F:Nat->List Auto->Nat)(q w:Nat)(n:Nod):Nat:=if w+wD q n.ins+wD q n.outs+wD q n.locals+wE q n.eqs+wX q n.assume+wX q n.ensure<q then w+wD q n.ins+wD q n.outs+wD q n.locals+wE q n.eqs+wX q n.assume+wX q n.ensure+F (q-(w+wD q n.ins+wD q n.outs+wD q n.locals+wE q n.eqs+wX q n.assume+wX q n.ensure)) n.autos else w+wD q n.ins+wD q n.outs+wD q n.locals+wE q n.eqs+wX q n.assume+wX q n.ensure
def wgP(q:Nat)(p:Prog):Nat:=wgs (ndW (wgA 100000000) q) q p.nodes (wgs (fun w (u:En)=>w+(u.tags.map T.s).length) q p.enums ((p.enums.map enT).length+(p.nodes.map nodT).length))
theorem zzB{w:Nat}(hF:∀(q:Nat),q≤1500->∀l:List Auto,(T.sl 1 (l.map zam)).w≤100000000->F q l≤B)(hB:2000000000≤B)(hq:q≤1500)(hn:w<q){n:Nod}(hs:(nodT n).w≤100000000):ndW F q w n≤B+2000:=by
 have w4:=zq5 n;have d1:=zeF (l:=n.ins) oA;have d2:=zeF (l:=n.outs) oA;have d3:=zeF (l:=n.locals) oA;have e:=zoP (l:=n.eqs) oA;have x1:=zuo (l:=n.assume) oA;have x2:=zuo (l:=n.ensure) oA;have b1:=zmU hq d1.1 d1.2;have b2:=zmU hq d2.1 d2.2;have b3:=zmU hq d3.1 d3.2;have b4:=zvk hq e.1 e.2;have b5:=zvn hq x1.1 x1.2;have b6:=zvn hq x2.1 x2.2;unfold ndW;generalize wD q n.ins=a1 at*;generalize wD q n.outs=a2 at*;generalize wD q n.locals=a3 at*;generalize wE q n.eqs=a4 at*;generalize wX q n.assume=a5 at*;generalize wX q n.ensure=a6 at*;split
 ·have:=hF (q-(w+a1+a2+a3+a4+a5+a6)) oA n.autos oA
  omega
 ·omega
theorem ztT (p:Prog) (hw:(T.ag (zbr p)).w≤100000000) (q:Nat) (hq1:1≤q) (hq:q≤1500):Pure Tryz.prog 13 [.t (.ag (zbr p)),.i q] (.i (wgP q p:Nat)):=by
 have hln:∀u∈p.nodes,(nodT u).w≤100000000:=fun u hu=>by
  have h1:=zaY (f:=nodT) (sz:=8) hu;exact zwbe
 have hpl:p.nodes.length≤100000000:=by
  have h1:=zaD nodT 8 p.nodes;exact zwbe
 have l1:(T.sl 2 (p.enums.map enT)).w+(zb0 p.nodes).w≤(T.ag (zbr p)).w:=by rw[w_ag];simp only[zbr,qaf,qaD,qaG,qa9];omega
 have le1:=zaD enT 2 p.enums;have hme:(p.enums.map enT).length=p.enums.length:=qac _;have hml:(p.nodes.map nodT).length=p.nodes.length:=qac _
 have hten:∀u∈p.enums,(u.tags.map T.s).length≤100000000:=fun u hu=>by
  have h1:=zaY (f:=enT) (sz:=2) hu;rw[show enT u= .ag [.s u.name,.sl 1 (u.tags.map T.s)] from rfl,w_ag]at h1;simp only[qaf,qaD,qaG,qa9]at h1;have h2:=zaD T.s 1 u.tags;rw[qac];omega
 obtain⟨B,hB,hF⟩:∃B,B=1000000000+2000*100000000/\∀(q:Nat),q≤1500->∀l:List Auto,(T.sl 1 (l.map zam)).w≤100000000->wgA 100000000 q l≤B:=⟨_,rfl,ztR 100000000⟩;have hA:=fun l h=>ztS 100000000 l (qag _) h
 unfold wgP;generalize wgA 100000000=F at*;unfold zbr;refine so Tryz.func13 ?_;repeat' (first|refine wu ?_|exact wkc|refine wk2 ?_ ?_|intro hc)
 refine TR.fin (id:=0) (EF:=[(1,.i q),(2,.cp [.sl 2 (p.enums.map enT),zb0 p.nodes] 0),(5,.i (wgs (fun w (u:En)=>w+(u.tags.map T.s).length) q p.enums ((p.enums.map enT).length+(p.nodes.map nodT).length):Nat))]) (GF:=[]) (TR.zaz p.enums.length (fun _=>True) (fun k=>[(1,.i q),(2,.cp [.sl 2 (p.enums.map enT),zb0 p.nodes] 0),(5,.i (wgs (fun w (u:En)=>w+(u.tags.map T.s).length) q (p.enums.take k) ((p.enums.map enT).length+(p.nodes.map nodT).length):Nat)),(6,.i k)]) (fun _=>[]) trivial (fun k hlt _=>?_) (fun _=>?_)) ?_
 ·have hat:=zbc enT hlt;have htk:=hten _ (qak hlt);have hb:wgs (fun w (u:En)=>w+(u.tags.map T.s).length) q (p.enums.take k) ((p.enums.map enT).length+(p.nodes.map nodT).length)≤300000000:=zdi _ _ oA fun n hn u hu=>by have:=hten u (qaS hu);omega
  by_cases hn:wgs (fun w (u:En)=>w+(u.tags.map T.s).length) q (p.enums.take k) ((p.enums.map enT).length+(p.nodes.map nodT).length)<q
  ·have hs:=zdC hlt hn;generalize wgs (fun w (u:En)=>w+(u.tags.map T.s).length) q (p.enums.take k) ((p.enums.map enT).length+(p.nodes.map nodT).length)=w at*;generalize p.enums[k]=u at*;unfold enT at hat;exact zwdj
  ·have hs:=zgl hn;generalize wgs (fun w (u:En)=>w+(u.tags.map T.s).length) q (p.enums.take k) ((p.enums.map enT).length+(p.nodes.map nodT).length)=w at*;rw[hs];refine ya ?_;exact⟨rfl,⟨rfl,rfl,rfl,trivial⟩,rfl⟩
 ·rw[qap];repeat' (first|refine wu ?_|exact wkc|refine wk2 ?_ ?_|intro hc)
  all_goals exact⟨rfl,⟨rfl,rfl,rfl,trivial⟩,rfl⟩
 have hw0:wgs (fun w (u:En)=>w+(u.tags.map T.s).length) q p.enums ((p.enums.map enT).length+(p.nodes.map nodT).length)≤300000000:=zdi _ _ oA fun n hn u hu=>by have:=hten u hu;omega
 generalize wgs (fun w (u:En)=>w+(u.tags.map T.s).length) q p.enums ((p.enums.map enT).length+(p.nodes.map nodT).length)=w0 at*;repeat' (first|refine wu ?_|exact wkc|refine wk2 ?_ ?_|intro hc)
 refine TR.fin (id:=2) (EF:=[(5,.i (wgs (ndW F q) q p.nodes w0:Nat))]) (GF:=[]) (TR.zaz p.nodes.length (fun _=>True) (fun k=>[(1,.i q),(2,.cp [.sl 2 (p.enums.map enT),zb0 p.nodes] 0),(5,.i (wgs (ndW F q) q (p.nodes.take k) w0:Nat)),(7,.i k)]) (fun _=>[]) trivial (fun k hlt _=>?_) (fun _=>?_)) ?_
 ·have hat:=zou hlt;have hnw:=hln _ (qak hlt);have hb:wgs (ndW F q) q (p.nodes.take k) w0≤B+2000:=zdi _ _ oA fun n hn u hu=>zzB hF oA hq hn (hln u (qaS hu))
  by_cases hn:wgs (ndW F q) q (p.nodes.take k) w0<q
  ·have hs:=zdC hlt hn;generalize wgs (ndW F q) q (p.nodes.take k) w0=w at*;generalize p.nodes[k]=n at*;rw[ndW.eq_1 F q w n]at hs;have w4:=zq5 n;have d1:=zeF (l:=n.ins) oA;have d2:=zeF (l:=n.outs) oA;have d3:=zeF (l:=n.locals) oA;have e:=zoP (l:=n.eqs) oA;have x1:=zuo (l:=n.assume) oA;have x2:=zuo (l:=n.ensure) oA;have b1:=zmU hq d1.1 d1.2;have b2:=zmU hq d2.1 d2.2;have b3:=zmU hq d3.1 d3.2;have b4:=zvk hq e.1 e.2;have b5:=zvn hq x1.1 x1.2;have b6:=zvn hq x2.1 x2.2;have c1:=zhH q hq1 hq n.ins d1.1 d1.2;have c2:=zhH q hq1 hq n.outs d2.1 d2.2;have c3:=zhH q hq1 hq n.locals d3.1 d3.2;have c4:=zpY q hq1 hq n.eqs e.1 e.2;have c5:=zp0 q hq1 hq n.assume x1.1 x1.2;have c6:=zp0 q hq1 hq n.ensure x2.1 x2.2;have hi:=hA n.autos oA;have hFs:=fun q' hq'=>hF q' hq' n.autos oA
   clear hA hF hln hten d1 d2 d3 e x1 x2 w4;generalize wD q n.ins=a1 at*;generalize wD q n.outs=a2 at*;generalize wD q n.locals=a3 at*;generalize wE q n.eqs=a4 at*;generalize wX q n.assume=a5 at*;generalize wX q n.ensure=a6 at*;unfold nodC at hat;repeat' (first|refine wkt ?_|refine wka ?_|refine rg [.i w,.cp (nodC n) 1,.t (zaw n.ins),.i q,.i a1,.i (w+a1:Nat),.cp (nodC n) 2,.t (zaw n.outs),.i q,.i a2,.i (w+a1+a2:Nat),.cp (nodC n) 3,.t (zaw n.locals),.i q,.i a3,.i (w+a1+a2+a3:Nat),.cp (nodC n) 4,.t (.sl 7 (n.eqs.map equT)),.i q,.i a4,.i (w+a1+a2+a3+a4:Nat),.cp (nodC n) 6,.t (.sl 6 (n.assume.map exT)),.i q,.i a5,.i (w+a1+a2+a3+a4+a5:Nat),.cp (nodC n) 7,.t (.sl 6 (n.ensure.map exT)),.i q,.i a6,.i (w+a1+a2+a3+a4+a5+a6:Nat),.i (w+a1+a2+a3+a4+a5+a6:Nat)] ?_ ?_|refine wv c1 ?_|refine wv c2 ?_|refine wv c3 ?_|refine wv c4 ?_|refine wv c5 ?_|refine wv c6 ?_|exact trivial|exact qav rfl rfl|refine qav (fun H env=>?_) ?_|refine wk ?_|exact wkc|refine wk2 ?_ ?_|intro hc)
   ·have hn3:w+a1+a2+a3+a4+a5+a6<q:=oA
    rw[oG hn3]at hs;have hi:=hi (q-(w+a1+a2+a3+a4+a5+a6)) oA oA;have hFs:=hFs (q-(w+a1+a2+a3+a4+a5+a6)) oA;generalize F (q-(w+a1+a2+a3+a4+a5+a6)) n.autos=fz at*;rw[show((q-(w+a1+a2+a3+a4+a5+a6):Nat):Int)=(q:Int)-((w+a1+a2+a3+a4+a5+a6:Nat):Int) by omega]at hi;repeat' (first|refine wkt ?_|refine wka ?_|refine wv hi ?_|refine wk ?_|fail)
    exact zwea
   ·rw[oH (show ¬w+a1+a2+a3+a4+a5+a6<q by omega)]at hs;exact zwea
  ·have hs:=zgl hn;generalize wgs (ndW F q) q (p.nodes.take k) w0=w at*;rw[hs];refine ya ?_;exact⟨rfl,⟨rfl,trivial⟩,rfl⟩
 ·exact zwcg
 ·refine ya ?_;exact wkr
end Go.Proofs.YtdicfgideclbdaaGreatDoor
namespace Go.TL
open Go
theorem TO.zdg{P:Program}{n:Nat}{env:Env}{K:TK}{all:Array Oper}{ops:List Oper}{H:Heap}(sz id j:Nat){cs:List SV}{H':Heap}(hH:H[id]?=some (.cells cs))(hi:cs[j]?=some (.t (.v (.slice none 0 0))))(hH':H.set id (.cells (cs.set j (.sl sz [] H.length)))++[.tail 0]=H')
  (k:TO false P n all ops env H' K):TO false P n all ops env H K:=(Mv.tail sz id j hH hi hH').to k
end Go.TL
namespace Go.Proofs.YtdicfgideclbdaaGreatDoor
open Go Go.TL
attribute [local irreducible] TR TO Then zaj RetK Sound zac Kf GG zaQ
abbrev cB (s:Str)(xs:List T):Blk:=.cells [.t (.i 10),.t (.v (.int .i64 0)),.t (.v (.int .i64 0)),.t (.v (.int .i64 0)),.t (.s s),.sl 6 xs 3]
end Go.Proofs.YtdicfgideclbdaaGreatDoor
