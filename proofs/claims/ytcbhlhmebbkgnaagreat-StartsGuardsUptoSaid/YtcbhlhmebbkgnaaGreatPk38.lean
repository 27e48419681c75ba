import Derived.Test.YtcbhlhmebbkgnaaGreatPk20
import Derived.Test.YtcbhlhmebbkgnaaGreatPk27
import Derived.Test.YtcbhlhmebbkgnaaGreatPk28
import Derived.Test.YtcbhlhmebbkgnaaGreatPk31
import Derived.Test.YtcbhlhmebbkgnaaGreatPk32
import Derived.Test.YtcbhlhmebbkgnaaGreatPk33
import Derived.Test.YtcbhlhmebbkgnaaGreatPk37
set_option linter.unusedSimpArgs false
set_option linter.unusedVariables false
namespace Go.Proofs.YtcbhlhmebbkgnaaGreat
open Go Go.TL
attribute [local irreducible] TR TO Then InBlock RetK Sound LoopK Kf GG ThenL
abbrev strsT (l:List Str):T:=.sl 1 (l.map T.s)
theorem at_strs{l:List Str}{k:Nat}(h:k<l.length):(l.map T.s)[k]?=some (T.s l[k]):=by simp[h]
theorem has6_sound(l:List Str)(s:Str)(hl:l.length≤2000000000):Pure Tryz.prog 21 [.t (strsT l),.s s] (.b (decide (s∈l))):=by
 have hml:(l.map T.s).length=l.length:=List.length_map _
 refine Sound.of tabOk Tryz.func21 (by kernel_rfl) rfl rfl ?_
 repeat' (first|refine wk ?_|exact wkc|intro hc|refine wk2 ?_ ?_|fail|fail)
 refine TR.loopN l.length (fun k=>s ∉ l.take k) (fun k=>[(0,.t (strsT l)),(1,.s s),(5,.i k)]) (fun _=>[]) (by simp) (fun k hlt hk=>?_) (fun hk=>?_)
 ·have hx:=at_strs hlt
  have htk:=take_at hlt
  have hm:l[k]∈l:=List.getElem_mem hlt
  generalize l[k]=x at*
  repeat' (first|refine wk ?_|exact wkc|intro hc|refine wk2 ?_ ?_|fail|fail)
  ·rw[decide_eq_true (show s∈l from by rw[<-hc];exact hm)];exact wkr
  ·refine LoopK.nextN hlt ?_
   rw[htk,List.mem_append]
   rintro(h|h)
   ·exact hk h
   ·have h':s=x:=by simpa using h
    exact hc h'.symm
 ·rw[List.take_length]at hk
  rw[decide_eq_false hk]
  repeat' (first|refine wk ?_|exact wkc|intro hc|refine wk2 ?_ ?_|fail|fail)
  exact wkr
theorem weigh_sound':∀(m:Nat) (e:Ex),wEx e≤m->∀(q:Nat),1≤q->q≤1000000->Pure Tryz.prog 11 [.t (.ag (exC e)),.i q] (.i (min (wEx e) q:Nat)):=by
 intro m
 induction m with
 | zero=>intro e he;have:=wEx_pos e;omega
 | succ m ih0=>
   intro e he q hq1 hq2
   have hw:=wEx_eq e
   have ih:∀x∈e.args,∀(q:Nat),1≤q->q≤1000000->Pure Tryz.prog 11 [.t (.ag (exC x)),.i q] (.i (min (wEx x) q:Nat)):=fun x hx q h1 h2=>ih0 x (by have:=wEx_arg hx;omega) q h1 h2
   clear ih0
   rw[hw]
   generalize hL:e.args=L at ih⊢
   have hml:(L.map exT).length=L.length:=List.length_map _
   unfold exC
   rw[hL]
   refine Sound.of tabOk Tryz.func11 (by kernel_rfl) rfl rfl ?_
   repeat' (first|refine wkt ?_|refine wk ?_|exact wkc|intro hc|refine wk2 ?_ ?_|fail)
   refine TR.loopN L.length (fun k=>k<1+((L.take k).map wEx).sum) (fun k=>[(1,.i q),(2,.cp [T.n e.kind,T.n e.op,T.n e.t,T.n e.v,.s e.name,.sl 6 (L.map exT)] 0),(5,.i (min (1+((L.take k).map wEx).sum) q:Nat)),(6,.i k)]) (fun _=>[]) (by simp) (fun k hlt hk=>?_) (fun hk=>?_) ⟨rfl,rfl,by rw[show min (1+((L.take 0).map wEx).sum) q=1 from by simp;omega];rfl,rfl,trivial⟩
   ·have hx:=at_exT hlt
    have htk:((L.take (k+1)).map wEx).sum=((L.take k).map wEx).sum+wEx L[k]:=by rw[take_at hlt,List.map_append,List.sum_append];simp
    have hle:((L.take k).map wEx).sum≤(L.map wEx).sum:=by
     conv=>rhs;rw[<-List.take_append_drop k L]
     rw[List.map_append,List.sum_append];omega
    have hwp:=wEx_pos L[k]
    have hi:=ih L[k] (List.getElem_mem hlt)
    generalize L[k]=x at hx htk hwp hi
    generalize hS:((L.take k).map wEx).sum=S at*
    generalize hT:(L.map wEx).sum=W at*
    unfold exC at hx hi
    by_cases hc0:1+S<q
    ·have hn:min (1+S) q=1+S:=by omega
     rw[hn]
     have hi2:=hi (q-(1+S)) (by omega) (by omega)
     rw[show((q-(1+S):Nat):Int)=(q:Int)-((1+S:Nat):Int) from by omega]at hi2
     have hr:((1+S:Nat):Int)+((min (wEx x) (q-(1+S)):Nat):Int)=((min (1+(S+wEx x)) q:Nat):Int):=by omega
     generalize min (wEx x) (q-(1+S))=z at hi2 hr
     have hz:z≤1000000:=by omega
     repeat' (first|refine wkt ?_|refine wk ?_|exact wkc|intro hc|refine wk2 ?_ ?_|refine wv hi2 ?_|fail)
     exact LoopK.nextN hlt (by rw[htk];omega) ⟨rfl,rfl,by rw[htk,<-hr];rfl,rfl,trivial⟩
    ·have hn:min (1+S) q=q:=by omega
     rw[hn,show min (1+W) q=q from by omega]
     repeat' (first|refine wkt ?_|refine wk ?_|exact wkc|intro hc|refine wk2 ?_ ?_|fail|fail)
     all_goals first
      | (exfalso;omega)
      | (refine RetK.pure rfl (Le.of_eq ?_) rfl;refine congrArg (fun z=>SV.t (T.v (Value.int IntKind.i64 z))) ?_;omega)
   ·rw[List.take_length]
    repeat' (first|refine wkt ?_|refine wk ?_|exact wkc|intro hc|refine wk2 ?_ ?_|fail)
    all_goals first
     | (exfalso;omega)
     | (refine RetK.pure rfl (Le.of_eq ?_) rfl;refine congrArg (fun z=>SV.t (T.v (Value.int IntKind.i64 z))) ?_;omega)
end Go.Proofs.YtcbhlhmebbkgnaaGreat
namespace Go.TL
open Go
def FinK(id:Nat)(EF:Env)(GF:Heap)(K:TK):TK
 | .exit i,env,H=>i=id/\env.sub EF/\H=GF
 | e,env,H=>K e env H
theorem TR.fin{P:Program}{n id:Nat}{env EF:Env}{H GF:Heap}{K:TK}{c:Code}(h:TR P n c env H (FinK id EF GF K))(fin:K (.exit id) EF GF):TR P n c env H K:=
 TR.weak (TR.mono h fun te env H hk=>by
  cases te with
  | exit i=>
    obtain⟨rfl,h1,rfl⟩:=hk
    exact⟨EF,fun i v hv=>⟨v,Env.sub_look h1 i v hv,Le.refl v⟩,fin⟩
  | _=>exact WeakK.done hk)
section
variable {P:Program}{n:Nat}{env:Env}{K:TK}{all:Array Oper}{rest:List Oper}{d:Nat}{ty:TypeId}{pos:String}{aft:Array Edge}{H:Heap}{q:Bool}
theorem TO.quoN{t t':TypeId}{x y:Operand}{a b:Nat}(hd:Nat.ble (d+1) n=true)(hx:env.val x=some (.i a))(hy:env.val y=some (.i b))(hb:0<b)(ha:a≤1000000000000)
  (k:TO q P n all rest ((d,.i (a / b:Nat))::env) H K):TO q P n all (⟨some d,.binOp .quo t x y t',ty,pos,aft,none⟩::rest) env H K:=
 TO.bquo hd hx hy (by omega) (by
  have h2:a / b≤a:=Nat.div_le_self a b
  rw[show((a:Int).tdiv b)=((a / b:Nat):Int) from by rw[Int.ofNat_tdiv]]
  generalize a / b=c at*
  rw[wrap_in (by omega) (by omega)];exact k)
end
end Go.TL
set_option linter.unusedVariables false
set_option linter.unusedSimpArgs false
namespace Go.Proofs.YtcbhlhmebbkgnaaGreat
open Go Go.TL
attribute [local irreducible] TR TO Then InBlock RetK Sound LoopK Kf GG ThenL
def wgs{α:Type}(g:Nat->α->Nat)(q:Nat):List α->Nat->Nat
 | [],n=>n
 | x::l,n=>if n<q then wgs g q l (g n x) else n
theorem wgs_stop{α:Type}{g:Nat->α->Nat}{q n:Nat}(h:¬n<q):∀(l:List α),wgs g q l n=n
 | []=>rfl
 | x::l=>by rw[wgs,if_neg h]
theorem wgs_append{α:Type}(g:Nat->α->Nat)(q:Nat):∀(a b:List α) (n:Nat),wgs g q (a++b) n=wgs g q b (wgs g q a n)
 | [],b,n=>rfl
 | x::a,b,n=>by
   rw[List.cons_append,wgs,wgs]
   by_cases h:n<q
   ·rw[if_pos h,if_pos h,wgs_append g q a b]
   ·rw[if_neg h,if_neg h,wgs_stop h]
theorem wgs_take{α:Type}{g:Nat->α->Nat}{q n:Nat}{l:List α}{k:Nat}(hk:k<l.length)(h:wgs g q (l.take k) n<q):wgs g q (l.take (k+1)) n=g (wgs g q (l.take k) n) l[k]:=by
 rw[List.take_succ_eq_append_getElem hk,wgs_append,wgs,if_pos h,wgs]
theorem wgs_done{α:Type}{g:Nat->α->Nat}{q n:Nat}{l:List α}{k:Nat}(h:¬wgs g q (l.take k) n<q):wgs g q l n=wgs g q (l.take k) n:=by
 conv=>lhs;rw[<-List.take_append_drop k l]
 rw[wgs_append,wgs_stop h]
theorem wgs_le{α:Type}{g:Nat->α->Nat}{q B:Nat}:∀(l:List α) (n:Nat),n≤B->(∀n,n<q->∀x∈l,g n x≤B)->wgs g q l n≤B
 | [],n,h,_=>h
 | x::l,n,h,hg=>by
   rw[wgs]
   split
   ·rename_i hq
    exact wgs_le l _ (hg n hq x (by simp)) fun n hn y hy=>hg n hn y (by simp[hy])
   ·exact h
def wD(q:Nat)(l:List Decl):Nat:=wgs (fun n x=>n+((x.clock.map onT).length+x.name.length / 100)) q l l.length
theorem wD_le{q:Nat}(hq:q≤1500){l:List Decl}(hl:l.length≤100000000)(hx:∀x∈l,(x.clock.map onT).length≤100000000/\x.name.length≤100000000):wD q l≤200000000:=
 wgs_le l _ (by omega) fun n hn x h=>by have:=hx x h;omega
theorem wD_sound(q:Nat)(hq1:1≤q)(hq:q≤1500)(l:List Decl)(hl:l.length≤100000000)(hx:∀x∈l,(x.clock.map onT).length≤100000000/\x.name.length≤100000000):Pure Tryz.prog 41 [.t (declsT l),.i q] (.i (wD q l:Nat)):=by
 have hml:(l.map declT).length=l.length:=List.length_map _
 unfold wD
 refine Sound.of tabOk Tryz.func41 (by kernel_rfl) rfl rfl ?_
 repeat' (first|refine wkt ?_|refine wk ?_|exact wkc|intro hc|refine wk2 ?_ ?_|fail)
 refine TR.fin (id:=0) (EF:=[(5,.i (wgs (fun n x=>n+((x.clock.map onT).length+x.name.length / 100)) q l l.length:Nat))]) (GF:=[]) (TR.loopN l.length (fun _=>True) (fun k=>[(0,.t (declsT l)),(1,.i q),(5,.i (wgs (fun n x=>n+((x.clock.map onT).length+x.name.length / 100)) q (l.take k) l.length:Nat)),(6,.i k)]) (fun _=>[]) trivial (fun k hlt _=>?_) (fun _=>?_) ⟨rfl,rfl,by rw[<-hml];rfl,rfl,trivial⟩) ?_
 ·have hat:=at_decl hlt
  have hxk:=hx _ (List.getElem_mem hlt)
  have hb:wgs (fun n (x:Decl)=>n+((x.clock.map onT).length+x.name.length / 100)) q (l.take k) l.length≤200000000:=wgs_le _ _ (by omega) fun n hn x h=>by have:=hx x (List.mem_of_mem_take h);omega
  by_cases hn:wgs (fun n (x:Decl)=>n+((x.clock.map onT).length+x.name.length / 100)) q (l.take k) l.length<q
  ·have hs:=wgs_take hlt hn
   generalize wgs (fun n (x:Decl)=>n+((x.clock.map onT).length+x.name.length / 100)) q (l.take k) l.length=n at*
   generalize l[k]=x at*
   rw[show n+((x.clock.map onT).length+x.name.length / 100)=n+(x.clock.map onT).length+x.name.length / 100 by omega]at hs
   unfold declC at hat
   repeat' (first|refine wkt ?_|(apply TO.quoN (b:=100);exact rfl;exact rfl;exact rfl;omega;omega)|exact trivial|exact And.intro rfl rfl|refine And.intro (fun H env=>?_) ?_|refine wk ?_|exact wkc|intro hc|refine wk2 ?_ ?_|fail)
   exact LoopK.nextN hlt trivial ⟨rfl,rfl,by(try dsimp only);rw[hs];rfl,rfl,trivial⟩
  ·have hs:=wgs_done hn
   generalize wgs (fun n (x:Decl)=>n+((x.clock.map onT).length+x.name.length / 100)) q (l.take k) l.length=n at*
   rw[hs]
   repeat' (first|refine wkt ?_|refine wk ?_|exact wkc|intro hc|refine wk2 ?_ ?_|fail)
   exact⟨rfl,⟨rfl,trivial⟩,rfl⟩
 ·rw[List.take_length]
  repeat' (first|refine wkt ?_|refine wk ?_|exact wkc|intro hc|refine wk2 ?_ ?_|fail)
  all_goals exact⟨rfl,⟨rfl,trivial⟩,rfl⟩
 ·repeat' (first|refine wkt ?_|refine wk ?_|exact wkc|intro hc|refine wk2 ?_ ?_|fail)
  exact wkr
def wE(q:Nat)(l:List Equ):Nat:=wgs (fun n x=>n+((x.left.map T.s).length+min (wEx x.right) q)) q l l.length
theorem wE_le{q:Nat}(hq:q≤1500){l:List Equ}(hl:l.length≤100000000)(hx:∀x∈l,(x.left.map T.s).length≤100000000):wE q l≤200000000:=
 wgs_le l _ (by omega) fun n hn x h=>by have:=hx x h;omega
theorem wE_sound(q:Nat)(hq1:1≤q)(hq:q≤1500)(l:List Equ)(hl:l.length≤100000000)(hx:∀x∈l,(x.left.map T.s).length≤100000000):Pure Tryz.prog 42 [.t (.sl 7 (l.map equT)),.i q] (.i (wE q l:Nat)):=by
 have hml:(l.map equT).length=l.length:=List.length_map _
 unfold wE
 refine Sound.of tabOk Tryz.func42 (by kernel_rfl) rfl rfl ?_
 repeat' (first|refine wkt ?_|refine wk ?_|exact wkc|intro hc|refine wk2 ?_ ?_|fail)
 refine TR.fin (id:=0) (EF:=[(5,.i (wgs (fun n x=>n+((x.left.map T.s).length+min (wEx x.right) q)) q l l.length:Nat))]) (GF:=[]) (TR.loopN l.length (fun _=>True) (fun k=>[(0,.t (.sl 7 (l.map equT))),(1,.i q),(5,.i (wgs (fun n x=>n+((x.left.map T.s).length+min (wEx x.right) q)) q (l.take k) l.length:Nat)),(6,.i k)]) (fun _=>[]) trivial (fun k hlt _=>?_) (fun _=>?_) ⟨rfl,rfl,by rw[<-hml];rfl,rfl,trivial⟩) ?_
 ·have hat:=at_equ hlt
  have hxk:=hx _ (List.getElem_mem hlt)
  have hb:wgs (fun n (x:Equ)=>n+((x.left.map T.s).length+min (wEx x.right) q)) q (l.take k) l.length≤200000000:=wgs_le _ _ (by omega) fun n hn x h=>by have:=hx x (List.mem_of_mem_take h);omega
  by_cases hn:wgs (fun n (x:Equ)=>n+((x.left.map T.s).length+min (wEx x.right) q)) q (l.take k) l.length<q
  ·have hs:=wgs_take hlt hn
   generalize wgs (fun n (x:Equ)=>n+((x.left.map T.s).length+min (wEx x.right) q)) q (l.take k) l.length=n at*
   generalize l[k]=x at*
   rw[show n+((x.left.map T.s).length+min (wEx x.right) q)=n+(x.left.map T.s).length+min (wEx x.right) q by omega]at hs
   have hw:=weigh_sound' _ x.right (Nat.le_refl _) q hq1 (by omega)
   have hmq:min (wEx x.right) q≤1500:=by omega
   generalize min (wEx x.right) q=wq at*
   unfold exC at hw
   unfold equC at hat
   repeat' (first|refine wkt ?_|refine rg [.i n,.t (.sl 7 (l.map equT)),.i k,.cp [.sl 1 (x.left.map T.s),T.n x.right.kind,T.n x.right.op,T.n x.right.t,T.n x.right.v,.s x.right.name,.sl 6 (x.right.args.map exT)] 0,.cp [.sl 1 (x.left.map T.s),T.n x.right.kind,T.n x.right.op,T.n x.right.t,T.n x.right.v,.s x.right.name,.sl 6 (x.right.args.map exT)] 0,.t (.sl 1 (x.left.map T.s)),.i (x.left.map T.s).length,.i (n+(x.left.map T.s).length:Nat),.t (.sl 7 (l.map equT)),.i k,.cp [.sl 1 (x.left.map T.s),T.n x.right.kind,T.n x.right.op,T.n x.right.t,T.n x.right.v,.s x.right.name,.sl 6 (x.right.args.map exT)] 0,.cp [.sl 1 (x.left.map T.s),T.n x.right.kind,T.n x.right.op,T.n x.right.t,T.n x.right.v,.s x.right.name,.sl 6 (x.right.args.map exT)] 1,.t (.ag [T.n x.right.kind,T.n x.right.op,T.n x.right.t,T.n x.right.v,.s x.right.name,.sl 6 (x.right.args.map exT)]),.i q,.i (wq:Nat),.i (n+(x.left.map T.s).length+wq:Nat),.i (n+(x.left.map T.s).length+wq:Nat)] ?_ ?_|refine wv hw ?_|exact trivial|exact And.intro rfl rfl|refine And.intro (fun H env=>?_) ?_|refine wk ?_|exact wkc|intro hc|refine wk2 ?_ ?_|fail)
   exact LoopK.nextN hlt trivial ⟨rfl,rfl,by(try dsimp only);rw[hs];rfl,rfl,trivial⟩
  ·have hs:=wgs_done hn
   generalize wgs (fun n (x:Equ)=>n+((x.left.map T.s).length+min (wEx x.right) q)) q (l.take k) l.length=n at*
   rw[hs]
   repeat' (first|refine wkt ?_|refine wk ?_|exact wkc|intro hc|refine wk2 ?_ ?_|fail)
   exact⟨rfl,⟨rfl,trivial⟩,rfl⟩
 ·rw[List.take_length]
  repeat' (first|refine wkt ?_|refine wk ?_|exact wkc|intro hc|refine wk2 ?_ ?_|fail)
  all_goals exact⟨rfl,⟨rfl,trivial⟩,rfl⟩
 ·repeat' (first|refine wkt ?_|refine wk ?_|exact wkc|intro hc|refine wk2 ?_ ?_|fail)
  exact wkr
def wX(q:Nat)(l:List Ex):Nat:=wgs (fun n x=>n+(min (wEx x) q)) q l l.length
theorem wX_le{q:Nat}(hq:q≤1500){l:List Ex}(hl:l.length≤100000000)(hx:∀x∈l,wEx x≤1000000000):wX q l≤200000000:=
 wgs_le l _ (by omega) fun n hn x h=>by have:=hx x h;omega
theorem wX_sound(q:Nat)(hq1:1≤q)(hq:q≤1500)(l:List Ex)(hl:l.length≤100000000)(hx:∀x∈l,wEx x≤1000000000):Pure Tryz.prog 43 [.t (.sl 6 (l.map exT)),.i q] (.i (wX q l:Nat)):=by
 have hml:(l.map exT).length=l.length:=List.length_map _
 unfold wX
 refine Sound.of tabOk Tryz.func43 (by kernel_rfl) rfl rfl ?_
 repeat' (first|refine wkt ?_|refine wk ?_|exact wkc|intro hc|refine wk2 ?_ ?_|fail)
 refine TR.fin (id:=0) (EF:=[(5,.i (wgs (fun n x=>n+(min (wEx x) q)) q l l.length:Nat))]) (GF:=[]) (TR.loopN l.length (fun _=>True) (fun k=>[(0,.t (.sl 6 (l.map exT))),(1,.i q),(5,.i (wgs (fun n x=>n+(min (wEx x) q)) q (l.take k) l.length:Nat)),(6,.i k)]) (fun _=>[]) trivial (fun k hlt _=>?_) (fun _=>?_) ⟨rfl,rfl,by rw[<-hml];rfl,rfl,trivial⟩) ?_
 ·have hat:=at_exT hlt
  have hxk:=hx _ (List.getElem_mem hlt)
  have hb:wgs (fun n (x:Ex)=>n+(min (wEx x) q)) q (l.take k) l.length≤200000000:=wgs_le _ _ (by omega) fun n hn x h=>by have:=hx x (List.mem_of_mem_take h);omega
  by_cases hn:wgs (fun n (x:Ex)=>n+(min (wEx x) q)) q (l.take k) l.length<q
  ·have hs:=wgs_take hlt hn
   generalize wgs (fun n (x:Ex)=>n+(min (wEx x) q)) q (l.take k) l.length=n at*
   generalize l[k]=x at*
   have hw:=weigh_sound' _ x (Nat.le_refl _) q hq1 (by omega)
   have hmq:min (wEx x) q≤1500:=by omega
   generalize min (wEx x) q=wq at*
   unfold exC at hw
   unfold exC at hat
   repeat' (first|refine wkt ?_|refine wv hw ?_|exact trivial|exact And.intro rfl rfl|refine And.intro (fun H env=>?_) ?_|refine wk ?_|exact wkc|intro hc|refine wk2 ?_ ?_|fail)
   exact LoopK.nextN hlt trivial ⟨rfl,rfl,by(try dsimp only);rw[hs];rfl,rfl,trivial⟩
  ·have hs:=wgs_done hn
   generalize wgs (fun n (x:Ex)=>n+(min (wEx x) q)) q (l.take k) l.length=n at*
   rw[hs]
   repeat' (first|refine wkt ?_|refine wk ?_|exact wkc|intro hc|refine wk2 ?_ ?_|fail)
   exact⟨rfl,⟨rfl,trivial⟩,rfl⟩
 ·rw[List.take_length]
  repeat' (first|refine wkt ?_|refine wk ?_|exact wkc|intro hc|refine wk2 ?_ ?_|fail)
  all_goals exact⟨rfl,⟨rfl,trivial⟩,rfl⟩
 ·repeat' (first|refine wkt ?_|refine wk ?_|exact wkc|intro hc|refine wk2 ?_ ?_|fail)
  exact wkr
def wT(q:Nat)(l:List Tran):Nat:=wgs (fun n x=>n+(min (wEx x.cond) q)) q l l.length
theorem wT_le{q:Nat}(hq:q≤1500){l:List Tran}(hl:l.length≤100000000)(hx:∀x∈l,wEx x.cond≤1000000000):wT q l≤200000000:=
 wgs_le l _ (by omega) fun n hn x h=>by have:=hx x h;omega
theorem wT_sound(q:Nat)(hq1:1≤q)(hq:q≤1500)(l:List Tran)(hl:l.length≤100000000)(hx:∀x∈l,wEx x.cond≤1000000000):Pure Tryz.prog 70 [.t (.sl 8 (l.map tranT)),.i q] (.i (wT q l:Nat)):=by
 have hml:(l.map tranT).length=l.length:=List.length_map _
 unfold wT
 refine Sound.of tabOk Tryz.func70 (by kernel_rfl) rfl rfl ?_
 repeat' (first|refine wkt ?_|refine wk ?_|exact wkc|intro hc|refine wk2 ?_ ?_|fail)
 refine TR.fin (id:=0) (EF:=[(5,.i (wgs (fun n x=>n+(min (wEx x.cond) q)) q l l.length:Nat))]) (GF:=[]) (TR.loopN l.length (fun _=>True) (fun k=>[(0,.t (.sl 8 (l.map tranT))),(1,.i q),(5,.i (wgs (fun n x=>n+(min (wEx x.cond) q)) q (l.take k) l.length:Nat)),(6,.i k)]) (fun _=>[]) trivial (fun k hlt _=>?_) (fun _=>?_) ⟨rfl,rfl,by rw[<-hml];rfl,rfl,trivial⟩) ?_
 ·have hat:=at_tran hlt
  have hxk:=hx _ (List.getElem_mem hlt)
  have hb:wgs (fun n (x:Tran)=>n+(min (wEx x.cond) q)) q (l.take k) l.length≤200000000:=wgs_le _ _ (by omega) fun n hn x h=>by have:=hx x (List.mem_of_mem_take h);omega
  by_cases hn:wgs (fun n (x:Tran)=>n+(min (wEx x.cond) q)) q (l.take k) l.length<q
  ·have hs:=wgs_take hlt hn
   generalize wgs (fun n (x:Tran)=>n+(min (wEx x.cond) q)) q (l.take k) l.length=n at*
   generalize l[k]=x at*
   have hw:=weigh_sound' _ x.cond (Nat.le_refl _) q hq1 (by omega)
   have hmq:min (wEx x.cond) q≤1500:=by omega
   generalize min (wEx x.cond) q=wq at*
   unfold exC at hw
   unfold tranC at hat
   repeat' (first|refine wkt ?_|refine wv hw ?_|exact trivial|exact And.intro rfl rfl|refine And.intro (fun H env=>?_) ?_|refine wk ?_|exact wkc|intro hc|refine wk2 ?_ ?_|fail)
   exact LoopK.nextN hlt trivial ⟨rfl,rfl,by(try dsimp only);rw[hs];rfl,rfl,trivial⟩
  ·have hs:=wgs_done hn
   generalize wgs (fun n (x:Tran)=>n+(min (wEx x.cond) q)) q (l.take k) l.length=n at*
   rw[hs]
   repeat' (first|refine wkt ?_|refine wk ?_|exact wkc|intro hc|refine wk2 ?_ ?_|fail)
   exact⟨rfl,⟨rfl,trivial⟩,rfl⟩
 ·rw[List.take_length]
  repeat' (first|refine wkt ?_|refine wk ?_|exact wkc|intro hc|refine wk2 ?_ ?_|fail)
  all_goals exact⟨rfl,⟨rfl,trivial⟩,rfl⟩
 ·repeat' (first|refine wkt ?_|refine wk ?_|exact wkc|intro hc|refine wk2 ?_ ?_|fail)
  exact wkr
end Go.Proofs.YtcbhlhmebbkgnaaGreat
namespace Go.Proofs.YtcbhlhmebbkgnaaGreat
open Go Go.TL
attribute [local irreducible] TR TO Then InBlock RetK Sound LoopK Kf GG ThenL
def stW(F:Nat->List Auto->Nat)(q n:Nat)(s:Sta):Nat:=
 if n+1+wD q s.locals+wE q s.eqs+wT q s.unl+wT q s.unt<q then n+1+wD q s.locals+wE q s.eqs+wT q s.unl+wT q s.unt+F (q-(n+1+wD q s.locals+wE q s.eqs+wT q s.unl+wT q s.unt)) s.autos else n+1+wD q s.locals+wE q s.eqs+wT q s.unl+wT q s.unt
def wgA:Nat->Nat->List Auto->Nat
 | 0,_,_=>0
 | m+1,q,l=>wgs (fun n a=>wgs (stW (wgA m) q) q a.states n) q l l.length
theorem decl_w8{l:List Decl}(h:(declsT l).w≤100000000):l.length≤100000000/\∀x∈l,(x.clock.map onT).length≤100000000/\x.name.length≤100000000:=by
 have h1:=w_lenM declT 3 l
 have h2:(declsT l).w=(T.sl 3 (l.map declT)).w:=rfl
 refine⟨by omega,fun x hx=>?_⟩
 have h3:=name_decl hx
 have h4:=w_lenM onT 3 x.clock
 rw[List.length_map]
 omega
theorem equ_w8{l:List Equ}(h:(T.sl 7 (l.map equT)).w≤100000000):l.length≤100000000/\∀x∈l,(x.left.map T.s).length≤100000000:=by
 have h1:=w_lenM equT 7 l
 refine⟨by omega,fun x hx=>?_⟩
 have h3:=w_inM (f:=equT) (sz:=7) hx
 have h4:=left_equ (q:=x)
 rw[List.length_map]
 omega
theorem ex_w8{l:List Ex}(h:(T.sl 6 (l.map exT)).w≤100000000):l.length≤100000000/\∀x∈l,wEx x≤1000000000:=by
 have h1:=w_lenM exT 6 l
 refine⟨by omega,fun x hx=>?_⟩
 have h3:=w_inM (f:=exT) (sz:=6) hx
 have h4:=wEx_le x
 omega
theorem tran_w8{l:List Tran}(h:(T.sl 8 (l.map tranT)).w≤100000000):l.length≤100000000/\∀x∈l,wEx x.cond≤1000000000:=by
 have h1:=w_lenM tranT 8 l
 refine⟨by omega,fun x hx=>?_⟩
 have h3:=w_inM (f:=tranT) (sz:=8) hx
 have h4:=wEx_tran (t:=x)
 omega
theorem stW_le{F:Nat->List Auto->Nat}{B q n:Nat}(hF:∀(q:Nat),q≤1500->∀l:List Auto,(T.sl 1 (l.map autoT)).w≤100000000->F q l≤B)(hB:1000000000≤B)(hq:q≤1500)(hn:n<q){s:Sta}(hs:(staT s).w≤100000000):stW F q n s≤B+2000:=by
 have w4:=w_sta s
 have d:=decl_w8 (l:=s.locals) (by omega)
 have e:=equ_w8 (l:=s.eqs) (by omega)
 have t1:=tran_w8 (l:=s.unl) (by omega)
 have t2:=tran_w8 (l:=s.unt) (by omega)
 have b1:=wD_le hq d.1 d.2
 have b2:=wE_le hq e.1 e.2
 have b3:=wT_le hq t1.1 t1.2
 have b4:=wT_le hq t2.1 t2.2
 unfold stW
 generalize wD q s.locals=a1 at*
 generalize wE q s.eqs=a2 at*
 generalize wT q s.unl=a3 at*
 generalize wT q s.unt=a4 at*
 split
 ·have:=hF (q-(n+1+a1+a2+a3+a4)) (by omega) s.autos (by omega)
  omega
 ·omega
theorem auW_le{F:Nat->List Auto->Nat}{B q n:Nat}(hF:∀(q:Nat),q≤1500->∀l:List Auto,(T.sl 1 (l.map autoT)).w≤100000000->F q l≤B)(hB:1000000000≤B)(hq:q≤1500)(hn:n≤B){l:List Sta}(hs:∀s∈l,(staT s).w≤100000000):wgs (stW F q) q l n≤B+2000:=
 wgs_le l n (by omega) fun n hn s h=>stW_le hF hB hq hn (hs s h)
theorem wgA_le:∀(m:Nat) (q:Nat),q≤1500->∀l:List Auto,(T.sl 1 (l.map autoT)).w≤100000000->wgA m q l≤1000000000+2000*m
 | 0,q,hq,l,hw=>by simp[wgA]
 | m+1,q,hq,l,hw=>by
   have h1:=w_lenM autoT 1 l
   obtain⟨B,hB⟩:∃B,B=1000000000+2000*(m+1):=⟨_,rfl⟩
   rw[<-hB]
   unfold wgA
   refine wgs_le l _ (by omega) fun n hn a ha=>?_
   have w1:=w_inM (f:=autoT) (sz:=1) ha
   have w2:=w_auto a
   have:=auW_le (n:=n) (wgA_le m) (by omega) hq (by omega) (l:=a.states) fun s hs=>by have:=w_inM (f:=staT) (sz:=6) hs;omega
   omega
set_option maxHeartbeats 4000000 in
theorem wgA_sound:∀(m:Nat) (l:List Auto),m≤100000000->(T.sl 1 (l.map autoT)).w≤m->∀q:Nat,1≤q->q≤1500->Pure Tryz.prog 44 [.t (.sl 1 (l.map autoT)),.i q] (.i (wgA m q l:Nat)):=by
 intro m
 induction m with
 | zero=>intro l _ h;have:=w_lenM autoT 1 l;omega
 | succ m ih0=>
   intro l hm8 hw q hq1 hq
   have hml:(l.map autoT).length=l.length:=List.length_map _
   have hll:=w_lenM autoT 1 l
   have ih:=fun l h=>ih0 l (by omega) h
   clear ih0
   have hF:=wgA_le m
   rw[wgA]
   generalize wgA m=F at*
   have hsw:∀a∈l,∀s∈a.states,(staT s).w≤m:=fun a ha s hs=>by
    have w1:=w_inM (f:=autoT) (sz:=1) ha
    have w2:=w_auto a
    have w3:=w_inM (f:=staT) (sz:=6) hs
    omega
   refine Sound.of tabOk Tryz.func44 (by kernel_rfl) rfl rfl ?_
   repeat' (first|refine wkt ?_|refine wk ?_|exact wkc|intro hc|refine wk2 ?_ ?_|fail)
   refine TR.fin (id:=0) (EF:=[(5,.i (wgs (fun n (a:Auto)=>wgs (stW F q) q a.states n) q l l.length:Nat))]) (GF:=[]) (TR.loopN l.length (fun _=>True) (fun k=>[(0,.t (.sl 1 (l.map autoT))),(1,.i q),(5,.i (wgs (fun n (a:Auto)=>wgs (stW F q) q a.states n) q (l.take k) l.length:Nat)),(6,.i k)]) (fun _=>[]) trivial (fun k hlt _=>?_) (fun _=>?_) ⟨rfl,rfl,by rw[<-hml];rfl,rfl,trivial⟩) ?_
   ·have hat:=at_auto hlt
    have hak:=hsw _ (List.getElem_mem hlt)
    have hb:wgs (fun n (a:Auto)=>wgs (stW F q) q a.states n) q (l.take k) l.length≤1000000000+2000*m+2000:=wgs_le _ _ (by omega) fun n hn a ha=>auW_le hF (by omega) hq (by omega) fun s hs=>by have:=hsw a (List.mem_of_mem_take ha) s hs;omega
    by_cases hn:wgs (fun n (a:Auto)=>wgs (stW F q) q a.states n) q (l.take k) l.length<q
    ·have hs:=wgs_take hlt hn
     generalize wgs (fun n (a:Auto)=>wgs (stW F q) q a.states n) q (l.take k) l.length=n at*
     have hln:l[k].states.length≤1000000000:=by
      have w1:=w_inM (f:=autoT) (sz:=1) (List.getElem_mem hlt)
      have w2:=w_auto l[k]
      have w3:=w_lenM staT 6 l[k].states
      omega
     generalize l[k]=a at*
     have hma:(a.states.map staT).length=a.states.length:=List.length_map _
     unfold autoC at hat
     repeat' (first|refine wkt ?_|refine wk ?_|exact wkc|intro hc|refine wk2 ?_ ?_|fail)
     refine TR.fin (id:=2) (EF:=[(0,.t (.sl 1 (l.map autoT))),(1,.i q),(6,.i k),(5,.i (wgs (stW F q) q a.states n:Nat))]) (GF:=[]) (TR.loopN a.states.length (fun _=>True) (fun j=>[(0,.t (.sl 1 (l.map autoT))),(1,.i q),(6,.i k),(5,.i (wgs (stW F q) q (a.states.take j) n:Nat)),(7,.i j)]) (fun _=>[]) trivial (fun j hlj _=>?_) (fun _=>?_)) ?_
     ·have hat2:=at_sta hlj
      have hsk:=hak _ (List.getElem_mem hlj)
      have hb2:wgs (stW F q) q (a.states.take j) n≤1000000000+2000*m+2000:=auW_le hF (by omega) hq (by omega) fun s hs=>by have:=hak s (List.mem_of_mem_take hs);omega
      by_cases hn2:wgs (stW F q) q (a.states.take j) n<q
      ·have hs2:=wgs_take hlj hn2
       generalize wgs (stW F q) q (a.states.take j) n=n2 at*
       generalize a.states[j]=s at*
       rw[stW.eq_1 F q n2 s]at hs2
       have w4:=w_sta s
       have d:=decl_w8 (l:=s.locals) (by omega)
       have e:=equ_w8 (l:=s.eqs) (by omega)
       have t1:=tran_w8 (l:=s.unl) (by omega)
       have t2:=tran_w8 (l:=s.unt) (by omega)
       have b1:=wD_le hq d.1 d.2
       have b2:=wE_le hq e.1 e.2
       have b3:=wT_le hq t1.1 t1.2
       have b4:=wT_le hq t2.1 t2.2
       have c1:=wD_sound q hq1 hq s.locals d.1 d.2
       have c2:=wE_sound q hq1 hq s.eqs e.1 e.2
       have c3:=wT_sound q hq1 hq s.unl t1.1 t1.2
       have c4:=wT_sound q hq1 hq s.unt t2.1 t2.2
       have hi:=ih s.autos (by omega)
       have hFs:=fun q' hq'=>hF q' hq' s.autos (by omega)
       clear ih hF hak hsw d e t1 t2 w4
       generalize wD q s.locals=a1 at*
       generalize wE q s.eqs=a2 at*
       generalize wT q s.unl=a3 at*
       generalize wT q s.unt=a4 at*
       unfold staC at hat2
       by_cases hn3:n2+1+a1+a2+a3+a4<q
       ·rw[if_pos hn3]at hs2
        have hi:=hi (q-(n2+1+a1+a2+a3+a4)) (by omega) (by omega)
        have hFs:=hFs (q-(n2+1+a1+a2+a3+a4)) (by omega)
        generalize F (q-(n2+1+a1+a2+a3+a4)) s.autos=fz at*
        rw[show((q-(n2+1+a1+a2+a3+a4):Nat):Int)=(q:Int)-((n2+1+a1+a2+a3+a4:Nat):Int) by omega]at hi
        repeat' (first|refine wkt ?_|refine wka ?_|refine rg [.i n2,.i (n2+1:Nat),.cp [.s s.name,declsT s.locals,.sl 7 (s.eqs.map equT),.sl 1 (s.autos.map autoT),.sl 8 (s.unl.map tranT),.sl 8 (s.unt.map tranT)] 1,.t (declsT s.locals),.i q,.i a1,.i (n2+1+a1:Nat),.cp [.s s.name,declsT s.locals,.sl 7 (s.eqs.map equT),.sl 1 (s.autos.map autoT),.sl 8 (s.unl.map tranT),.sl 8 (s.unt.map tranT)] 2,.t (.sl 7 (s.eqs.map equT)),.i q,.i a2,.i (n2+1+a1+a2:Nat),.cp [.s s.name,declsT s.locals,.sl 7 (s.eqs.map equT),.sl 1 (s.autos.map autoT),.sl 8 (s.unl.map tranT),.sl 8 (s.unt.map tranT)] 4,.t (.sl 8 (s.unl.map tranT)),.i q,.i a3,.i (n2+1+a1+a2+a3:Nat),.cp [.s s.name,declsT s.locals,.sl 7 (s.eqs.map equT),.sl 1 (s.autos.map autoT),.sl 8 (s.unl.map tranT),.sl 8 (s.unt.map tranT)] 5,.t (.sl 8 (s.unt.map tranT)),.i q,.i a4,.i (n2+1+a1+a2+a3+a4:Nat),.i (n2+1+a1+a2+a3+a4:Nat)] ?_ ?_|refine wv c1 ?_|refine wv c2 ?_|refine wv c3 ?_|refine wv c4 ?_|refine wv hi ?_|exact trivial|exact And.intro rfl rfl|refine And.intro (fun H env=>?_) ?_|refine wk ?_|exact wkc|intro hc|refine wk2 ?_ ?_|fail)
        exact LoopK.nextN hlj trivial ⟨rfl,rfl,rfl,by(try dsimp only);rw[hs2];rfl,rfl,trivial⟩
       ·rw[if_neg hn3]at hs2
        clear hi hFs
        repeat' (first|refine wkt ?_|refine wka ?_|refine rg [.i n2,.i (n2+1:Nat),.cp [.s s.name,declsT s.locals,.sl 7 (s.eqs.map equT),.sl 1 (s.autos.map autoT),.sl 8 (s.unl.map tranT),.sl 8 (s.unt.map tranT)] 1,.t (declsT s.locals),.i q,.i a1,.i (n2+1+a1:Nat),.cp [.s s.name,declsT s.locals,.sl 7 (s.eqs.map equT),.sl 1 (s.autos.map autoT),.sl 8 (s.unl.map tranT),.sl 8 (s.unt.map tranT)] 2,.t (.sl 7 (s.eqs.map equT)),.i q,.i a2,.i (n2+1+a1+a2:Nat),.cp [.s s.name,declsT s.locals,.sl 7 (s.eqs.map equT),.sl 1 (s.autos.map autoT),.sl 8 (s.unl.map tranT),.sl 8 (s.unt.map tranT)] 4,.t (.sl 8 (s.unl.map tranT)),.i q,.i a3,.i (n2+1+a1+a2+a3:Nat),.cp [.s s.name,declsT s.locals,.sl 7 (s.eqs.map equT),.sl 1 (s.autos.map autoT),.sl 8 (s.unl.map tranT),.sl 8 (s.unt.map tranT)] 5,.t (.sl 8 (s.unt.map tranT)),.i q,.i a4,.i (n2+1+a1+a2+a3+a4:Nat),.i (n2+1+a1+a2+a3+a4:Nat)] ?_ ?_|refine wv c1 ?_|refine wv c2 ?_|refine wv c3 ?_|refine wv c4 ?_|exact trivial|exact And.intro rfl rfl|refine And.intro (fun H env=>?_) ?_|refine wk ?_|exact wkc|intro hc|refine wk2 ?_ ?_|fail)
        exact LoopK.nextN hlj trivial ⟨rfl,rfl,rfl,by(try dsimp only);rw[hs2];rfl,rfl,trivial⟩
      ·have hs2:=wgs_done hn2
       generalize wgs (stW F q) q (a.states.take j) n=n2 at*
       rw[hs2]
       repeat' (first|refine wkt ?_|refine wk ?_|exact wkc|intro hc|refine wk2 ?_ ?_|fail)
       exact⟨rfl,⟨rfl,rfl,rfl,rfl,trivial⟩,rfl⟩
     ·rw[List.take_length]
      repeat' (first|refine wkt ?_|refine wk ?_|exact wkc|intro hc|refine wk2 ?_ ?_|fail)
      all_goals exact⟨rfl,⟨rfl,rfl,rfl,rfl,trivial⟩,rfl⟩
     ·repeat' (first|refine wkt ?_|refine wk ?_|exact wkc|intro hc|refine wk2 ?_ ?_|fail)
      exact LoopK.nextN hlt trivial ⟨rfl,rfl,by(try dsimp only);rw[hs];rfl,rfl,trivial⟩
    ·have hs:=wgs_done hn
     generalize wgs (fun n (a:Auto)=>wgs (stW F q) q a.states n) q (l.take k) l.length=n at*
     rw[hs]
     repeat' (first|refine wkt ?_|refine wk ?_|exact wkc|intro hc|refine wk2 ?_ ?_|fail)
     exact⟨rfl,⟨rfl,trivial⟩,rfl⟩
   ·rw[List.take_length]
    repeat' (first|refine wkt ?_|refine wk ?_|exact wkc|intro hc|refine wk2 ?_ ?_|fail)
    all_goals exact⟨rfl,⟨rfl,trivial⟩,rfl⟩
   ·repeat' (first|refine wkt ?_|refine wk ?_|exact wkc|intro hc|refine wk2 ?_ ?_|fail)
    exact wkr
end Go.Proofs.YtcbhlhmebbkgnaaGreat
