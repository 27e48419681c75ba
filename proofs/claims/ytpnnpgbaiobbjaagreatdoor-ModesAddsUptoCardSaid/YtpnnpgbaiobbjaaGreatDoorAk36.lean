import Derived.Test.YtpnnpgbaiobbjaaGreatDoorAk35
set_option linter.all false
namespace Go.Proofs.YtpnnpgbaiobbjaaGreatDoor
open Go Go.TL
attribute [local irreducible] TR TO Then zao RetK Sound zab Kf GG zaZ
set_option maxHeartbeats 8000000 in
theorem zid (l:List Str) (hb:l.length≤1000000000):Pure Tryz.prog 35 [.t (.sl 1 (l.map T.s)),.t (.sl 1 (l.map T.s))] (.b true):=by
 have hml:(l.map T.s).length=l.length:=qaa _
 refine so Tryz.func35 ?_
 repeat' (first|refine wkt ?_|exact wkc|(intro hc;exact absurd rfl hc)|intro hc|refine wk2 ?_ ?_|(apply TO.want;exact rfl)|fail)
 refine TR.zal l.length (fun _=>True) (fun k=>[(0,.t (.sl 1 (l.map T.s))),(1,.t (.sl 1 (l.map T.s))),(5,.i k)]) (fun _=>[]) trivial (fun k hlt _=>?_) (fun _=>?_)
 ·have hx:=zar T.s hlt
  generalize l[k]=u at*
  repeat' (first|refine wkt ?_|exact wkc|(intro hc;exact absurd rfl hc)|intro hc|refine wk2 ?_ ?_|(apply TO.want;exact rfl)|fail)
  apply TR.zaw 0 (g:=True) [(_,0,0),(_,0,0),(_,0,0),(_,0,0),(_,0,0),(_,0,0),(_,0,0),(_,0,0),(_,0,0)] [[]] hmix
  case hB=>exact zqv
  case h0=>exact rfl
  case hp=>
   repeat' (first|exact trivial|exact⟨⟨rfl,rfl⟩,trivial⟩|exact qaf rfl rfl|refine qaf (fun env=>?_) ?_|refine qaf ?_ ?_|refine wma ?_|(apply TO.indexAddr zag;(iterate 8 exact rfl);omega;exact hx)|(apply TO.sne';(iterate 3 exact rfl);(intro hc;exact absurd rfl hc);intro _)|(apply TO.cne;(iterate 3 exact rfl);(intro hc;exact absurd rfl hc);intro _)|refine wmk ?_|fail)
   done
  case hc=>exact rfl
  case hF=>exact rfl
  case hE=>exact rfl
  intro _
  repeat' (first|refine wkt ?_|refine zab.exit ?_|exact wkc|(intro hc;exact absurd rfl hc)|intro hc|refine wk2 ?_ ?_|refine wk ?_|fail)
  exact zab.zat hlt trivial
 ·repeat' (first|refine wkt ?_|refine zab.exit ?_|exact wkc|(intro hc;exact absurd rfl hc)|intro hc|refine wk2 ?_ ?_|refine wk ?_|fail)
  exact wkr
set_option maxHeartbeats 8000000 in
theorem zm6 (l:List OnC) (hb:l.length≤1000000000) (hn:∀o∈l,o.name.length≤1000000000):Pure Tryz.prog 92 [.t (.sl 3 (l.map onT)),.t (.sl 3 (l.map onT))] (.b true):=by
 have hml:(l.map onT).length=l.length:=qaa _
 refine so Tryz.func92 ?_
 repeat' (first|refine wkt ?_|exact wkc|(intro hc;exact absurd rfl hc)|intro hc|refine wk2 ?_ ?_|(apply TO.want;exact rfl)|fail)
 refine TR.zal l.length (fun _=>True) (fun k=>[(0,.t (.sl 3 (l.map onT))),(1,.t (.sl 3 (l.map onT))),(5,.i k)]) (fun _=>[]) trivial (fun k hlt _=>?_) (fun _=>?_)
 ·have hx:=zar onT hlt
  have hu:=hn _ (qad hlt)
  generalize l[k]=u at*
  repeat' (first|refine wkt ?_|exact wkc|(intro hc;exact absurd rfl hc)|intro hc|refine wk2 ?_ ?_|(apply TO.want;exact rfl)|fail)
  apply TR.zaw 0 (g:=True) [(_,0,0),(_,0,0),(_,0,0),(_,0,0),(_,0,0),(_,0,0),(_,0,0),(_,0,0),(_,0,0)] [[]] hmix
  case hB=>exact zqv
  case h0=>exact rfl
  case hp=>
   repeat' (first|exact trivial|exact⟨⟨rfl,rfl⟩,trivial⟩|exact qaf rfl rfl|refine qaf (fun env=>?_) ?_|refine qaf ?_ ?_|refine wma ?_|(apply TO.indexAddr zag;(iterate 8 exact rfl);omega;exact hx)|(apply TO.zwJ (a:=u) (b:=u) (v:=false);(iterate 3 exact rfl);exact hu;exact hu;focus simp)|(apply TO.sne';(iterate 3 exact rfl);(intro hc;exact absurd rfl hc);intro _)|(apply TO.cne;(iterate 3 exact rfl);(intro hc;exact absurd rfl hc);intro _)|refine wmk ?_|fail)
   done
  case hc=>exact rfl
  case hF=>exact rfl
  case hE=>exact rfl
  intro _
  repeat' (first|refine wkt ?_|refine zab.exit ?_|exact wkc|(intro hc;exact absurd rfl hc)|intro hc|refine wk2 ?_ ?_|refine wk ?_|fail)
  exact zab.zat hlt trivial
 ·repeat' (first|refine wkt ?_|refine zab.exit ?_|exact wkc|(intro hc;exact absurd rfl hc)|intro hc|refine wk2 ?_ ?_|refine wk ?_|fail)
  exact wkr
set_option maxHeartbeats 8000000 in
theorem zfa (l:List Decl) (hb:l.length≤1000000000) (hn:∀d∈l,d.clock.length≤1000000000/\∀o∈d.clock,o.name.length≤1000000000):Pure Tryz.prog 36 [.t (.sl 3 (l.map zaa)),.t (.sl 3 (l.map zaa))] (.b true):=by
 have hml:(l.map zaa).length=l.length:=qaa _
 refine so Tryz.func36 ?_
 repeat' (first|refine wkt ?_|exact wkc|(intro hc;exact absurd rfl hc)|intro hc|refine wk2 ?_ ?_|(apply TO.want;exact rfl)|fail)
 refine TR.zal l.length (fun _=>True) (fun k=>[(0,.t (.sl 3 (l.map zaa))),(1,.t (.sl 3 (l.map zaa))),(5,.i k)]) (fun _=>[]) trivial (fun k hlt _=>?_) (fun _=>?_)
 ·have hx:=zar zaa hlt
  have hc1:=zm6 l[k].clock (hn _ (qad hlt)).1 (hn _ (qad hlt)).2
  unfold zaa at hx
  clear hn
  generalize l[k]=u at*
  repeat' (first|refine wkt ?_|exact wkc|(intro hc;exact absurd rfl hc)|intro hc|refine wk2 ?_ ?_|(apply TO.want;exact rfl)|fail)
  apply TR.zaw 0 (g:=True) [(_,0,0),(_,0,0),(_,0,0),(_,0,0),(_,0,0),(_,0,0),(_,0,0),(_,0,0),(_,0,0),(_,0,0),(_,0,0),(_,0,0),(_,0,0),(_,0,0),(_,0,0),(_,0,0),(_,0,0),(_,0,0),(_,0,0),(_,0,0),(_,0,0),(_,0,0),(_,0,0),(_,0,0),(_,0,0),(_,0,0),(_,0,0),(_,0,0),(_,0,0),(_,0,0),(_,0,0),(_,0,0),(_,0,0),(_,0,0),(_,0,0),(_,0,0),(_,0,0),(_,0,0)] [[]] hmix
  case hB=>exact zqv
  case h0=>exact rfl
  case hp=>
   repeat' (first|exact trivial|exact⟨⟨rfl,rfl⟩,trivial⟩|exact qaf rfl rfl|refine qaf (fun env=>?_) ?_|refine qaf ?_ ?_|refine wma ?_|(apply TO.indexAddr zag;(iterate 8 exact rfl);omega;exact hx)|refine wmv hc1 ?_|(apply TO.sne';(iterate 3 exact rfl);(intro hc;exact absurd rfl hc);intro _)|(apply TO.cne;(iterate 3 exact rfl);(intro hc;exact absurd rfl hc);intro _)|refine wmk ?_|fail)
   done
  case hc=>exact rfl
  case hF=>exact rfl
  case hE=>exact rfl
  intro _
  repeat' (first|refine wkt ?_|refine zab.exit ?_|exact wkc|(intro hc;exact absurd rfl hc)|intro hc|refine wk2 ?_ ?_|refine wk ?_|fail)
  exact zab.zat hlt trivial
 ·repeat' (first|refine wkt ?_|refine zab.exit ?_|exact wkc|(intro hc;exact absurd rfl hc)|intro hc|refine wk2 ?_ ?_|refine wk ?_|fail)
  exact wkr
set_option maxHeartbeats 8000000 in
theorem zfb:∀(w:Nat) (e:Ex),wEx e≤w->w≤1000000000->Pure Tryz.prog 93 [.t (exT e),.t (exT e)] (.b true)
 | 0,e,h,_=>by have:=zcn e;omega
 | w+1,e,h,hw=>by
   have ih:=zfb w
   have ha:=zhj e
   have hml:(e.args.map exT).length=e.args.length:=qaa _
   have hi:∀x∈e.args,Pure Tryz.prog 93 [.t (exT x),.t (exT x)] (.b true):=fun x hx=>ih x (by have:=zbP hx;omega) (by omega)
   clear ih
   rw[zay]
   unfold exC
   generalize e.kind=k1 at*
   generalize e.op=k2 at*
   generalize e.t=k3 at*
   generalize e.v=k4 at*
   generalize e.name=k5 at*
   generalize e.args=l at*
   refine so Tryz.func93 ?_
   repeat' (first|refine wkt ?_|exact wkc|(intro hc;exact absurd rfl hc)|intro hc|refine wk2 ?_ ?_|(apply TO.want;exact rfl)|fail)
   refine TR.zal l.length (fun _=>True) (fun k=>[(2,.cp [T.n k1,T.n k2,T.n k3,T.n k4,T.s k5,T.sl 6 (l.map exT)] 0),(3,.cp [T.n k1,T.n k2,T.n k3,T.n k4,T.s k5,T.sl 6 (l.map exT)] 0),(5,.i k)]) (fun _=>[]) trivial (fun k hlt _=>?_) (fun _=>?_)
   ·have hx:=zed hlt
    have hd:=hi _ (qad hlt)
    rw[zay]at hd
    generalize l[k]=x at*
    unfold exC at hx hd
    repeat' (first|refine wkt ?_|exact wkc|(intro hc;exact absurd rfl hc)|intro hc|refine wk2 ?_ ?_|(apply TO.want;exact rfl)|fail)
    apply TR.zaw 0 (g:=True) [(_,0,0),(_,0,0),(_,0,0),(_,0,0),(_,0,0),(_,0,0),(_,0,0),(_,0,0),(_,0,0),(_,0,0),(_,0,0),(_,0,0)] [[]] hmix
    case hB=>exact zqv
    case h0=>exact rfl
    case hp=>
     repeat' (first|exact trivial|exact⟨⟨rfl,rfl⟩,trivial⟩|exact qaf rfl rfl|refine qaf (fun env=>?_) ?_|refine qaf ?_ ?_|refine wma ?_|(apply TO.indexAddr zag;(iterate 8 exact rfl);omega;exact hx)|refine wmv hd ?_|(apply TO.sne';(iterate 3 exact rfl);(intro hc;exact absurd rfl hc);intro _)|(apply TO.cne;(iterate 3 exact rfl);(intro hc;exact absurd rfl hc);intro _)|refine wmk ?_|fail)
     done
    case hc=>exact rfl
    case hF=>exact rfl
    case hE=>exact rfl
    intro _
    repeat' (first|refine wkt ?_|refine zab.exit ?_|exact wkc|(intro hc;exact absurd rfl hc)|intro hc|refine wk2 ?_ ?_|refine wk ?_|fail)
    exact zab.zat hlt trivial
   ·repeat' (first|refine wkt ?_|refine zab.exit ?_|exact wkc|(intro hc;exact absurd rfl hc)|intro hc|refine wk2 ?_ ?_|refine wk ?_|fail)
    exact wkr
set_option maxHeartbeats 8000000 in
theorem zm8 (l:List Equ) (hb:l.length≤1000000000) (hn:∀q∈l,q.left.length≤1000000000/\wEx q.right≤1000000000):Pure Tryz.prog 37 [.t (.sl 7 (l.map equT)),.t (.sl 7 (l.map equT))] (.b true):=by
 have hml:(l.map equT).length=l.length:=qaa _
 refine so Tryz.func37 ?_
 repeat' (first|refine wkt ?_|exact wkc|(intro hc;exact absurd rfl hc)|intro hc|refine wk2 ?_ ?_|(apply TO.want;exact rfl)|fail)
 refine TR.zal l.length (fun _=>True) (fun k=>[(0,.t (.sl 7 (l.map equT))),(1,.t (.sl 7 (l.map equT))),(5,.i k)]) (fun _=>[]) trivial (fun k hlt _=>?_) (fun _=>?_)
 ·have hx:=zar equT hlt
  have hc1:=zfb _ l[k].right (qag _) (hn _ (qad hlt)).2
  have hc2:=zid l[k].left (hn _ (qad hlt)).1
  rw[zay]at hc1
  unfold equT at hx
  unfold exC at hx hc1
  clear hn
  generalize l[k]=u at*
  repeat' (first|refine wkt ?_|exact wkc|(intro hc;exact absurd rfl hc)|intro hc|refine wk2 ?_ ?_|(apply TO.want;exact rfl)|fail)
  apply TR.zaw 0 (g:=True) [(_,0,0),(_,0,0),(_,0,0),(_,0,0),(_,0,0),(_,0,0),(_,0,0),(_,0,0),(_,0,0),(_,0,0),(_,0,0),(_,0,0),(_,0,0),(_,0,0),(_,0,0),(_,0,0),(_,0,0),(_,0,0),(_,0,0),(_,0,0),(_,0,0),(_,0,0),(_,0,0),(_,0,0),(_,0,0),(_,0,0)] [[]] hmix
  case hB=>exact zqv
  case h0=>exact rfl
  case hp=>
   repeat' (first|exact trivial|exact⟨⟨rfl,rfl⟩,trivial⟩|exact qaf rfl rfl|refine qaf (fun env=>?_) ?_|refine qaf ?_ ?_|refine wma ?_|(apply TO.indexAddr zag;(iterate 8 exact rfl);omega;exact hx)|refine wmv hc1 ?_|refine wmv hc2 ?_|(apply TO.sne';(iterate 3 exact rfl);(intro hc;exact absurd rfl hc);intro _)|(apply TO.cne;(iterate 3 exact rfl);(intro hc;exact absurd rfl hc);intro _)|refine wmk ?_|fail)
   done
  case hc=>exact rfl
  case hF=>exact rfl
  case hE=>exact rfl
  intro _
  repeat' (first|refine wkt ?_|refine zab.exit ?_|exact wkc|(intro hc;exact absurd rfl hc)|intro hc|refine wk2 ?_ ?_|refine wk ?_|fail)
  exact zab.zat hlt trivial
 ·repeat' (first|refine wkt ?_|refine zab.exit ?_|exact wkc|(intro hc;exact absurd rfl hc)|intro hc|refine wk2 ?_ ?_|refine wk ?_|fail)
  exact wkr
set_option maxHeartbeats 8000000 in
theorem zie (l:List Ex) (hb:l.length≤1000000000) (hn:∀e∈l,wEx e≤1000000000):Pure Tryz.prog 39 [.t (.sl 6 (l.map exT)),.t (.sl 6 (l.map exT))] (.b true):=by
 have hml:(l.map exT).length=l.length:=qaa _
 refine so Tryz.func39 ?_
 repeat' (first|refine wkt ?_|exact wkc|(intro hc;exact absurd rfl hc)|intro hc|refine wk2 ?_ ?_|(apply TO.want;exact rfl)|fail)
 refine TR.zal l.length (fun _=>True) (fun k=>[(0,.t (.sl 6 (l.map exT))),(1,.t (.sl 6 (l.map exT))),(5,.i k)]) (fun _=>[]) trivial (fun k hlt _=>?_) (fun _=>?_)
 ·have hx:=zed hlt
  have hc1:=zfb _ l[k] (qag _) (hn _ (qad hlt))
  rw[zay]at hc1
  unfold exC at hx hc1
  clear hn
  generalize l[k]=u at*
  repeat' (first|refine wkt ?_|exact wkc|(intro hc;exact absurd rfl hc)|intro hc|refine wk2 ?_ ?_|(apply TO.want;exact rfl)|fail)
  apply TR.zaw 0 (g:=True) [(_,0,0),(_,0,0),(_,0,0),(_,0,0),(_,0,0),(_,0,0),(_,0,0),(_,0,0),(_,0,0),(_,0,0)] [[]] hmix
  case hB=>exact zqv
  case h0=>exact rfl
  case hp=>
   repeat' (first|exact trivial|exact⟨⟨rfl,rfl⟩,trivial⟩|exact qaf rfl rfl|refine qaf (fun env=>?_) ?_|refine qaf ?_ ?_|refine wma ?_|(apply TO.indexAddr zag;(iterate 8 exact rfl);omega;exact hx)|refine wmv hc1 ?_|(apply TO.sne';(iterate 3 exact rfl);(intro hc;exact absurd rfl hc);intro _)|(apply TO.cne;(iterate 3 exact rfl);(intro hc;exact absurd rfl hc);intro _)|refine wmk ?_|fail)
   done
  case hc=>exact rfl
  case hF=>exact rfl
  case hE=>exact rfl
  intro _
  repeat' (first|refine wkt ?_|refine zab.exit ?_|exact wkc|(intro hc;exact absurd rfl hc)|intro hc|refine wk2 ?_ ?_|refine wk ?_|fail)
  exact zab.zat hlt trivial
 ·repeat' (first|refine wkt ?_|refine zab.exit ?_|exact wkc|(intro hc;exact absurd rfl hc)|intro hc|refine wk2 ?_ ?_|refine wk ?_|fail)
  exact wkr
theorem zeB:∀(m:Nat) (e:Ex),wEx e≤m->∀(q:Nat),1≤q->q≤1000000->Pure Tryz.prog 103 [.t (.ag (exC e)),.i q] (.i (min (wEx e) q:Nat)):=by
 intro m
 induction m with
 | zero=>intro e he;have:=zcn e;omega
 | succ m ih0=>
   intro e he q hq1 hq2
   have hw:=zjy e
   have ih:∀x∈e.args,∀(q:Nat),1≤q->q≤1000000->Pure Tryz.prog 103 [.t (.ag (exC x)),.i q] (.i (min (wEx x) q:Nat)):=fun x hx q h1 h2=>ih0 x (by have:=zbP hx;omega) q h1 h2
   clear ih0
   rw[hw]
   generalize hL:e.args=L at ih⊢
   have hml:(L.map exT).length=L.length:=qaa _
   unfold exC
   rw[hL]
   refine so Tryz.func103 ?_
   repeat' (first|refine wu ?_|exact wkc|intro hc|refine wk2 ?_ ?_|fail)
   refine TR.zal L.length (fun k=>k<1+((L.take k).map wEx).sum) (fun k=>[(1,.i q),(2,.cp [T.n e.kind,T.n e.op,T.n e.t,T.n e.v,.s e.name,.sl 6 (L.map exT)] 0),(5,.i (min (1+((L.take k).map wEx).sum) q:Nat)),(6,.i k)]) (fun _=>[]) (by simp) (fun k hlt hk=>?_) (fun hk=>?_) ⟨rfl,rfl,by rw[show min (1+((L.take 0).map wEx).sum) q=1 from by simp;omega];rfl,rfl,trivial⟩
   ·have hx:=zed hlt
    have htk:((L.take (k+1)).map wEx).sum=((L.take k).map wEx).sum+wEx L[k]:=by rw[zb0 hlt,qal,qbB];simp
    have hle:((L.take k).map wEx).sum≤(L.map wEx).sum:=by
     conv=>rhs;rw[<-qaS k L]
     rw[qal,qbB];omega
    have hwp:=zcn L[k]
    have hi:=ih L[k] (qad hlt)
    generalize L[k]=x at hx htk hwp hi
    generalize hS:((L.take k).map wEx).sum=S at*
    generalize hT:(L.map wEx).sum=W at*
    unfold exC at hx hi
    by_cases hc0:1+S<q
    ·have hn:min (1+S) q=1+S:=by omega
     rw[hn]
     have hi2:=hi (q-(1+S)) (by omega) (by omega)
     rw[show((q-(1+S):Nat):Int)=(q:Int)-((1+S:Nat):Int) from by omega]at hi2
     have hr:((1+S:Nat):Int)+((min (wEx x) (q-(1+S)):Nat):Int)=((min (1+(S+wEx x)) q:Nat):Int):=by omega
     generalize min (wEx x) (q-(1+S))=z at hi2 hr
     have hz:z≤1000000:=by omega
     repeat' (first|refine wu ?_|exact wkc|intro hc|refine wk2 ?_ ?_|refine wv hi2 ?_|fail)
     exact zab.zat hlt (by rw[htk];omega) ⟨rfl,rfl,by rw[htk,<-hr];rfl,rfl,trivial⟩
    ·have hn:min (1+S) q=q:=by omega
     rw[hn,show min (1+W) q=q from by omega]
     repeat' (first|refine wu ?_|exact wkc|intro hc|refine wk2 ?_ ?_|fail)
     all_goals exact zwch
   ·rw[qah]
    repeat' (first|refine wu ?_|exact wkc|intro hc|refine wk2 ?_ ?_|fail)
    all_goals exact zwch
end Go.Proofs.YtpnnpgbaiobbjaaGreatDoor
namespace Go.TL
open Go
def FinK(id:Nat)(EF:Env)(GF:Heap)(K:TK):TK
 | .exit i,env,H=>i=id/\env.sub EF/\H=GF
 | e,env,H=>K e env H
theorem TR.fin{P:Program}{n id:Nat}{env EF:Env}{H GF:Heap}{K:TK}{c:Code}(h:TR P n c env H (FinK id EF GF K))(fin:K (.exit id) EF GF):TR P n c env H K:=
 TR.weak (TR.mono h fun te env H hk=>by
  cases te with
  | exit i=>
    obtain⟨rfl,h1,rfl⟩:=hk
    exact⟨EF,fun i v hv=>⟨v,Env.zhe h1 i v hv,Le.refl v⟩,fin⟩
  | _=>exact zpy.done hk)
section
variable {P:Program}{n:Nat}{env:Env}{K:TK}{all:Array Oper}{rest:List Oper}{d:Nat}{ty:TypeId}{pos:String}{aft:Array Edge}{H:Heap}{q:Bool}
theorem TO.quoN{t t':TypeId}{x y:Operand}{a b:Nat}(hd:Nat.ble (d+1) n=true)(hx:env.val x=some (.i a))(hy:env.val y=some (.i b))(hb:0<b)(ha:a≤1000000000000)
  (k:TO q P n all rest ((d,.i (a / b:Nat))::env) H K):TO q P n all (⟨some d,.binOp .quo t x y t',ty,pos,aft,none⟩::rest) env H K:=
 TO.bquo hd hx hy (by omega) (by
  have h2:a / b≤a:=Nat.div_le_self a b
  rw[show((a:Int).tdiv b)=((a / b:Nat):Int) from by rw[Int.ofNat_tdiv]]
  generalize a / b=c at*
  rw[zgp (by omega) (by omega)];exact k)
end
end Go.TL
namespace Go.Proofs.YtpnnpgbaiobbjaaGreatDoor
open Go Go.TL
attribute [local irreducible] TR TO Then zao RetK Sound zab Kf GG zaZ
def wgs{α:Type}(g:Nat->α->Nat)(q:Nat):List α->Nat->Nat
 | [],n=>n
 | x::l,n=>if n<q then wgs g q l (g n x) else n
theorem zoB{α:Type}{g:Nat->α->Nat}{q n:Nat}(h:¬n<q):∀(l:List α),wgs g q l n=n
 | []=>rfl
 | x::l=>by rw[wgs,if_neg h]
theorem zgn{α:Type}(g:Nat->α->Nat)(q:Nat):∀(a b:List α) (n:Nat),wgs g q (a++b) n=wgs g q b (wgs g q a n)
 | [],b,n=>rfl
 | x::a,b,n=>by
   rw[qbt,wgs,wgs]
   by_cases h:n<q
   ·rw[if_pos h,if_pos h,zgn g q a b]
   ·rw[if_neg h,if_neg h,zoB h]
theorem zdh{α:Type}{g:Nat->α->Nat}{q n:Nat}{l:List α}{k:Nat}(hk:k<l.length)(h:wgs g q (l.take k) n<q):wgs g q (l.take (k+1)) n=g (wgs g q (l.take k) n) l[k]:=by
 rw[qaA hk,zgn,wgs,if_pos h,wgs]
theorem zdg{α:Type}{g:Nat->α->Nat}{q n:Nat}{l:List α}{k:Nat}(h:¬wgs g q (l.take k) n<q):wgs g q l n=wgs g q (l.take k) n:=by
 conv=>lhs;rw[<-qaS k l]
 rw[zgn,zoB h]
theorem zcZ{α:Type}{g:Nat->α->Nat}{q B:Nat}:∀(l:List α) (n:Nat),n≤B->(∀n,n<q->∀x∈l,g n x≤B)->wgs g q l n≤B
 | [],n,h,_=>h
 | x::l,n,h,hg=>by
   rw[wgs]
   split
   ·rename_i hq
    exact zcZ l _ (hg n hq x (by simp)) fun n hn y hy=>hg n hn y (by simp[hy])
   ·exact h
def wD(q:Nat)(l:List Decl):Nat:=wgs (fun n x=>n+((x.clock.map onT).length+x.name.length / 100)) q l l.length
theorem zlT{q:Nat}(hq:q≤1500){l:List Decl}(hl:l.length≤100000000)(hx:∀x∈l,(x.clock.map onT).length≤100000000/\x.name.length≤100000000):wD q l≤200000000:=
 zcZ l _ (by omega) fun n hn x h=>by have:=hx x h;omega
theorem zhi(q:Nat)(hq1:1≤q)(hq:q≤1500)(l:List Decl)(hl:l.length≤100000000)(hx:∀x∈l,(x.clock.map onT).length≤100000000/\x.name.length≤100000000):Pure Tryz.prog 49 [.t (zac l),.i q] (.i (wD q l:Nat)):=by
 have hml:(l.map zaa).length=l.length:=qaa _
 unfold wD
 refine so Tryz.func49 ?_
 repeat' (first|refine wu ?_|exact wkc|intro hc|refine wk2 ?_ ?_|fail)
 refine TR.fin (id:=0) (EF:=[(5,.i (wgs (fun n x=>n+((x.clock.map onT).length+x.name.length / 100)) q l l.length:Nat))]) (GF:=[]) (TR.zal l.length (fun _=>True) (fun k=>[(0,.t (zac l)),(1,.i q),(5,.i (wgs (fun n x=>n+((x.clock.map onT).length+x.name.length / 100)) q (l.take k) l.length:Nat)),(6,.i k)]) (fun _=>[]) trivial (fun k hlt _=>?_) (fun _=>?_) ⟨rfl,rfl,by rw[<-hml];rfl,rfl,trivial⟩) ?_
 ·have hat:=zcQ hlt
  have hxk:=hx _ (qad hlt)
  have hb:wgs (fun n (x:Decl)=>n+((x.clock.map onT).length+x.name.length / 100)) q (l.take k) l.length≤200000000:=zcZ _ _ (by omega) fun n hn x h=>by have:=hx x (qaR h);omega
  by_cases hn:wgs (fun n (x:Decl)=>n+((x.clock.map onT).length+x.name.length / 100)) q (l.take k) l.length<q
  ·have hs:=zdh hlt hn
   generalize wgs (fun n (x:Decl)=>n+((x.clock.map onT).length+x.name.length / 100)) q (l.take k) l.length=n at*
   generalize l[k]=x at*
   rw[show n+((x.clock.map onT).length+x.name.length / 100)=n+(x.clock.map onT).length+x.name.length / 100 by omega]at hs
   unfold zeR at hat
   repeat' (first|refine wkt ?_|(apply TO.quoN (b:=100);(iterate 3 exact rfl);omega;omega)|exact trivial|exact qaf rfl rfl|refine qaf (fun H env=>?_) ?_|refine wk ?_|exact wkc|intro hc|refine wk2 ?_ ?_|fail)
   exact zwel
  ·have hs:=zdg hn
   generalize wgs (fun n (x:Decl)=>n+((x.clock.map onT).length+x.name.length / 100)) q (l.take k) l.length=n at*
   exact zwdg
 ·exact zwcr
 ·repeat' (first|refine wu ?_|exact wkc|intro hc|refine wk2 ?_ ?_|fail)
  exact wkr
def wE(q:Nat)(l:List Equ):Nat:=wgs (fun n x=>n+((x.left.map T.s).length+min (wEx x.right) q)) q l l.length
theorem ztk{q:Nat}(hq:q≤1500){l:List Equ}(hl:l.length≤100000000)(hx:∀x∈l,(x.left.map T.s).length≤100000000):wE q l≤200000000:=
 zcZ l _ (by omega) fun n hn x h=>by have:=hx x h;omega
theorem zow(q:Nat)(hq1:1≤q)(hq:q≤1500)(l:List Equ)(hl:l.length≤100000000)(hx:∀x∈l,(x.left.map T.s).length≤100000000):Pure Tryz.prog 50 [.t (.sl 7 (l.map equT)),.i q] (.i (wE q l:Nat)):=by
 have hml:(l.map equT).length=l.length:=qaa _
 unfold wE
 refine so Tryz.func50 ?_
 repeat' (first|refine wu ?_|exact wkc|intro hc|refine wk2 ?_ ?_|fail)
 refine TR.fin (id:=0) (EF:=[(5,.i (wgs (fun n x=>n+((x.left.map T.s).length+min (wEx x.right) q)) q l l.length:Nat))]) (GF:=[]) (TR.zal l.length (fun _=>True) (fun k=>[(0,.t (.sl 7 (l.map equT))),(1,.i q),(5,.i (wgs (fun n x=>n+((x.left.map T.s).length+min (wEx x.right) q)) q (l.take k) l.length:Nat)),(6,.i k)]) (fun _=>[]) trivial (fun k hlt _=>?_) (fun _=>?_) ⟨rfl,rfl,by rw[<-hml];rfl,rfl,trivial⟩) ?_
 ·have hat:=ziZ hlt
  have hxk:=hx _ (qad hlt)
  have hb:wgs (fun n (x:Equ)=>n+((x.left.map T.s).length+min (wEx x.right) q)) q (l.take k) l.length≤200000000:=zcZ _ _ (by omega) fun n hn x h=>by have:=hx x (qaR h);omega
  by_cases hn:wgs (fun n (x:Equ)=>n+((x.left.map T.s).length+min (wEx x.right) q)) q (l.take k) l.length<q
  ·have hs:=zdh hlt hn
   generalize wgs (fun n (x:Equ)=>n+((x.left.map T.s).length+min (wEx x.right) q)) q (l.take k) l.length=n at*
   generalize l[k]=x at*
   rw[show n+((x.left.map T.s).length+min (wEx x.right) q)=n+(x.left.map T.s).length+min (wEx x.right) q by omega]at hs
   have hw:=zeB _ x.right (qag _) q hq1 (by omega)
   have hmq:min (wEx x.right) q≤1500:=by omega
   generalize min (wEx x.right) q=wq at*
   unfold exC at hw
   unfold equC at hat
   repeat' (first|refine wkt ?_|refine rg [.i n,.t (.sl 7 (l.map equT)),.i k,.cp [.sl 1 (x.left.map T.s),T.n x.right.kind,T.n x.right.op,T.n x.right.t,T.n x.right.v,.s x.right.name,.sl 6 (x.right.args.map exT)] 0,.cp [.sl 1 (x.left.map T.s),T.n x.right.kind,T.n x.right.op,T.n x.right.t,T.n x.right.v,.s x.right.name,.sl 6 (x.right.args.map exT)] 0,.t (.sl 1 (x.left.map T.s)),.i (x.left.map T.s).length,.i (n+(x.left.map T.s).length:Nat),.t (.sl 7 (l.map equT)),.i k,.cp [.sl 1 (x.left.map T.s),T.n x.right.kind,T.n x.right.op,T.n x.right.t,T.n x.right.v,.s x.right.name,.sl 6 (x.right.args.map exT)] 0,.cp [.sl 1 (x.left.map T.s),T.n x.right.kind,T.n x.right.op,T.n x.right.t,T.n x.right.v,.s x.right.name,.sl 6 (x.right.args.map exT)] 1,.t (.ag [T.n x.right.kind,T.n x.right.op,T.n x.right.t,T.n x.right.v,.s x.right.name,.sl 6 (x.right.args.map exT)]),.i q,.i (wq:Nat),.i (n+(x.left.map T.s).length+wq:Nat),.i (n+(x.left.map T.s).length+wq:Nat)] ?_ ?_|refine wv hw ?_|exact trivial|exact qaf rfl rfl|refine qaf (fun H env=>?_) ?_|refine wk ?_|exact wkc|intro hc|refine wk2 ?_ ?_|fail)
   exact zwel
  ·have hs:=zdg hn
   generalize wgs (fun n (x:Equ)=>n+((x.left.map T.s).length+min (wEx x.right) q)) q (l.take k) l.length=n at*
   exact zwdg
 ·exact zwcr
 ·repeat' (first|refine wu ?_|exact wkc|intro hc|refine wk2 ?_ ?_|fail)
  exact wkr
def wX(q:Nat)(l:List Ex):Nat:=wgs (fun n x=>n+(min (wEx x) q)) q l l.length
theorem ztm{q:Nat}(hq:q≤1500){l:List Ex}(hl:l.length≤100000000)(hx:∀x∈l,wEx x≤1000000000):wX q l≤200000000:=
 zcZ l _ (by omega) fun n hn x h=>by have:=hx x h;omega
theorem zoy(q:Nat)(hq1:1≤q)(hq:q≤1500)(l:List Ex)(hl:l.length≤100000000)(hx:∀x∈l,wEx x≤1000000000):Pure Tryz.prog 51 [.t (.sl 6 (l.map exT)),.i q] (.i (wX q l:Nat)):=by
 have hml:(l.map exT).length=l.length:=qaa _
 unfold wX
 refine so Tryz.func51 ?_
 repeat' (first|refine wu ?_|exact wkc|intro hc|refine wk2 ?_ ?_|fail)
 refine TR.fin (id:=0) (EF:=[(5,.i (wgs (fun n x=>n+(min (wEx x) q)) q l l.length:Nat))]) (GF:=[]) (TR.zal l.length (fun _=>True) (fun k=>[(0,.t (.sl 6 (l.map exT))),(1,.i q),(5,.i (wgs (fun n x=>n+(min (wEx x) q)) q (l.take k) l.length:Nat)),(6,.i k)]) (fun _=>[]) trivial (fun k hlt _=>?_) (fun _=>?_) ⟨rfl,rfl,by rw[<-hml];rfl,rfl,trivial⟩) ?_
 ·have hat:=zed hlt
  have hxk:=hx _ (qad hlt)
  have hb:wgs (fun n (x:Ex)=>n+(min (wEx x) q)) q (l.take k) l.length≤200000000:=zcZ _ _ (by omega) fun n hn x h=>by have:=hx x (qaR h);omega
  by_cases hn:wgs (fun n (x:Ex)=>n+(min (wEx x) q)) q (l.take k) l.length<q
  ·have hs:=zdh hlt hn
   generalize wgs (fun n (x:Ex)=>n+(min (wEx x) q)) q (l.take k) l.length=n at*
   generalize l[k]=x at*
   have hw:=zeB _ x (qag _) q hq1 (by omega)
   have hmq:min (wEx x) q≤1500:=by omega
   generalize min (wEx x) q=wq at*
   unfold exC at hw
   unfold exC at hat
   repeat' (first|refine wkt ?_|refine wv hw ?_|exact trivial|exact qaf rfl rfl|refine qaf (fun H env=>?_) ?_|refine wk ?_|exact wkc|intro hc|refine wk2 ?_ ?_|fail)
   exact zwel
  ·have hs:=zdg hn
   generalize wgs (fun n (x:Ex)=>n+(min (wEx x) q)) q (l.take k) l.length=n at*
   exact zwdg
 ·exact zwcr
 ·repeat' (first|refine wu ?_|exact wkc|intro hc|refine wk2 ?_ ?_|fail)
  exact wkr
def wT(q:Nat)(l:List Tran):Nat:=wgs (fun n x=>n+(min (wEx x.cond) q)) q l l.length
theorem ztl{q:Nat}(hq:q≤1500){l:List Tran}(hl:l.length≤100000000)(hx:∀x∈l,wEx x.cond≤1000000000):wT q l≤200000000:=
 zcZ l _ (by omega) fun n hn x h=>by have:=hx x h;omega
theorem zox(q:Nat)(hq1:1≤q)(hq:q≤1500)(l:List Tran)(hl:l.length≤100000000)(hx:∀x∈l,wEx x.cond≤1000000000):Pure Tryz.prog 104 [.t (.sl 8 (l.map zah)),.i q] (.i (wT q l:Nat)):=by
 have hml:(l.map zah).length=l.length:=qaa _
 unfold wT
 refine so Tryz.func104 ?_
 repeat' (first|refine wu ?_|exact wkc|intro hc|refine wk2 ?_ ?_|fail)
 refine TR.fin (id:=0) (EF:=[(5,.i (wgs (fun n x=>n+(min (wEx x.cond) q)) q l l.length:Nat))]) (GF:=[]) (TR.zal l.length (fun _=>True) (fun k=>[(0,.t (.sl 8 (l.map zah))),(1,.i q),(5,.i (wgs (fun n x=>n+(min (wEx x.cond) q)) q (l.take k) l.length:Nat)),(6,.i k)]) (fun _=>[]) trivial (fun k hlt _=>?_) (fun _=>?_) ⟨rfl,rfl,by rw[<-hml];rfl,rfl,trivial⟩) ?_
 ·have hat:=zl2 hlt
  have hxk:=hx _ (qad hlt)
  have hb:wgs (fun n (x:Tran)=>n+(min (wEx x.cond) q)) q (l.take k) l.length≤200000000:=zcZ _ _ (by omega) fun n hn x h=>by have:=hx x (qaR h);omega
  by_cases hn:wgs (fun n (x:Tran)=>n+(min (wEx x.cond) q)) q (l.take k) l.length<q
  ·have hs:=zdh hlt hn
   generalize wgs (fun n (x:Tran)=>n+(min (wEx x.cond) q)) q (l.take k) l.length=n at*
   generalize l[k]=x at*
   have hw:=zeB _ x.cond (qag _) q hq1 (by omega)
   have hmq:min (wEx x.cond) q≤1500:=by omega
   generalize min (wEx x.cond) q=wq at*
   unfold exC at hw
   unfold zgY at hat
   repeat' (first|refine wkt ?_|refine wv hw ?_|exact trivial|exact qaf rfl rfl|refine qaf (fun H env=>?_) ?_|refine wk ?_|exact wkc|intro hc|refine wk2 ?_ ?_|fail)
   exact zwel
  ·have hs:=zdg hn
   generalize wgs (fun n (x:Tran)=>n+(min (wEx x.cond) q)) q (l.take k) l.length=n at*
   exact zwdg
 ·exact zwcr
 ·repeat' (first|refine wu ?_|exact wkc|intro hc|refine wk2 ?_ ?_|fail)
  exact wkr
def stW(F:Nat->List Auto->Nat)(q n:Nat)(s:Sta):Nat:=
 if n+1+wD q s.locals+wE q s.eqs+wT q s.unl+wT q s.unt<q then n+1+wD q s.locals+wE q s.eqs+wT q s.unl+wT q s.unt+F (q-(n+1+wD q s.locals+wE q s.eqs+wT q s.unl+wT q s.unt)) s.autos else n+1+wD q s.locals+wE q s.eqs+wT q s.unl+wT q s.unt
def wgA:Nat->Nat->List Auto->Nat
 | 0,_,_=>0
 | m+1,q,l=>wgs (fun n a=>wgs (stW (wgA m) q) q a.states n) q l l.length
theorem zef{l:List Decl}(h:(zac l).w≤100000000):l.length≤100000000/\∀x∈l,(x.clock.map onT).length≤100000000/\x.name.length≤100000000:=by
 have h1:=zai zaa 3 l
 have h2:(zac l).w=(T.sl 3 (l.map zaa)).w:=rfl
 refine⟨by omega,fun x hx=>?_⟩
 have h3:=za2 hx
 have h4:=zai onT 3 x.clock
 rw[qaa]
 omega
theorem zk1{l:List Equ}(h:(T.sl 7 (l.map equT)).w≤100000000):l.length≤100000000/\∀x∈l,(x.left.map T.s).length≤100000000:=by
 have h1:=zai equT 7 l
 refine⟨by omega,fun x hx=>?_⟩
 have h3:=zav (f:=equT) (sz:=7) hx
 have h4:=zda (q:=x)
 rw[qaa]
 omega
theorem zoY{l:List Ex}(h:(T.sl 6 (l.map exT)).w≤100000000):l.length≤100000000/\∀x∈l,wEx x≤1000000000:=by
 have h1:=zai exT 6 l
 refine⟨by omega,fun x hx=>?_⟩
 have h3:=zav (f:=exT) (sz:=6) hx
 have h4:=zdI x
 omega
theorem zko{l:List Tran}(h:(T.sl 8 (l.map zah)).w≤100000000):l.length≤100000000/\∀x∈l,wEx x.cond≤1000000000:=by
 have h1:=zai zah 8 l
 refine⟨by omega,fun x hx=>?_⟩
 have h3:=zav (f:=zah) (sz:=8) hx
 have h4:=zks (t:=x)
 omega
theorem zvW{F:Nat->List Auto->Nat}{B q n:Nat}(hF:∀(q:Nat),q≤1500->∀l:List Auto,(T.sl 1 (l.map zae)).w≤100000000->F q l≤B)(hB:1000000000≤B)(hq:q≤1500)(hn:n<q){s:Sta}(hs:(staT s).w≤100000000):stW F q n s≤B+2000:=by
 have w4:=zdK s
 have d:=zef (l:=s.locals) (by omega)
 have e:=zk1 (l:=s.eqs) (by omega)
 have t1:=zko (l:=s.unl) (by omega)
 have t2:=zko (l:=s.unt) (by omega)
 have b1:=zlT hq d.1 d.2
 have b2:=ztk hq e.1 e.2
 have b3:=ztl hq t1.1 t1.2
 have b4:=ztl hq t2.1 t2.2
 unfold stW
 generalize wD q s.locals=a1 at*
 generalize wE q s.eqs=a2 at*
 generalize wT q s.unl=a3 at*
 generalize wT q s.unt=a4 at*
 split
 ·have:=hF (q-(n+1+a1+a2+a3+a4)) (by omega) s.autos (by omega)
  omega
 ·omega
theorem zpF{F:Nat->List Auto->Nat}{B q n:Nat}(hF:∀(q:Nat),q≤1500->∀l:List Auto,(T.sl 1 (l.map zae)).w≤100000000->F q l≤B)(hB:1000000000≤B)(hq:q≤1500)(hn:n≤B){l:List Sta}(hs:∀s∈l,(staT s).w≤100000000):wgs (stW F q) q l n≤B+2000:=
 zcZ l n (by omega) fun n hn s h=>zvW hF hB hq hn (hs s h)
theorem zr7:∀(m:Nat) (q:Nat),q≤1500->∀l:List Auto,(T.sl 1 (l.map zae)).w≤100000000->wgA m q l≤1000000000+2000*m
 | 0,q,hq,l,hw=>by simp[wgA]
 | m+1,q,hq,l,hw=>by
   have h1:=zai zae 1 l
   obtain⟨B,hB⟩:∃B,B=1000000000+2000*(m+1):=⟨_,rfl⟩
   rw[<-hB]
   unfold wgA
   refine zcZ l _ (by omega) fun n hn a ha=>?_
   have w1:=zav (f:=zae) (sz:=1) ha
   have w2:=zbJ a
   have:=zpF (n:=n) (zr7 m) (by omega) hq (by omega) (l:=a.states) fun s hs=>by have:=zav (f:=staT) (sz:=6) hs;omega
   omega
set_option maxHeartbeats 4000000 in
theorem zr8:∀(m:Nat) (l:List Auto),m≤100000000->(T.sl 1 (l.map zae)).w≤m->∀q:Nat,1≤q->q≤1500->Pure Tryz.prog 52 [.t (.sl 1 (l.map zae)),.i q] (.i (wgA m q l:Nat)):=by
 intro m
 induction m with
 | zero=>intro l _ h;have:=zai zae 1 l;omega
 | succ m ih0=>
   intro l hm8 hw q hq1 hq
   have hml:(l.map zae).length=l.length:=qaa _
   have hll:=zai zae 1 l
   have ih:=fun l h=>ih0 l (by omega) h
   clear ih0
   have hF:=zr7 m
   rw[wgA]
   generalize wgA m=F at*
   have hsw:∀a∈l,∀s∈a.states,(staT s).w≤m:=fun a ha s hs=>by
    have w1:=zav (f:=zae) (sz:=1) ha
    have w2:=zbJ a
    have w3:=zav (f:=staT) (sz:=6) hs
    omega
   refine so Tryz.func52 ?_
   repeat' (first|refine wu ?_|exact wkc|intro hc|refine wk2 ?_ ?_|fail)
   refine TR.fin (id:=0) (EF:=[(5,.i (wgs (fun n (a:Auto)=>wgs (stW F q) q a.states n) q l l.length:Nat))]) (GF:=[]) (TR.zal l.length (fun _=>True) (fun k=>[(0,.t (.sl 1 (l.map zae))),(1,.i q),(5,.i (wgs (fun n (a:Auto)=>wgs (stW F q) q a.states n) q (l.take k) l.length:Nat)),(6,.i k)]) (fun _=>[]) trivial (fun k hlt _=>?_) (fun _=>?_) ⟨rfl,rfl,by rw[<-hml];rfl,rfl,trivial⟩) ?_
   ·have hat:=zhn hlt
    have hak:=hsw _ (qad hlt)
    have hb:wgs (fun n (a:Auto)=>wgs (stW F q) q a.states n) q (l.take k) l.length≤1000000000+2000*m+2000:=zcZ _ _ (by omega) fun n hn a ha=>zpF hF (by omega) hq (by omega) fun s hs=>by have:=hsw a (qaR ha) s hs;omega
    by_cases hn:wgs (fun n (a:Auto)=>wgs (stW F q) q a.states n) q (l.take k) l.length<q
    ·have hs:=zdh hlt hn
     generalize wgs (fun n (a:Auto)=>wgs (stW F q) q a.states n) q (l.take k) l.length=n at*
     have hln:l[k].states.length≤1000000000:=by
      have w1:=zav (f:=zae) (sz:=1) (qad hlt)
      have w2:=zbJ l[k]
      have w3:=zai staT 6 l[k].states
      omega
     generalize l[k]=a at*
     have hma:(a.states.map staT).length=a.states.length:=qaa _
     unfold zdj at hat
     repeat' (first|refine wu ?_|exact wkc|intro hc|refine wk2 ?_ ?_|fail)
     refine TR.fin (id:=2) (EF:=[(0,.t (.sl 1 (l.map zae))),(1,.i q),(6,.i k),(5,.i (wgs (stW F q) q a.states n:Nat))]) (GF:=[]) (TR.zal a.states.length (fun _=>True) (fun j=>[(0,.t (.sl 1 (l.map zae))),(1,.i q),(6,.i k),(5,.i (wgs (stW F q) q (a.states.take j) n:Nat)),(7,.i j)]) (fun _=>[]) trivial (fun j hlj _=>?_) (fun _=>?_)) ?_
     ·have hat2:=znD hlj
      have hsk:=hak _ (qad hlj)
      have hb2:wgs (stW F q) q (a.states.take j) n≤1000000000+2000*m+2000:=zpF hF (by omega) hq (by omega) fun s hs=>by have:=hak s (qaR hs);omega
      by_cases hn2:wgs (stW F q) q (a.states.take j) n<q
      ·have hs2:=zdh hlj hn2
       generalize wgs (stW F q) q (a.states.take j) n=n2 at*
       generalize a.states[j]=s at*
       rw[stW.eq_1 F q n2 s]at hs2
       have w4:=zdK s
       have d:=zef (l:=s.locals) (by omega)
       have e:=zk1 (l:=s.eqs) (by omega)
       have t1:=zko (l:=s.unl) (by omega)
       have t2:=zko (l:=s.unt) (by omega)
       have b1:=zlT hq d.1 d.2
       have b2:=ztk hq e.1 e.2
       have b3:=ztl hq t1.1 t1.2
       have b4:=ztl hq t2.1 t2.2
       have c1:=zhi q hq1 hq s.locals d.1 d.2
       have c2:=zow q hq1 hq s.eqs e.1 e.2
       have c3:=zox q hq1 hq s.unl t1.1 t1.2
       have c4:=zox q hq1 hq s.unt t2.1 t2.2
       have hi:=ih s.autos (by omega)
       have hFs:=fun q' hq'=>hF q' hq' s.autos (by omega)
       clear ih hF hak hsw d e t1 t2 w4
       generalize wD q s.locals=a1 at*
       generalize wE q s.eqs=a2 at*
       generalize wT q s.unl=a3 at*
       generalize wT q s.unt=a4 at*
       unfold staC at hat2
       by_cases hn3:n2+1+a1+a2+a3+a4<q
       ·rw[if_pos hn3]at hs2
        have hi:=hi (q-(n2+1+a1+a2+a3+a4)) (by omega) (by omega)
        have hFs:=hFs (q-(n2+1+a1+a2+a3+a4)) (by omega)
        generalize F (q-(n2+1+a1+a2+a3+a4)) s.autos=fz at*
        rw[show((q-(n2+1+a1+a2+a3+a4):Nat):Int)=(q:Int)-((n2+1+a1+a2+a3+a4:Nat):Int) by omega]at hi
        repeat' (first|refine wkt ?_|refine wka ?_|refine rg [.i n2,.i (n2+1:Nat),.cp [.s s.name,zac s.locals,.sl 7 (s.eqs.map equT),.sl 1 (s.autos.map zae),.sl 8 (s.unl.map zah),.sl 8 (s.unt.map zah)] 1,.t (zac s.locals),.i q,.i a1,.i (n2+1+a1:Nat),.cp [.s s.name,zac s.locals,.sl 7 (s.eqs.map equT),.sl 1 (s.autos.map zae),.sl 8 (s.unl.map zah),.sl 8 (s.unt.map zah)] 2,.t (.sl 7 (s.eqs.map equT)),.i q,.i a2,.i (n2+1+a1+a2:Nat),.cp [.s s.name,zac s.locals,.sl 7 (s.eqs.map equT),.sl 1 (s.autos.map zae),.sl 8 (s.unl.map zah),.sl 8 (s.unt.map zah)] 4,.t (.sl 8 (s.unl.map zah)),.i q,.i a3,.i (n2+1+a1+a2+a3:Nat),.cp [.s s.name,zac s.locals,.sl 7 (s.eqs.map equT),.sl 1 (s.autos.map zae),.sl 8 (s.unl.map zah),.sl 8 (s.unt.map zah)] 5,.t (.sl 8 (s.unt.map zah)),.i q,.i a4,.i (n2+1+a1+a2+a3+a4:Nat),.i (n2+1+a1+a2+a3+a4:Nat)] ?_ ?_|refine wv c1 ?_|refine wv c2 ?_|refine wv c3 ?_|refine wv c4 ?_|refine wv hi ?_|exact trivial|exact qaf rfl rfl|refine qaf (fun H env=>?_) ?_|refine wk ?_|exact wkc|intro hc|refine wk2 ?_ ?_|fail)
        exact zwec
       ·rw[if_neg hn3]at hs2
        clear hi hFs
        repeat' (first|refine wkt ?_|refine wka ?_|refine rg [.i n2,.i (n2+1:Nat),.cp [.s s.name,zac s.locals,.sl 7 (s.eqs.map equT),.sl 1 (s.autos.map zae),.sl 8 (s.unl.map zah),.sl 8 (s.unt.map zah)] 1,.t (zac s.locals),.i q,.i a1,.i (n2+1+a1:Nat),.cp [.s s.name,zac s.locals,.sl 7 (s.eqs.map equT),.sl 1 (s.autos.map zae),.sl 8 (s.unl.map zah),.sl 8 (s.unt.map zah)] 2,.t (.sl 7 (s.eqs.map equT)),.i q,.i a2,.i (n2+1+a1+a2:Nat),.cp [.s s.name,zac s.locals,.sl 7 (s.eqs.map equT),.sl 1 (s.autos.map zae),.sl 8 (s.unl.map zah),.sl 8 (s.unt.map zah)] 4,.t (.sl 8 (s.unl.map zah)),.i q,.i a3,.i (n2+1+a1+a2+a3:Nat),.cp [.s s.name,zac s.locals,.sl 7 (s.eqs.map equT),.sl 1 (s.autos.map zae),.sl 8 (s.unl.map zah),.sl 8 (s.unt.map zah)] 5,.t (.sl 8 (s.unt.map zah)),.i q,.i a4,.i (n2+1+a1+a2+a3+a4:Nat),.i (n2+1+a1+a2+a3+a4:Nat)] ?_ ?_|refine wv c1 ?_|refine wv c2 ?_|refine wv c3 ?_|refine wv c4 ?_|exact trivial|exact qaf rfl rfl|refine qaf (fun H env=>?_) ?_|refine wk ?_|exact wkc|intro hc|refine wk2 ?_ ?_|fail)
        exact zwec
      ·have hs2:=zdg hn2
       generalize wgs (stW F q) q (a.states.take j) n=n2 at*
       rw[hs2]
       repeat' (first|refine wu ?_|exact wkc|intro hc|refine wk2 ?_ ?_|fail)
       exact⟨rfl,⟨rfl,rfl,rfl,rfl,trivial⟩,rfl⟩
     ·rw[qah]
      repeat' (first|refine wu ?_|exact wkc|intro hc|refine wk2 ?_ ?_|fail)
      all_goals exact⟨rfl,⟨rfl,rfl,rfl,rfl,trivial⟩,rfl⟩
     ·repeat' (first|refine wu ?_|exact wkc|intro hc|refine wk2 ?_ ?_|fail)
      exact zwel
    ·have hs:=zdg hn
     generalize wgs (fun n (a:Auto)=>wgs (stW F q) q a.states n) q (l.take k) l.length=n at*
     exact zwdg
   ·exact zwcr
   ·repeat' (first|refine wu ?_|exact wkc|intro hc|refine wk2 ?_ ?_|fail)
    exact wkr
def ndW(F:Nat->List Auto->Nat)(q w:Nat)(n:Nod):Nat:=if w+wD q n.ins+wD q n.outs+wD q n.locals+wE q n.eqs+wX q n.assume+wX q n.ensure<q then w+wD q n.ins+wD q n.outs+wD q n.locals+wE q n.eqs+wX q n.assume+wX q n.ensure+F (q-(w+wD q n.ins+wD q n.outs+wD q n.locals+wE q n.eqs+wX q n.assume+wX q n.ensure)) n.autos else w+wD q n.ins+wD q n.outs+wD q n.locals+wE q n.eqs+wX q n.assume+wX q n.ensure
def wgP(q:Nat)(p:Prog):Nat:=wgs (ndW (wgA 100000000) q) q p.nodes (wgs (fun w (u:En)=>w+(u.tags.map T.s).length) q p.enums ((p.enums.map enT).length+(p.nodes.map nodT).length))
theorem zvN{F:Nat->List Auto->Nat}{B q w:Nat}(hF:∀(q:Nat),q≤1500->∀l:List Auto,(T.sl 1 (l.map zae)).w≤100000000->F q l≤B)(hB:2000000000≤B)(hq:q≤1500)(hn:w<q){n:Nod}(hs:(nodT n).w≤100000000):ndW F q w n≤B+2000:=by
 have w4:=zdJ n
 have d1:=zef (l:=n.ins) (by omega)
 have d2:=zef (l:=n.outs) (by omega)
 have d3:=zef (l:=n.locals) (by omega)
 have e:=zk1 (l:=n.eqs) (by omega)
 have x1:=zoY (l:=n.assume) (by omega)
 have x2:=zoY (l:=n.ensure) (by omega)
 have b1:=zlT hq d1.1 d1.2
 have b2:=zlT hq d2.1 d2.2
 have b3:=zlT hq d3.1 d3.2
 have b4:=ztk hq e.1 e.2
 have b5:=ztm hq x1.1 x1.2
 have b6:=ztm hq x2.1 x2.2
 unfold ndW
 generalize wD q n.ins=a1 at*
 generalize wD q n.outs=a2 at*
 generalize wD q n.locals=a3 at*
 generalize wE q n.eqs=a4 at*
 generalize wX q n.assume=a5 at*
 generalize wX q n.ensure=a6 at*
 split
 ·have:=hF (q-(w+a1+a2+a3+a4+a5+a6)) (by omega) n.autos (by omega)
  omega
 ·omega
set_option maxHeartbeats 4000000 in
theorem zr9 (p:Prog) (hw:(T.ag (zax p)).w≤100000000) (q:Nat) (hq1:1≤q) (hq:q≤1500):Pure Tryz.prog 23 [.t (.ag (zax p)),.i q] (.i (wgP q p:Nat)):=by
 have hln:∀u∈p.nodes,(nodT u).w≤100000000:=fun u hu=>by
  have h1:=zav (f:=nodT) (sz:=8) hu
  exact zwbv
 have hpl:p.nodes.length≤100000000:=by
  have h1:=zai nodT 8 p.nodes
  exact zwbv
 have l1:(T.sl 2 (p.enums.map enT)).w+(zaC p.nodes).w≤(T.ag (zax p)).w:=by rw[w_ag];simp only[zax,qaj,qay,qao,qaI];omega
 have le1:=zai enT 2 p.enums
 have hme:(p.enums.map enT).length=p.enums.length:=qaa _
 have hml:(p.nodes.map nodT).length=p.nodes.length:=qaa _
 have hten:∀u∈p.enums,(u.tags.map T.s).length≤100000000:=fun u hu=>by
  have h1:=zav (f:=enT) (sz:=2) hu
  rw[show enT u= .ag [.s u.name,.sl 1 (u.tags.map T.s)] from rfl,w_ag]at h1
  simp only[qaj,qay,qao,qaI]at h1
  have h2:=zai T.s 1 u.tags
  rw[qaa];omega
 obtain⟨B,hB,hF⟩:∃B,B=1000000000+2000*100000000/\∀(q:Nat),q≤1500->∀l:List Auto,(T.sl 1 (l.map zae)).w≤100000000->wgA 100000000 q l≤B:=⟨_,rfl,zr7 100000000⟩
 have hA:=fun l h=>zr8 100000000 l (qag _) h
 unfold wgP
 generalize wgA 100000000=F at*
 unfold zax
 refine so Tryz.func23 ?_
 repeat' (first|refine wu ?_|exact wkc|intro hc|refine wk2 ?_ ?_|fail)
 refine TR.fin (id:=0) (EF:=[(1,.i q),(2,.cp [.sl 2 (p.enums.map enT),zaC p.nodes] 0),(5,.i (wgs (fun w (u:En)=>w+(u.tags.map T.s).length) q p.enums ((p.enums.map enT).length+(p.nodes.map nodT).length):Nat))]) (GF:=[]) (TR.zal p.enums.length (fun _=>True) (fun k=>[(1,.i q),(2,.cp [.sl 2 (p.enums.map enT),zaC p.nodes] 0),(5,.i (wgs (fun w (u:En)=>w+(u.tags.map T.s).length) q (p.enums.take k) ((p.enums.map enT).length+(p.nodes.map nodT).length):Nat)),(6,.i k)]) (fun _=>[]) trivial (fun k hlt _=>?_) (fun _=>?_)) ?_
 ·have hat:=zar enT hlt
  have htk:=hten _ (qad hlt)
  have hb:wgs (fun w (u:En)=>w+(u.tags.map T.s).length) q (p.enums.take k) ((p.enums.map enT).length+(p.nodes.map nodT).length)≤300000000:=zcZ _ _ (by omega) fun n hn u hu=>by have:=hten u (qaR hu);omega
  by_cases hn:wgs (fun w (u:En)=>w+(u.tags.map T.s).length) q (p.enums.take k) ((p.enums.map enT).length+(p.nodes.map nodT).length)<q
  ·have hs:=zdh hlt hn
   generalize wgs (fun w (u:En)=>w+(u.tags.map T.s).length) q (p.enums.take k) ((p.enums.map enT).length+(p.nodes.map nodT).length)=w at*
   generalize p.enums[k]=u at*
   unfold enT at hat
   repeat' (first|refine wu ?_|exact wkc|intro hc|refine wk2 ?_ ?_|fail)
   exact zwel
  ·have hs:=zdg hn
   generalize wgs (fun w (u:En)=>w+(u.tags.map T.s).length) q (p.enums.take k) ((p.enums.map enT).length+(p.nodes.map nodT).length)=w at*
   rw[hs]
   repeat' (first|refine wu ?_|exact wkc|intro hc|refine wk2 ?_ ?_|fail)
   exact⟨rfl,⟨rfl,rfl,rfl,trivial⟩,rfl⟩
 ·rw[qah]
  repeat' (first|refine wu ?_|exact wkc|intro hc|refine wk2 ?_ ?_|fail)
  all_goals exact⟨rfl,⟨rfl,rfl,rfl,trivial⟩,rfl⟩
 have hw0:wgs (fun w (u:En)=>w+(u.tags.map T.s).length) q p.enums ((p.enums.map enT).length+(p.nodes.map nodT).length)≤300000000:=zcZ _ _ (by omega) fun n hn u hu=>by have:=hten u hu;omega
 generalize wgs (fun w (u:En)=>w+(u.tags.map T.s).length) q p.enums ((p.enums.map enT).length+(p.nodes.map nodT).length)=w0 at*
 repeat' (first|refine wu ?_|exact wkc|intro hc|refine wk2 ?_ ?_|fail)
 refine TR.fin (id:=2) (EF:=[(5,.i (wgs (ndW F q) q p.nodes w0:Nat))]) (GF:=[]) (TR.zal p.nodes.length (fun _=>True) (fun k=>[(1,.i q),(2,.cp [.sl 2 (p.enums.map enT),zaC p.nodes] 0),(5,.i (wgs (ndW F q) q (p.nodes.take k) w0:Nat)),(7,.i k)]) (fun _=>[]) trivial (fun k hlt _=>?_) (fun _=>?_)) ?_
 ·have hat:=zeV hlt
  have hnw:=hln _ (qad hlt)
  have hb:wgs (ndW F q) q (p.nodes.take k) w0≤B+2000:=zcZ _ _ (by omega) fun n hn u hu=>zvN hF (by omega) hq hn (hln u (qaR hu))
  by_cases hn:wgs (ndW F q) q (p.nodes.take k) w0<q
  ·have hs:=zdh hlt hn
   generalize wgs (ndW F q) q (p.nodes.take k) w0=w at*
   generalize p.nodes[k]=n at*
   rw[ndW.eq_1 F q w n]at hs
   have w4:=zdJ n
   have d1:=zef (l:=n.ins) (by omega)
   have d2:=zef (l:=n.outs) (by omega)
   have d3:=zef (l:=n.locals) (by omega)
   have e:=zk1 (l:=n.eqs) (by omega)
   have x1:=zoY (l:=n.assume) (by omega)
   have x2:=zoY (l:=n.ensure) (by omega)
   have b1:=zlT hq d1.1 d1.2
   have b2:=zlT hq d2.1 d2.2
   have b3:=zlT hq d3.1 d3.2
   have b4:=ztk hq e.1 e.2
   have b5:=ztm hq x1.1 x1.2
   have b6:=ztm hq x2.1 x2.2
   have c1:=zhi q hq1 hq n.ins d1.1 d1.2
   have c2:=zhi q hq1 hq n.outs d2.1 d2.2
   have c3:=zhi q hq1 hq n.locals d3.1 d3.2
   have c4:=zow q hq1 hq n.eqs e.1 e.2
   have c5:=zoy q hq1 hq n.assume x1.1 x1.2
   have c6:=zoy q hq1 hq n.ensure x2.1 x2.2
   have hi:=hA n.autos (by omega)
   have hFs:=fun q' hq'=>hF q' hq' n.autos (by omega)
   clear hA hF hln hten d1 d2 d3 e x1 x2 w4
   generalize wD q n.ins=a1 at*
   generalize wD q n.outs=a2 at*
   generalize wD q n.locals=a3 at*
   generalize wE q n.eqs=a4 at*
   generalize wX q n.assume=a5 at*
   generalize wX q n.ensure=a6 at*
   unfold nodC at hat
   by_cases hn3:w+a1+a2+a3+a4+a5+a6<q
   ·rw[if_pos hn3]at hs
    have hi:=hi (q-(w+a1+a2+a3+a4+a5+a6)) (by omega) (by omega)
    have hFs:=hFs (q-(w+a1+a2+a3+a4+a5+a6)) (by omega)
    generalize F (q-(w+a1+a2+a3+a4+a5+a6)) n.autos=fz at*
    rw[show((q-(w+a1+a2+a3+a4+a5+a6):Nat):Int)=(q:Int)-((w+a1+a2+a3+a4+a5+a6:Nat):Int) by omega]at hi
    repeat' (first|refine wkt ?_|refine wka ?_|refine rg [.i w,.cp (nC n) 1,.t (zac n.ins),.i q,.i a1,.i (w+a1:Nat),.cp (nC n) 2,.t (zac n.outs),.i q,.i a2,.i (w+a1+a2:Nat),.cp (nC n) 3,.t (zac n.locals),.i q,.i a3,.i (w+a1+a2+a3:Nat),.cp (nC n) 4,.t (.sl 7 (n.eqs.map equT)),.i q,.i a4,.i (w+a1+a2+a3+a4:Nat),.cp (nC n) 6,.t (.sl 6 (n.assume.map exT)),.i q,.i a5,.i (w+a1+a2+a3+a4+a5:Nat),.cp (nC n) 7,.t (.sl 6 (n.ensure.map exT)),.i q,.i a6,.i (w+a1+a2+a3+a4+a5+a6:Nat),.i (w+a1+a2+a3+a4+a5+a6:Nat)] ?_ ?_|refine wv c1 ?_|refine wv c2 ?_|refine wv c3 ?_|refine wv c4 ?_|refine wv c5 ?_|refine wv c6 ?_|refine wv hi ?_|exact trivial|exact qaf rfl rfl|refine qaf (fun H env=>?_) ?_|refine wk ?_|exact wkc|intro hc|refine wk2 ?_ ?_|fail)
    exact zwel
   ·rw[if_neg hn3]at hs
    clear hi hFs
    repeat' (first|refine wkt ?_|refine wka ?_|refine rg [.i w,.cp (nC n) 1,.t (zac n.ins),.i q,.i a1,.i (w+a1:Nat),.cp (nC n) 2,.t (zac n.outs),.i q,.i a2,.i (w+a1+a2:Nat),.cp (nC n) 3,.t (zac n.locals),.i q,.i a3,.i (w+a1+a2+a3:Nat),.cp (nC n) 4,.t (.sl 7 (n.eqs.map equT)),.i q,.i a4,.i (w+a1+a2+a3+a4:Nat),.cp (nC n) 6,.t (.sl 6 (n.assume.map exT)),.i q,.i a5,.i (w+a1+a2+a3+a4+a5:Nat),.cp (nC n) 7,.t (.sl 6 (n.ensure.map exT)),.i q,.i a6,.i (w+a1+a2+a3+a4+a5+a6:Nat),.i (w+a1+a2+a3+a4+a5+a6:Nat)] ?_ ?_|refine wv c1 ?_|refine wv c2 ?_|refine wv c3 ?_|refine wv c4 ?_|refine wv c5 ?_|refine wv c6 ?_|exact trivial|exact qaf rfl rfl|refine qaf (fun H env=>?_) ?_|refine wk ?_|exact wkc|intro hc|refine wk2 ?_ ?_|fail)
    exact zwel
  ·have hs:=zdg hn
   generalize wgs (ndW F q) q (p.nodes.take k) w0=w at*
   exact zwdg
 ·exact zwcr
 ·repeat' (first|refine wu ?_|exact wkc|intro hc|refine wk2 ?_ ?_|fail)
  exact wkr
end Go.Proofs.YtpnnpgbaiobbjaaGreatDoor
