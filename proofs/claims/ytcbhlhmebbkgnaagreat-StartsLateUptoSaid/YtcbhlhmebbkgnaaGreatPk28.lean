import Derived.Test.YtcbhlhmebbkgnaaGreatPk10
import Derived.Test.YtcbhlhmebbkgnaaGreatPk15
import Derived.Test.YtcbhlhmebbkgnaaGreatPk18
import Derived.Test.YtcbhlhmebbkgnaaGreatPk20
import Derived.Test.YtcbhlhmebbkgnaaGreatPk22
import Derived.Test.YtcbhlhmebbkgnaaGreatPk23
import Derived.Test.YtcbhlhmebbkgnaaGreatPk24
import Derived.Test.YtcbhlhmebbkgnaaGreatPk27
set_option linter.unusedSimpArgs false
set_option linter.unusedVariables false
namespace Go.Proofs.YtcbhlhmebbkgnaaGreat
open Go Go.TL
attribute [local irreducible] TR TO Then zaw RetK Sound zab Kf GG zaZ
def ndW(F:Nat->List Auto->Nat)(q w:Nat)(n:Nod):Nat:=if w+wD q n.ins+wD q n.outs+wD q n.locals+wE q n.eqs+wX q n.assume+wX q n.ensure<q then w+wD q n.ins+wD q n.outs+wD q n.locals+wE q n.eqs+wX q n.assume+wX q n.ensure+F (q-(w+wD q n.ins+wD q n.outs+wD q n.locals+wE q n.eqs+wX q n.assume+wX q n.ensure)) n.autos else w+wD q n.ins+wD q n.outs+wD q n.locals+wE q n.eqs+wX q n.assume+wX q n.ensure
def wgP(q:Nat)(p:Prog):Nat:=wgs (ndW (wgA 100000000) q) q p.nodes (wgs (fun w (u:En)=>w+(u.tags.map T.s).length) q p.enums ((p.enums.map enT).length+(p.nodes.map nodT).length))
theorem zu2{F:Nat->List Auto->Nat}{B q w:Nat}(hF:∀(q:Nat),q≤1500->∀l:List Auto,(T.sl 1 (l.map zaj)).w≤100000000->F q l≤B)(hB:2000000000≤B)(hq:q≤1500)(hn:w<q){n:Nod}(hs:(nodT n).w≤100000000):ndW F q w n≤B+2000:=by
 have w4:=zdJ n
 have d1:=zeB (l:=n.ins) (by omega)
 have d2:=zeB (l:=n.outs) (by omega)
 have d3:=zeB (l:=n.locals) (by omega)
 have e:=zor (l:=n.eqs) (by omega)
 have x1:=zst (l:=n.assume) (by omega)
 have x2:=zst (l:=n.ensure) (by omega)
 have b1:=zmE hq d1.1 d1.2
 have b2:=zmE hq d2.1 d2.2
 have b3:=zmE hq d3.1 d3.2
 have b4:=zrv hq e.1 e.2
 have b5:=zrx hq x1.1 x1.2
 have b6:=zrx hq x2.1 x2.2
 unfold ndW
 generalize wD q n.ins=a1 at*
 generalize wD q n.outs=a2 at*
 generalize wD q n.locals=a3 at*
 generalize wE q n.eqs=a4 at*
 generalize wX q n.assume=a5 at*
 generalize wX q n.ensure=a6 at*
 split
 ·have:=hF (q-(w+a1+a2+a3+a4+a5+a6)) (by omega) n.autos (by omega)
  omega
 ·omega
set_option maxHeartbeats 4000000 in
theorem zqK (p:Prog) (hw:(T.ag (zav p)).w≤100000000) (q:Nat) (hq1:1≤q) (hq:q≤1500):Pure Tryz.prog 22 [.t (.ag (zav p)),.i q] (.i (wgP q p:Nat)):=by
 obtain⟨hP,hln,hpl⟩:=zbr hw
 have l1:(T.sl 2 (p.enums.map enT)).w+(zag p.nodes).w≤(T.ag (zav p)).w:=by rw[w_ag];simp only[zav,List.map_cons,List.map_nil,List.sum_cons,List.sum_nil];omega
 have le1:=zaq enT 2 p.enums
 have hme:(p.enums.map enT).length=p.enums.length:=List.length_map _
 have hml:(p.nodes.map nodT).length=p.nodes.length:=List.length_map _
 have hten:∀u∈p.enums,(u.tags.map T.s).length≤100000000:=fun u hu=>by
  have h1:=zaC (f:=enT) (sz:=2) hu
  have h2:=(ztu (u:=u)).2.2
  rw[List.length_map];omega
 obtain⟨B,hB,hF⟩:∃B,B=1000000000+2000*100000000/\∀(q:Nat),q≤1500->∀l:List Auto,(T.sl 1 (l.map zaj)).w≤100000000->wgA 100000000 q l≤B:=⟨_,rfl,zp7 100000000⟩
 have hA:=fun l h=>zp2 100000000 l (Nat.le_refl _) h
 unfold wgP
 generalize wgA 100000000=F at*
 unfold zav
 refine so Tryz.func22 ?_
 repeat' (first|refine wu ?_|exact wkc|intro hc|refine wk2 ?_ ?_|fail)
 refine TR.fin (id:=0) (EF:=[(1,.i q),(2,.cp [.sl 2 (p.enums.map enT),zag p.nodes] 0),(5,.i (wgs (fun w (u:En)=>w+(u.tags.map T.s).length) q p.enums ((p.enums.map enT).length+(p.nodes.map nodT).length):Nat))]) (GF:=[]) (TR.zal p.enums.length (fun _=>True) (fun k=>[(1,.i q),(2,.cp [.sl 2 (p.enums.map enT),zag p.nodes] 0),(5,.i (wgs (fun w (u:En)=>w+(u.tags.map T.s).length) q (p.enums.take k) ((p.enums.map enT).length+(p.nodes.map nodT).length):Nat)),(6,.i k)]) (fun _=>[]) trivial (fun k hlt _=>?_) (fun _=>?_)) ?_
 ·have hat:=zaX enT hlt
  have htk:=hten _ (List.getElem_mem hlt)
  have hb:wgs (fun w (u:En)=>w+(u.tags.map T.s).length) q (p.enums.take k) ((p.enums.map enT).length+(p.nodes.map nodT).length)≤300000000:=zdb _ _ (by omega) fun n hn u hu=>by have:=hten u (List.mem_of_mem_take hu);omega
  by_cases hn:wgs (fun w (u:En)=>w+(u.tags.map T.s).length) q (p.enums.take k) ((p.enums.map enT).length+(p.nodes.map nodT).length)<q
  ·have hs:=zdA hlt hn
   generalize wgs (fun w (u:En)=>w+(u.tags.map T.s).length) q (p.enums.take k) ((p.enums.map enT).length+(p.nodes.map nodT).length)=w at*
   generalize p.enums[k]=u at*
   unfold enT at hat
   repeat' (first|refine wu ?_|exact wkc|intro hc|refine wk2 ?_ ?_|fail)
   exact zab.zak hlt trivial ⟨rfl,rfl,by(try dsimp only);rw[hs];rfl,rfl,trivial⟩
  ·have hs:=zdx hn
   generalize wgs (fun w (u:En)=>w+(u.tags.map T.s).length) q (p.enums.take k) ((p.enums.map enT).length+(p.nodes.map nodT).length)=w at*
   rw[hs]
   repeat' (first|refine wu ?_|exact wkc|intro hc|refine wk2 ?_ ?_|fail)
   exact⟨rfl,⟨rfl,rfl,rfl,trivial⟩,rfl⟩
 ·rw[List.take_length]
  repeat' (first|refine wu ?_|exact wkc|intro hc|refine wk2 ?_ ?_|fail)
  all_goals exact⟨rfl,⟨rfl,rfl,rfl,trivial⟩,rfl⟩
 have hw0:wgs (fun w (u:En)=>w+(u.tags.map T.s).length) q p.enums ((p.enums.map enT).length+(p.nodes.map nodT).length)≤300000000:=zdb _ _ (by omega) fun n hn u hu=>by have:=hten u hu;omega
 generalize wgs (fun w (u:En)=>w+(u.tags.map T.s).length) q p.enums ((p.enums.map enT).length+(p.nodes.map nodT).length)=w0 at*
 repeat' (first|refine wu ?_|exact wkc|intro hc|refine wk2 ?_ ?_|fail)
 refine TR.fin (id:=2) (EF:=[(5,.i (wgs (ndW F q) q p.nodes w0:Nat))]) (GF:=[]) (TR.zal p.nodes.length (fun _=>True) (fun k=>[(1,.i q),(2,.cp [.sl 2 (p.enums.map enT),zag p.nodes] 0),(5,.i (wgs (ndW F q) q (p.nodes.take k) w0:Nat)),(7,.i k)]) (fun _=>[]) trivial (fun k hlt _=>?_) (fun _=>?_)) ?_
 ·have hat:=zb7 hlt
  have hnw:=hln _ (List.getElem_mem hlt)
  have hb:wgs (ndW F q) q (p.nodes.take k) w0≤B+2000:=zdb _ _ (by omega) fun n hn u hu=>zu2 hF (by omega) hq hn (hln u (List.mem_of_mem_take hu))
  by_cases hn:wgs (ndW F q) q (p.nodes.take k) w0<q
  ·have hs:=zdA hlt hn
   generalize wgs (ndW F q) q (p.nodes.take k) w0=w at*
   generalize p.nodes[k]=n at*
   rw[ndW.eq_1 F q w n]at hs
   have w4:=zdJ n
   have d1:=zeB (l:=n.ins) (by omega)
   have d2:=zeB (l:=n.outs) (by omega)
   have d3:=zeB (l:=n.locals) (by omega)
   have e:=zor (l:=n.eqs) (by omega)
   have x1:=zst (l:=n.assume) (by omega)
   have x2:=zst (l:=n.ensure) (by omega)
   have b1:=zmE hq d1.1 d1.2
   have b2:=zmE hq d2.1 d2.2
   have b3:=zmE hq d3.1 d3.2
   have b4:=zrv hq e.1 e.2
   have b5:=zrx hq x1.1 x1.2
   have b6:=zrx hq x2.1 x2.2
   have c1:=zhF q hq1 hq n.ins d1.1 d1.2
   have c2:=zhF q hq1 hq n.outs d2.1 d2.2
   have c3:=zhF q hq1 hq n.locals d3.1 d3.2
   have c4:=zoy q hq1 hq n.eqs e.1 e.2
   have c5:=zoz q hq1 hq n.assume x1.1 x1.2
   have c6:=zoz q hq1 hq n.ensure x2.1 x2.2
   have hi:=hA n.autos (by omega)
   have hFs:=fun q' hq'=>hF q' hq' n.autos (by omega)
   clear hA hF hln hten d1 d2 d3 e x1 x2 w4
   generalize wD q n.ins=a1 at*
   generalize wD q n.outs=a2 at*
   generalize wD q n.locals=a3 at*
   generalize wE q n.eqs=a4 at*
   generalize wX q n.assume=a5 at*
   generalize wX q n.ensure=a6 at*
   unfold nodC at hat
   by_cases hn3:w+a1+a2+a3+a4+a5+a6<q
   ·rw[if_pos hn3]at hs
    have hi:=hi (q-(w+a1+a2+a3+a4+a5+a6)) (by omega) (by omega)
    have hFs:=hFs (q-(w+a1+a2+a3+a4+a5+a6)) (by omega)
    generalize F (q-(w+a1+a2+a3+a4+a5+a6)) n.autos=fz at*
    rw[show((q-(w+a1+a2+a3+a4+a5+a6):Nat):Int)=(q:Int)-((w+a1+a2+a3+a4+a5+a6:Nat):Int) by omega]at hi
    repeat' (first|refine wkt ?_|refine wka ?_|refine rg [.i w,.cp (nC n) 1,.t (zac n.ins),.i q,.i a1,.i (w+a1:Nat),.cp (nC n) 2,.t (zac n.outs),.i q,.i a2,.i (w+a1+a2:Nat),.cp (nC n) 3,.t (zac n.locals),.i q,.i a3,.i (w+a1+a2+a3:Nat),.cp (nC n) 4,.t (.sl 7 (n.eqs.map equT)),.i q,.i a4,.i (w+a1+a2+a3+a4:Nat),.cp (nC n) 6,.t (.sl 6 (n.assume.map exT)),.i q,.i a5,.i (w+a1+a2+a3+a4+a5:Nat),.cp (nC n) 7,.t (.sl 6 (n.ensure.map exT)),.i q,.i a6,.i (w+a1+a2+a3+a4+a5+a6:Nat),.i (w+a1+a2+a3+a4+a5+a6:Nat)] ?_ ?_|refine wv c1 ?_|refine wv c2 ?_|refine wv c3 ?_|refine wv c4 ?_|refine wv c5 ?_|refine wv c6 ?_|refine wv hi ?_|exact trivial|exact And.intro rfl rfl|refine And.intro (fun H env=>?_) ?_|refine wk ?_|exact wkc|intro hc|refine wk2 ?_ ?_|fail)
    exact zab.zak hlt trivial ⟨rfl,rfl,by(try dsimp only);rw[hs];rfl,rfl,trivial⟩
   ·rw[if_neg hn3]at hs
    clear hi hFs
    repeat' (first|refine wkt ?_|refine wka ?_|refine rg [.i w,.cp (nC n) 1,.t (zac n.ins),.i q,.i a1,.i (w+a1:Nat),.cp (nC n) 2,.t (zac n.outs),.i q,.i a2,.i (w+a1+a2:Nat),.cp (nC n) 3,.t (zac n.locals),.i q,.i a3,.i (w+a1+a2+a3:Nat),.cp (nC n) 4,.t (.sl 7 (n.eqs.map equT)),.i q,.i a4,.i (w+a1+a2+a3+a4:Nat),.cp (nC n) 6,.t (.sl 6 (n.assume.map exT)),.i q,.i a5,.i (w+a1+a2+a3+a4+a5:Nat),.cp (nC n) 7,.t (.sl 6 (n.ensure.map exT)),.i q,.i a6,.i (w+a1+a2+a3+a4+a5+a6:Nat),.i (w+a1+a2+a3+a4+a5+a6:Nat)] ?_ ?_|refine wv c1 ?_|refine wv c2 ?_|refine wv c3 ?_|refine wv c4 ?_|refine wv c5 ?_|refine wv c6 ?_|exact trivial|exact And.intro rfl rfl|refine And.intro (fun H env=>?_) ?_|refine wk ?_|exact wkc|intro hc|refine wk2 ?_ ?_|fail)
    exact zab.zak hlt trivial ⟨rfl,rfl,by(try dsimp only);rw[hs];rfl,rfl,trivial⟩
  ·have hs:=zdx hn
   generalize wgs (ndW F q) q (p.nodes.take k) w0=w at*
   rw[hs]
   repeat' (first|refine wu ?_|exact wkc|intro hc|refine wk2 ?_ ?_|fail)
   exact⟨rfl,⟨rfl,trivial⟩,rfl⟩
 ·rw[List.take_length]
  repeat' (first|refine wu ?_|exact wkc|intro hc|refine wk2 ?_ ?_|fail)
  all_goals exact⟨rfl,⟨rfl,trivial⟩,rfl⟩
 ·repeat' (first|refine wu ?_|exact wkc|intro hc|refine wk2 ?_ ?_|fail)
  exact wkr
structure Plr where
 p:Prog
 node:Int
 vis:List Str
 inputs:List Str
 tags:List Str
def plrC(s:Plr):List T:=[.sl 2 (s.p.enums.map enT),zag s.p.nodes,T.i s.node,zae s.vis,zae s.inputs,zae s.tags]
def zdQ(p:Prog)(node:Int)(nm:Str):Option Nod:=(p.nodes.take node.toNat).find? fun n=>decide (n.name=nm)
def zNod:List T:=[.s [],.v (.slice none 0 0),.v (.slice none 0 0),.v (.slice none 0 0),.v (.slice none 0 0),.v (.slice none 0 0),.v (.slice none 0 0),.v (.slice none 0 0)]
theorem zlz(p:Prog)(node:Int)(nm:Str)(hp:p.nodes.length≤1000000000)(hn:0≤node):Pure Tryz.prog 195 [.t (.ag (zav p)),.i node,.s nm] (match zdQ p node nm with
  | some n=>.tup [.t (.ag (nodC n)),.b true]
  | none=>.tup [.t (.ag zNod),.b false]):=by
 have hml:(p.nodes.map nodT).length=p.nodes.length:=List.length_map _
 unfold zdQ
 obtain⟨N,hN⟩:∃N:Nat,N=min node.toNat p.nodes.length:=⟨_,rfl⟩
 rw[show p.nodes.take node.toNat=p.nodes.take N from by rw[hN];simp[List.take_eq_take_iff]]
 unfold zav
 refine so Tryz.func195 ?_
 repeat' (first|refine wk ?_|exact wkc|intro hc|refine wk2 ?_ ?_|fail)
 refine TR.zal N (fun k=>(p.nodes.take k).find? (fun n=>decide (n.name=nm))=none) (fun k=>[(1,.i node),(2,.s nm),(3,.ref 0 0),(6,.ref 1 0),(8,.i k)]) (fun _=>[.cells [.t (.sl 2 (p.enums.map enT)),.t (zag p.nodes)],.cells (zNod.map .t)]) rfl (fun k hlt hk=>?_) (fun hk=>?_)
 ·have hlt2:k<p.nodes.length:=by omega
  have hx:=zb7 hlt2
  have htk:=zaG hlt2
  have hfd:∀b:Bool,decide (p.nodes[k].name=nm)=b->(p.nodes.take (k+1)).find? (fun n=>decide (n.name=nm))=if b=true then some p.nodes[k] else none:=fun b hb=>by
   rw[htk,List.find?_append,hk,Option.none_or]
   simp[List.find?_cons,hb]
   cases b <;> simp
  have hfN:(p.nodes.take (k+1)).find? (fun n=>decide (n.name=nm))=some p.nodes[k]->(p.nodes.take N).find? (fun n=>decide (n.name=nm))=some p.nodes[k]:=fun h=>by
   rw[show p.nodes.take (k+1)=(p.nodes.take N).take (k+1) from by rw[List.take_take];congr 1;omega]at h
   conv=>lhs;rw[<-List.take_append_drop (k+1) (p.nodes.take N)]
   rw[List.find?_append,h];rfl
  generalize p.nodes[k]=n at*
  unfold nodC at hx
  repeat' (first|refine wk ?_|exact wkc|intro hc|refine wk2 ?_ ?_|fail)
  all_goals try(exfalso;omega)
  ·rw[hfN (by rw[hfd true (decide_eq_true hc)];rfl)]
   unfold nodC
   exact wkr
  ·refine zab.zak hlt ?_
   rw[hfd false (decide_eq_false hc)];rfl
 ·rw[hk]
  unfold zNod
  repeat' (first|refine wk ?_|exact wkc|intro hc|refine wk2 ?_ ?_|fail)
  all_goals first
   | (exfalso;omega)
   | exact wkr
def zmv(s:Plr)(outs:Int)(x:Ex):Int:=
 if(x.kind.1=2\/x.kind.1=8\/x.kind.1=9)/\x.name ∉ s.vis then 6 else
 if x.kind.1=10 then(match zdQ s.p s.node x.name with
  | none=>6
  | some n=>if(x.args.length:Int)≠n.ins.length+x.v.1\/(n.outs.length:Int)≠outs then 9 else 0) else 0
def zbf(s:Plr)(outs:Int)(e:Ex):Int:=orE (zmv s outs e) (zaa (zmv s 1) (flats e.args))
theorem zhh{g:Ex->Int}:∀(l:List Ex),zaa g (flats l)=zaa (fun a=>zaa g (flat a)) l
 | []=>rfl
 | a::l=>by
   rw[zo5,zaL,zaa,zhh l]
theorem zaU{α:Type}{g:α->Int}{l:List α}{k:Nat}(hk:k<l.length)(h:zaa g (l.take k)=0):zaa g (l.take (k+1))=g l[k]:=by
 rw[zaG hk,zaL,if_pos h,zaa]
 split
 ·rename_i h2;rw[h2];rfl
 ·rfl
theorem zqi(s:Plr)(outs:Int)(e:Ex):zbf s outs e=orE (zmv s outs e) (zaa (zbf s 1) e.args):=by
 unfold zbf
 rw[zhh]
 congr 2
 funext a
 rw[za2];rfl
structure zkI (s:Plr):Prop where
 nodes:s.p.nodes.length≤1000000000
 each:∀n∈s.p.nodes,n.ins.length≤1000000000/\n.outs.length≤1000000000
 node:0≤s.node
 vis:s.vis.length≤2000000000
set_option maxHeartbeats 2000000 in
theorem zdB (s:Plr) (hs:zkI s):∀(m:Nat) (e:Ex),wEx e≤m->wEx e≤1000000000->(∀x∈flat e,ExOk x)->∀outs:Int,
  Pure Tryz.prog 164 [.t (.ag (plrC s)),.t (.ag (exC e)),.i outs] (.i (zbf s outs e)):=by
 intro m
 induction m with
 | zero=>intro e he;have:=zaI e;omega
 | succ m ih0=>
   intro e he hb hex outs
   have ih:∀a∈e.args,Pure Tryz.prog 164 [.t (.ag (plrC s)),.t (.ag (exC a)),.i 1] (.i (zbf s 1 a)):=fun a ha=>ih0 a (by have:=zaE ha;omega) (by have:=zaE ha;omega) (fun x hx=>hex x (zc0 ha x hx)) 1
   clear ih0
   have hv:=(hex e (zeY.2 (.inl rfl))).1
   have hal:e.args.length≤1000000000:=by
    have:∀l:List Ex,l.length≤(l.map wEx).sum:=fun l=>by
     induction l with
     | nil=>simp
     | cons y l ih=>have:=zaI y;simp;omega
    have h2:=zet e
    have:=this e.args
    omega
   have hml:(e.args.map exT).length=e.args.length:=List.length_map _
   have h6:=zba s.vis e.name hs.vis
   have hca:=zlz s.p s.node e.name hs.nodes hs.node
   have hcl:∀n,zdQ s.p s.node e.name=some n->n.ins.length≤1000000000/\n.outs.length≤1000000000:=fun n hn=>hs.each n (List.mem_of_mem_take (List.mem_of_find?_eq_some hn))
   rw[zqi]
   generalize hz:zmv s outs e=z
   generalize zbf s 1=F at*
   unfold zmv at hz
   unfold plrC exC zav at*
   generalize e.args=L at*
   cases hq:zdQ s.p s.node e.name with
   | none=>
     rw[hq]at hca hz
     dsimp only at hca hz
     clear hcl
     unfold zNod at hca
     refine so Tryz.func164 ?_
     repeat' (first|refine wkt ?_|refine wka ?_|refine wk ?_|exact wkc|intro hc|refine wk2 ?_ ?_|refine wb h6 ?_ ?_|refine wv hca ?_|fail)
     all_goals try(exfalso;clear hca h6 ih;grind)
     all_goals first
      | ((repeat' (first|refine zab.ret ?_|refine wk ?_|fail));refine RetK.pure rfl (Le.of_eq ?_) rfl;clear hca h6 ih;refine congrArg (fun z=>SV.t (T.v (Value.int IntKind.i64 z))) ?_;first|grind|grind [orE])
      | (have hz0:z=0:=by(clear hca h6 ih;grind)
         subst hz0
         rw[show orE 0 (zaa F L)=zaa F L from if_pos rfl]
         clear hca h6 hz
         refine TR.zal L.length (fun k=>zaa F (L.take k)=0) (fun k=>[(3,.cp [.sl 2 (s.p.enums.map enT),zag s.p.nodes,T.i s.node,zae s.vis,zae s.inputs,zae s.tags] 0),(4,.cp [T.n e.kind,T.n e.op,T.n e.t,T.n e.v,.s e.name,.sl 6 (L.map exT)] 0),(9,.i k)]) (fun _=>[]) rfl (fun k hlt hk=>?_) (fun hk=>?_)
         ·have hx:=zbd hlt
          have hi:=ih _ (List.getElem_mem hlt)
          have htk:=zaU (g:=F) hlt hk
          have hat:=zan (f:=F) hlt hk
          generalize L[k]=x at*
          generalize F x=r at*
          unfold exC at hx
          repeat' (first|refine wkt ?_|refine wka ?_|refine rg [.t (.ag [.sl 2 (s.p.enums.map enT),zag s.p.nodes,T.i s.node,zae s.vis,zae s.inputs,zae s.tags]),.cp [T.n e.kind,T.n e.op,T.n e.t,T.n e.v,.s e.name,.sl 6 (L.map exT)] 5,.t (.sl 6 (L.map exT)),.i k,.cp [T.n x.kind,T.n x.op,T.n x.t,T.n x.v,.s x.name,.sl 6 (x.args.map exT)] 0,.t (.ag [T.n x.kind,T.n x.op,T.n x.t,T.n x.v,.s x.name,.sl 6 (x.args.map exT)]),.i r,.i r] ?_ ?_|refine wv hi ?_|exact trivial|exact And.intro rfl rfl|refine And.intro (fun H env=>?_) ?_|refine And.intro (fun env=>?_) ?_|refine wk ?_|exact wkc|intro hc|refine wk2 ?_ ?_|fail)
          ·rw[hat hc];exact wkr
          ·exact zab.zak hlt (by rw[htk];exact Decidable.not_not.1 hc)
         ·rw[List.take_length]at hk
          rw[hk]
          repeat' (first|refine wk ?_|exact wkc|intro hc|refine wk2 ?_ ?_|fail)
          exact wkr)
   | some n=>
     rw[hq]at hca hz
     dsimp only at hca hz
     obtain⟨c1,c2⟩:=hcl n hq
     have m1:(n.ins.map zah).length=n.ins.length:=List.length_map _
     have m2:(n.outs.map zah).length=n.outs.length:=List.length_map _
     unfold nodC at hca
     refine so Tryz.func164 ?_
     repeat' (first|refine wkt ?_|refine wka ?_|refine wk ?_|exact wkc|intro hc|refine wk2 ?_ ?_|refine wb h6 ?_ ?_|refine wv hca ?_|fail)
     all_goals try(exfalso;clear hca h6 ih;grind)
     all_goals first
      | ((repeat' (first|refine zab.ret ?_|refine wk ?_|fail));refine RetK.pure rfl (Le.of_eq ?_) rfl;clear hca h6 ih;refine congrArg (fun z=>SV.t (T.v (Value.int IntKind.i64 z))) ?_;first|grind|grind [orE])
      | (have hz0:z=0:=by(clear hca h6 ih;grind)
         subst hz0
         rw[show orE 0 (zaa F L)=zaa F L from if_pos rfl]
         clear hca h6 hz
         refine TR.zal L.length (fun k=>zaa F (L.take k)=0) (fun k=>[(3,.cp [.sl 2 (s.p.enums.map enT),zag s.p.nodes,T.i s.node,zae s.vis,zae s.inputs,zae s.tags] 0),(4,.cp [T.n e.kind,T.n e.op,T.n e.t,T.n e.v,.s e.name,.sl 6 (L.map exT)] 0),(9,.i k)]) (fun _=>[]) rfl (fun k hlt hk=>?_) (fun hk=>?_)
         ·have hx:=zbd hlt
          have hi:=ih _ (List.getElem_mem hlt)
          have htk:=zaU (g:=F) hlt hk
          have hat:=zan (f:=F) hlt hk
          generalize L[k]=x at*
          generalize F x=r at*
          unfold exC at hx
          repeat' (first|refine wkt ?_|refine wka ?_|refine rg [.t (.ag [.sl 2 (s.p.enums.map enT),zag s.p.nodes,T.i s.node,zae s.vis,zae s.inputs,zae s.tags]),.cp [T.n e.kind,T.n e.op,T.n e.t,T.n e.v,.s e.name,.sl 6 (L.map exT)] 5,.t (.sl 6 (L.map exT)),.i k,.cp [T.n x.kind,T.n x.op,T.n x.t,T.n x.v,.s x.name,.sl 6 (x.args.map exT)] 0,.t (.ag [T.n x.kind,T.n x.op,T.n x.t,T.n x.v,.s x.name,.sl 6 (x.args.map exT)]),.i r,.i r] ?_ ?_|refine wv hi ?_|exact trivial|exact And.intro rfl rfl|refine And.intro (fun H env=>?_) ?_|refine And.intro (fun env=>?_) ?_|refine wk ?_|exact wkc|intro hc|refine wk2 ?_ ?_|fail)
          ·rw[hat hc];exact wkr
          ·exact zab.zak hlt (by rw[htk];exact Decidable.not_not.1 hc)
         ·rw[List.take_length]at hk
          rw[hk]
          repeat' (first|refine wk ?_|exact wkc|intro hc|refine wk2 ?_ ?_|fail)
          exact wkr)
end Go.Proofs.YtcbhlhmebbkgnaaGreat
namespace Go.Proofs.YtcbhlhmebbkgnaaGreat
open Go Go.TL
attribute [local irreducible] TR TO Then zaw RetK Sound zab Kf GG zaZ
attribute [local irreducible] zcj
def za1(tags:List Str)(vis:List Str)(d:Decl):List Str×Int:=(vis++[d.name],if d.name∈vis\/d.name∈tags then 7 else 0)
def zbq(vis tags:List Str)(l:List Decl):List Str×Int:=
 if(zad (za1 tags) vis l).2≠0 then([],(zad (za1 tags) vis l).2) else
 if zbn (zad (za1 tags) vis l).1 l≠0 then([],zbn (zad (za1 tags) vis l).1 l) else((zad (za1 tags) vis l).1,0)
def zbB(s:Plr)(df:List Str)(x:Str):List Str×Int:=(df++[x],if x ∉ s.vis then 6 else if x∈s.inputs\/x∈df then 7 else 0)
def equR(s:Plr)(df:List Str)(u:Equ):List Str×Int:=
 if(zad (zbB s) df u.left).2≠0 then([],(zad (zbB s) df u.left).2) else((zad (zbB s) df u.left).1,zbf s u.left.length u.right)
theorem zc9{α β:Type}{F:List β->α->List β×Int}(h:∀d x,(F d x).1.length=d.length+1):∀(l:List α) (d:List β),(zad F d l).1.length≤d.length+l.length
 | [],d=>by simp[zad]
 | x::l,d=>by
   rw[zad]
   have h1:=h d x
   split
   ·have:=zc9 h l (F d x).1
    simp only[List.length_cons];omega
   ·simp only[List.length_cons];omega
theorem zhc(s:Plr)(hs:zkI s)(l:List Tran)(hl:l.length≤1000000000)(hw:∀t∈l,wEx t.cond≤1000000000/\∀x∈flat t.cond,ExOk x):
  Pure Tryz.prog 221 [.t (.ag (plrC s)),.t (.sl 8 (l.map zat))] (.i (zaa (fun t:Tran=>zbf s 1 t.cond) l)):=by
 have hml:(l.map zat).length=l.length:=List.length_map _
 have he:=fun(t:Tran) (ht:t∈l)=>zdB s hs _ t.cond (Nat.le_refl _) (hw t ht).1 (hw t ht).2 1
 unfold plrC at*
 refine so Tryz.func221 ?_
 repeat' (first|refine wu ?_|exact wkc|intro hc|refine wk2 ?_ ?_|fail)
 refine TR.zal l.length (fun k=>zaa (fun t:Tran=>zbf s 1 t.cond) (l.take k)=0) (fun k=>[(1,.t (.sl 8 (l.map zat))),(2,.cp [.sl 2 (s.p.enums.map enT),zag s.p.nodes,T.i s.node,zae s.vis,zae s.inputs,zae s.tags] 0),(5,.i k)]) (fun _=>[]) rfl (fun k hlt hk=>?_) (fun hk=>?_)
 ·have hx:=zaX zat hlt
  have hi:=he _ (List.getElem_mem hlt)
  have htk:=zaU hlt hk
  have hat:=zan hlt hk
  generalize l[k]=t at*
  generalize zbf s 1 t.cond=r at*
  unfold zat at hx
  unfold exC at hi
  repeat' (first|refine wkt ?_|refine wka ?_|refine rg [.t (.ag [.sl 2 (s.p.enums.map enT),zag s.p.nodes,T.i s.node,zae s.vis,zae s.inputs,zae s.tags]),.t (.sl 8 (l.map zat)),.i k,.cp [T.n t.cond.kind,T.n t.cond.op,T.n t.cond.t,T.n t.cond.v,.s t.cond.name,.sl 6 (t.cond.args.map exT),T.n t.to,.b t.resume] 0,.cp [T.n t.cond.kind,T.n t.cond.op,T.n t.cond.t,T.n t.cond.v,.s t.cond.name,.sl 6 (t.cond.args.map exT),T.n t.to,.b t.resume] 0,.t (.ag [T.n t.cond.kind,T.n t.cond.op,T.n t.cond.t,T.n t.cond.v,.s t.cond.name,.sl 6 (t.cond.args.map exT)]),.i r,.i r] ?_ ?_|refine wv hi ?_|exact trivial|exact And.intro rfl rfl|refine And.intro (fun H env=>?_) ?_|refine wk ?_|exact wkc|intro hc|refine wk2 ?_ ?_|fail)
  ·rw[hat hc];exact wkr
  ·exact zab.zak hlt (by rw[htk];exact Decidable.not_not.1 hc)
 ·rw[List.take_length]at hk
  rw[hk]
  repeat' (first|refine wu ?_|exact wkc|intro hc|refine wk2 ?_ ?_|fail)
  exact wkr
theorem ziM(s:Plr)(hs:zkI s)(hin:s.inputs.length≤2000000000)(df:List Str)(u:Equ)(hu:u.left.length+df.length≤2000000000)(hw:wEx u.right≤1000000000)(hex:∀x∈flat u.right,ExOk x):
  Pure Tryz.prog 162 [.t (.ag (plrC s)),.t (equT u),.t (zae df)] (.tup [.t (zae (equR s df u).1),.i (equR s df u).2]):=by
 have hml:(u.left.map T.s).length=u.left.length:=List.length_map _
 have he:=zdB s hs _ u.right (Nat.le_refl _) hw hex u.left.length
 have hv:=fun x=>zba s.vis x hs.vis
 have hi:=fun x=>zba s.inputs x hin
 have hequ:equT u= .ag (.sl 1 (u.left.map T.s)::exC u.right):=rfl
 have f1:∀d x,zbB s d x=(d++[x],if x ∉ s.vis then 6 else if x∈s.inputs\/x∈d then 7 else 0):=fun _ _=>rfl
 unfold equR
 rw[hequ]
 generalize zbB s=F at*
 unfold plrC exC at*
 refine so Tryz.func162 ?_
 repeat' (first|refine wu ?_|exact wkc|intro hc|refine wk2 ?_ ?_|fail)
 refine TR.zal u.left.length (fun k=>(zad F df (u.left.take k)).2=0) (fun k=>[(2,.t (zae (zad F df (u.left.take k)).1)),(3,.cp [.sl 2 (s.p.enums.map enT),zag s.p.nodes,T.i s.node,zae s.vis,zae s.inputs,zae s.tags] 0),(4,.cp [.sl 1 (u.left.map T.s),T.n u.right.kind,T.n u.right.op,T.n u.right.t,T.n u.right.v,.s u.right.name,.sl 6 (u.right.args.map exT)] 0),(8,.i k)]) (fun _=>[]) rfl (fun k hlt hk=>?_) (fun hk=>?_)
 ·refine TR.weak ?_
  have hx:=zfw hlt
  have hn:=zaN hlt hk
  have hat:=zbl hlt hk
  have hlen:(zad F df (u.left.take k)).1.length≤df.length+k:=by
   have:=zc9 (F:=F) (fun d x=>by rw[f1];simp) (u.left.take k) df
   rw[List.length_take]at this;omega
  have hd:=fun x=>zba (zad F df (u.left.take k)).1 x (by omega)
  generalize zad F df (u.left.take k)=d at*
  obtain⟨d1,d2⟩:=d
  simp only at hk hn hat hlen hd
  subst hk
  generalize u.left[k]=x at*
  have hv:=hv x
  have hi:=hi x
  have hd:=hd x
  rw[f1]at hn hat
  have hdl:(d1.map T.s).length=d1.length:=List.length_map _
  have hcat:(d1++[x]).map T.s=[]++d1.map T.s++[T.s x]:=by simp
  have e6:decide (x∈s.vis)=false->(if(zad F df u.left).2≠0 then([],(zad F df u.left).2) else((zad F df u.left).1,zbf s u.left.length u.right))=([],6):=fun c=>by
   have c:=of_decide_eq_false c
   rw[if_pos c]at hat
   rw[hat (show(6:Int)≠0 by decide)];rfl
  have e7:decide (x∈s.vis)=true->(x∈s.inputs\/x∈d1)->(if(zad F df u.left).2≠0 then([],(zad F df u.left).2) else((zad F df u.left).1,zbf s u.left.length u.right))=([],7):=fun c c2=>by
   have c:=of_decide_eq_true c
   rw[if_neg (by simpa using c),if_pos c2]at hat
   rw[hat (show(7:Int)≠0 by decide)];rfl
  generalize (if(zad F df u.left).2≠0 then([],(zad F df u.left).2) else((zad F df u.left).1,zbf s u.left.length u.right))=R at*
  generalize u.left.length=N at*
  repeat' (first|refine wkt ?_|refine wka ?_|refine wbf hv ?_ ?_|refine wbf hi ?_ ?_|refine wk ?_|refine zcj.ret ?_|refine wbf hd ?_ (Hold.p ?_)|exact wkc|intro hc|refine wk2 ?_ ?_|fail)
  all_goals try(refine Hold.mk (fun hc=>?_))
  rotate_left 2
  repeat' (first|(apply TO.ziR zam;(iterate 5 exact rfl))|(apply TO.zgR zam;(iterate 13 exact rfl);(first|omega|(simp only[List.length_map];omega));exact rfl)|refine TR.region ?_|(apply TO.go zam 1 true;exact rfl;(first|apply GG.to|apply GG.stop|apply GG.tr0|apply GG.tr|apply GG.ex))|(apply TR.go0 zam 1 true;exact rfl;(first|apply GG.to|apply GG.stop|apply GG.tr0|apply GG.tr|apply GG.ex))|(apply TR.go zam 1 true;exact rfl;(first|apply GG.to|apply GG.stop|apply GG.tr0|apply GG.tr|apply GG.ex))|(apply zc6.go zam 1 true;exact rfl;(first|apply GG.to|apply GG.stop|apply GG.tr0|apply GG.tr|apply GG.ex))|fail)
  repeat' (first|refine wu ?_|fail)
  ·rename_i c1 c2
   rw[if_neg (by simpa using of_decide_eq_true c1),if_neg (by simpa using And.intro (of_decide_eq_false c2) (of_decide_eq_false hc))]at hn
   refine zcj.own 2 rfl ?_
   refine zab.zhs 0 hlt (by rw[hn]) rfl rfl rfl rfl rfl ?_
   (try dsimp only)
   rw[hn]
   rw[show zae (d1++[x],(0:Int)).1=T.sl 1 (d1.map T.s++[T.s x]) from by simp[zae]]
   exact⟨rfl,rfl,rfl,rfl,trivial⟩
  ·rw[e6 hc];exact wkr
  ·rename_i c1
   rw[e7 c1 (.inl (of_decide_eq_true hc))];exact wkr
  ·rename_i c1 c2
   rw[e7 c1 (.inr (of_decide_eq_true hc))];exact wkr
 ·rw[List.take_length]at hk⊢
  rw[if_neg (by simp[hk])]
  generalize zbf s u.left.length u.right=r at*
  rw[<-hml]at he
  repeat' (first|refine wkt ?_|refine wka ?_|refine wv he ?_|refine wk ?_|exact wkc|intro hc|refine wk2 ?_ ?_|fail)
  exact wkr
theorem zg2(vis tags:List Str)(l:List Decl)(hl:l.length+vis.length≤1000000000)(hck:∀d∈l,d.clock.length≤1000000000)(ht:tags.length≤2000000000):
  Pure Tryz.prog 160 [.t (zae vis),.t (zae tags),.t (zac l)] (.tup [.t (zae (zbq vis tags l).1),.i (zbq vis tags l).2]):=by
 have hml:(l.map zah).length=l.length:=List.length_map _
 have htg:=fun x=>zba tags x ht
 have f1:∀d x,za1 tags d x=(d++[x.name],if x.name∈d\/x.name∈tags then 7 else 0):=fun _ _=>rfl
 unfold zbq
 generalize za1 tags=F at*
 refine so Tryz.func160 ?_
 repeat' (first|refine wu ?_|exact wkc|intro hc|refine wk2 ?_ ?_|fail)
 refine TR.zal l.length (fun k=>(zad F vis (l.take k)).2=0) (fun k=>[(0,.t (zae (zad F vis (l.take k)).1)),(1,.t (zae tags)),(2,.t (zac l)),(8,.i k)]) (fun _=>[]) rfl (fun k hlt hk=>?_) (fun hk=>?_)
 ·refine TR.weak ?_
  have hx:=zaX zah hlt
  have hn:=zaN hlt hk
  have hat:=zbl hlt hk
  have hlen:(zad F vis (l.take k)).1.length≤vis.length+k:=by
   have:=zc9 (F:=F) (fun d x=>by rw[f1];simp) (l.take k) vis
   rw[List.length_take]at this;omega
  have hd:=fun x=>zba (zad F vis (l.take k)).1 x (by omega)
  generalize zad F vis (l.take k)=v at*
  obtain⟨v1,v2⟩:=v
  simp only at hk hn hat hlen hd
  subst hk
  generalize l[k]=x at*
  have hd:=hd x.name
  have htg:=htg x.name
  rw[f1]at hn hat
  have hdl:(v1.map T.s).length=v1.length:=List.length_map _
  have e7:(x.name∈v1\/x.name∈tags)->(if(zad F vis l).2≠0 then(([]:List Str),(zad F vis l).2) else if zbn (zad F vis l).1 l≠0 then([],zbn (zad F vis l).1 l) else((zad F vis l).1,0))=([],7):=fun c2=>by
   rw[if_pos c2]at hat
   rw[hat (show(7:Int)≠0 by decide)];rfl
  generalize (if(zad F vis l).2≠0 then(([]:List Str),(zad F vis l).2) else if zbn (zad F vis l).1 l≠0 then([],zbn (zad F vis l).1 l) else((zad F vis l).1,0))=R at*
  have hdx:zah x= .ag [.s x.name,T.n x.ty,.sl 3 (x.clock.map onT)]:=rfl
  rw[hdx]at hx
  repeat' (first|(apply TO.ziR zam;(iterate 5 exact rfl))|refine wkt ?_|refine wka ?_|refine wbf hd ?_ ?_|refine wbf htg ?_ ?_|refine TR.zcU [0] (envF:=_) (HF:=[.tail ((v1.map T.s).length+1)]) [(.sl 1 [] 0,true),(.t (zae v1),false),(.sl 1 (v1.map T.s) 0,true),(.t (zac l),false),(.i k,false),(.cp [.s x.name,T.n x.ty,.sl 3 (x.clock.map onT)] 0,false),(.cp [.s x.name,T.n x.ty,.sl 3 (x.clock.map onT)] 0,false),(.t (.s x.name),false),(.t (.sl 1 [.s x.name]),false),(.sl 1 (v1.map T.s++[.s x.name]) 0,true),(.sl 1 (v1.map T.s++[.s x.name]) 0,false)] [[],[.tail 0],[.tail (v1.map T.s).length],[.tail ((v1.map T.s).length+1)]] hmix rfl (by dsimp only[List.map];decide +kernel) rfl ?_ rfl rfl ?_|(apply TO.zgR zam;(iterate 13 exact rfl);(first|omega|(simp only[List.length_map];omega));exact rfl)|exact trivial|exact And.intro rfl rfl|refine And.intro (fun H env=>?_) ?_|refine And.intro (fun env=>?_) ?_|refine wk ?_|refine zcj.ret ?_|exact wkc|intro hc|refine wk2 ?_ ?_|fail)
  ·rw[e7 (.inl (of_decide_eq_true hc))];exact wkr
  ·rw[e7 (.inr (of_decide_eq_true hc))];exact wkr
  ·rename_i c1
   rw[if_neg (by rintro(h|h) <;> first|exact absurd h (of_decide_eq_false c1)|exact absurd h (of_decide_eq_false hc))]at hn
   refine zcj.own 0 rfl ?_
   refine zab.zhs 0 hlt (by rw[hn]) rfl rfl rfl rfl rfl ?_
   (try dsimp only)
   rw[hn]
   rw[show zae (v1++[x.name],(0:Int)).1=T.sl 1 (v1.map T.s++[T.s x.name]) from by simp[zae]]
   exact⟨rfl,rfl,rfl,rfl,trivial⟩
 ·rw[List.take_length]at hk⊢
  have hlen:(zad F vis l).1.length≤vis.length+l.length:=zc9 (F:=F) (fun d x=>by rw[f1];simp) l vis
  have hd:=fun x=>zba (zad F vis l).1 x (by omega)
  generalize zad F vis l=v at*
  obtain⟨V,v2⟩:=v
  simp only at hk hlen hd
  subst hk
  rw[if_neg (by simp)]
  simp only[]
  repeat' (first|refine wu ?_|exact wkc|intro hc|refine wk2 ?_ ?_|fail)
  refine TR.zal l.length (fun j=>zbn V (l.take j)=0) (fun j=>[(0,.t (zae V)),(2,.t (zac l)),(9,.i j)]) (fun _=>[]) rfl (fun j hlj hj=>?_) (fun hj=>?_)
  ·have hx:=zaX zah hlj
   have htk:=zaU (g:=fun d:Decl=>zaa (fun o:OnC=>if o.name∈V then(0:Int) else 6) d.clock) hlj hj
   have hat:=zan (f:=fun d:Decl=>zaa (fun o:OnC=>if o.name∈V then(0:Int) else 6) d.clock) hlj hj
   have hcl:=hck _ (List.getElem_mem hlj)
   generalize l[j]=x at*
   have hdx:zah x= .ag [.s x.name,T.n x.ty,.sl 3 (x.clock.map onT)]:=rfl
   have hmo:(x.clock.map onT).length=x.clock.length:=List.length_map _
   rw[hdx]at hx
   repeat' (first|refine wu ?_|exact wkc|intro hc|refine wk2 ?_ ?_|fail)
   refine TR.zal x.clock.length (fun k=>zaa (fun o:OnC=>if o.name∈V then(0:Int) else 6) (x.clock.take k)=0) (fun k=>[(0,.t (zae V)),(2,.t (zac l)),(9,.i j),(10,.i k)]) (fun _=>[]) rfl (fun k hlk hk=>?_) (fun hk=>?_)
   ·have hy:=zaX onT hlk
    have htk2:=zaU hlk hk
    have hat2:=zan hlk hk
    generalize x.clock[k]=o at*
    have ho:onT o= .ag [.s o.name,T.n o.t,T.n o.tag]:=rfl
    rw[ho]at hy
    have hd:=hd o.name
    repeat' (first|refine wkt ?_|refine wka ?_|refine wbf hd ?_ ?_|refine wk ?_|exact wkc|intro hc|refine wk2 ?_ ?_|fail)
    ·have hc:=of_decide_eq_true hc
     rw[if_pos hc]at htk2
     exact zab.zak hlk htk2
    ·have hc:=of_decide_eq_false hc
     rw[if_neg hc]at hat2
     have h6:=hat2 (by decide)
     rw[h6]at hat
     have h7:zbn V l=6:=hat (by decide)
     rw[h7]
     exact wkr
   ·rw[List.take_length]at hk
    repeat' (first|refine wu ?_|exact wkc|intro hc|refine wk2 ?_ ?_|fail)
    exact zab.zak hlj (by unfold zbn;rw[htk];exact hk)
  ·rw[List.take_length]at hj
   rw[hj]
   repeat' (first|refine wu ?_|exact wkc|intro hc|refine wk2 ?_ ?_|fail)
   exact wkr
def Plr.at(s:Plr)(vis:List Str):Plr:=⟨s.p,s.node,vis,s.inputs,s.tags⟩
def wo(l o:List Str):List Str:=l.filter fun s=>!decide (s∈o)
def autF(F:Plr->List Str->Auto->List Str×Int)(s:Plr)(all:List Str)(a:Auto):List Str×Int:=(all++(F s all a).1,(F s all a).2)
def zf9(s:Plr)(l:List Tran):Int:=zaa (fun t:Tran=>zbf s 1 t.cond) l
def stR(F:Plr->List Str->Auto->List Str×Int)(s:Plr)(x:Sta)(df:List Str):List Str×Int:=
 if(zbq s.vis s.tags x.locals).2≠0 then([],(zbq s.vis s.tags x.locals).2) else
 if(zad (equR (s.at (zbq s.vis s.tags x.locals).1)) df x.eqs).2≠0 then([],(zad (equR (s.at (zbq s.vis s.tags x.locals).1)) df x.eqs).2) else
 if(zad (autF F (s.at (zbq s.vis s.tags x.locals).1)) (zad (equR (s.at (zbq s.vis s.tags x.locals).1)) df x.eqs).1 x.autos).2≠0 then([],(zad (autF F (s.at (zbq s.vis s.tags x.locals).1)) (zad (equR (s.at (zbq s.vis s.tags x.locals).1)) df x.eqs).1 x.autos).2) else
 if zf9 s x.unl≠0 then([],zf9 s x.unl) else
 if zf9 (s.at (zbq s.vis s.tags x.locals).1) x.unt≠0 then([],zf9 (s.at (zbq s.vis s.tags x.locals).1) x.unt) else
 if wo (x.locals.map Decl.name) (wo (zad (autF F (s.at (zbq s.vis s.tags x.locals).1)) (zad (equR (s.at (zbq s.vis s.tags x.locals).1)) df x.eqs).1 x.autos).1 df)≠ [] then([],8) else
 (wo (wo (zad (autF F (s.at (zbq s.vis s.tags x.locals).1)) (zad (equR (s.at (zbq s.vis s.tags x.locals).1)) df x.eqs).1 x.autos).1 df) (x.locals.map Decl.name),0)
theorem zcM{α β:Type}{f:List β->α->List β×Int}{m:α->Nat}(l:List α)(h:∀a x,x∈l->(f a x).2=0->(f a x).1.length≤a.length+m x):∀a,(zad f a l).2=0->(zad f a l).1.length≤a.length+(l.map m).sum:=by
 induction l with
 | nil=>intro a _;simp[zad]
 | cons x l ih=>
   intro a hz
   rw[zad]at hz⊢
   split at hz
   ·rename_i h0
    rw[if_pos h0]
    have h1:=h a x (by simp) h0
    have h2:=ih (fun a y hy=>h a y (by simp[hy])) _ hz
    simp only[List.map_cons,List.sum_cons];omega
   ·rename_i h0;exact absurd hz h0
theorem zoI(s:Plr)(df:List Str)(u:Equ):(equR s df u).1.length≤df.length+u.left.length:=by
 unfold equR
 split
 ·simp
 ·exact zc9 (F:=zbB s) (fun d x=>by simp[zbB]) u.left df
theorem zmI(vis tags:List Str)(l:List Decl):(zbq vis tags l).1.length≤vis.length+l.length:=by
 unfold zbq
 split
 ·simp
 ·split
  ·simp
  ·exact zc9 (F:=za1 tags) (fun d x=>by simp[za1]) l vis
theorem zeR{α:Type}(m:α->Nat)(l:List α)(k:Nat):((l.take k).map m).sum≤(l.map m).sum:=by
 conv=>rhs;rw[<-List.take_append_drop k l]
 rw[List.map_append,List.sum_append];omega
theorem zea{α:Type}{m:α->Nat}{f:α->T}(sz:Nat)(l:List α)(h:∀x∈l,m x≤(f x).w):(l.map m).sum≤(T.sl sz (l.map f)).w:=by
 rw[w_sl]
 induction l with
 | nil=>simp
 | cons x l ih=>
   have h1:=h x (by simp)
   have h2:=ih fun y hy=>h y (by simp[hy])
   simp only[List.map_cons,List.sum_cons];omega
theorem zok(l o:List Str):(wo l o).length≤l.length:=List.length_filter_le _ _
set_option maxHeartbeats 4000000 in
theorem zoS (F:Plr->List Str->Auto->List Str×Int) (s:Plr) (hs:zkI s) (hin:s.inputs.length≤2000000000) (htg:s.tags.length≤2000000000) (x:Sta) (df:List Str) (hvw:s.vis.length+(staT x).w≤1000000000) (hdw:df.length+(staT x).w≤1000000000)
  (heq:∀u∈x.eqs,∀y∈flat u.right,ExOk y) (hu:∀t∈x.unl,∀y∈flat t.cond,ExOk y) (ht:∀t∈x.unt,∀y∈flat t.cond,ExOk y)
  (hF:∀vis,vis.length≤s.vis.length+x.locals.length->∀a∈x.autos,∀all,all.length+(zaj a).w≤1000000000->Pure Tryz.prog 163 [.t (.ag (plrC (s.at vis))),.t (zaj a),.t (zae all)] (.tup [.t (zae (F (s.at vis) all a).1),.i (F (s.at vis) all a).2]))
  (hFl:∀s a all,(F s all a).1.length≤(zaj a).w):
  Pure Tryz.prog 194 [.t (.ag (plrC s)),.t (staT x),.t (zae df)] (.tup [.t (zae (stR F s x df).1),.i (stR F s x df).2]):=by
 have hws:=zfd x
 have b1:=zaq zah 3 x.locals
 have b2:=zaq equT 7 x.eqs
 have b3:=zaq zaj 1 x.autos
 have b4:=zaq zat 8 x.unl
 have b5:=zaq zat 8 x.unt
 have hdl:(zac x.locals).w=(T.sl 3 (x.locals.map zah)).w:=rfl
 have m1:(x.locals.map zah).length=x.locals.length:=List.length_map _
 have m2:(x.eqs.map equT).length=x.eqs.length:=List.length_map _
 have m3:(x.autos.map zaj).length=x.autos.length:=List.length_map _
 have hdecl:=zg2 s.vis s.tags x.locals (by omega) (fun d hd=>by
  have h1:=zaC (f:=zah) (sz:=3) hd
  have h2:=zaq onT 3 d.clock
  have h3:(T.sl 3 (d.clock.map onT)).w≤(zah d).w:=by
   rw[show zah d= .ag [.s d.name,T.n d.ty,.sl 3 (d.clock.map onT)] from rfl,w_ag];simp only[List.map_cons,List.map_nil,List.sum_cons,List.sum_nil];omega
  omega) htg
 have hexw:∀e:Ex,(exT e).w≤1000000000->wEx e≤1000000000:=fun e h=>Nat.le_trans (zep e) h
 have hVl:=zmI s.vis s.tags x.locals
 have hnm:=zcp x.locals (by omega)
 have hc1:=zhc s hs x.unl (by omega) (fun t h=>⟨hexw _ (by have:=zaC (f:=zat) (sz:=8) h;have:=zdW t;omega),hu t h⟩)
 have hst:stR F s x df=stR F s x df:=rfl
 conv at hst=>rhs;unfold stR
 have hc1':zaa (fun t:Tran=>zbf s 1 t.cond) x.unl=zf9 s x.unl:=rfl
 rw[hc1']at hc1
 generalize stR F s x df=R at hst⊢
 generalize zf9 s x.unl=q1 at*
 generalize hr1:zbq s.vis s.tags x.locals=r1 at*
 obtain⟨V,c⟩:=r1
 simp only at hdecl hVl hst
 have hs':zkI (s.at V):=⟨hs.nodes,hs.each,hs.node,by show V.length≤_;omega⟩
 have hequ:=fun(u:Equ) (hu:u∈x.eqs) (d:List Str) (hd:u.left.length+d.length≤2000000000)=>ziM (s.at V) hs' hin d u hd (hexw _ (by
  have h1:=zaC (f:=equT) (sz:=7) hu
  have h2:=ze9 u
  omega)) (heq u hu)
 have hc2:=zhc (s.at V) hs' x.unt (by omega) (fun t h=>⟨hexw _ (by have:=zaC (f:=zat) (sz:=8) h;have:=zdW t;omega),ht t h⟩)
 have hc2':zaa (fun t:Tran=>zbf (s.at V) 1 t.cond) x.unt=zf9 (s.at V) x.unt:=rfl
 rw[hc2']at hc2
 generalize zf9 (s.at V) x.unt=q2 at*
 have hauto:=fun a ha all hall=>hF V (by omega) a ha all hall
 have hel:=fun(a:List Str) (u:Equ) (_:u∈x.eqs) (_:(equR (s.at V) a u).2=0)=>zoI (s.at V) a u
 have hal:=fun(a:List Str) (y:Auto) (_:y∈x.autos) (_:(autF F (s.at V) a y).2=0)=>(show(autF F (s.at V) a y).1.length≤a.length+(zaj y).w by have:=hFl (s.at V) y a;simp only[autF,List.length_append];omega)
 have hEs:=zea (m:=fun u:Equ=>u.left.length) (f:=equT) 7 x.eqs (fun u _=>zbE)
 have hAs:=zea (m:=fun a:Auto=>(zaj a).w) (f:=zaj) 1 x.autos (fun a _=>Nat.le_refl _)
 have haf:∀d a,autF F (s.at V) d a=(d++(F (s.at V) d a).1,(F (s.at V) d a).2):=fun _ _=>rfl
 have hpv:plrC (s.at V)=[.sl 2 (s.p.enums.map enT),zag s.p.nodes,T.i s.node,zae V,zae s.inputs,zae s.tags]:=rfl
 rw[hpv]at hc2
 have hauto:=fun a ha all hall=>(hpv ▸ hauto a ha all hall)
 rw[hpv]at hequ
 generalize equR (s.at V)=E at*
 have hGl:=fun a all=>hFl (s.at V) a all
 generalize F (s.at V)=G at*
 generalize autF F (s.at V)=A at*
 rw[zf6]
 unfold plrC staC at*
 refine so Tryz.func194 ?_
 repeat' (first|refine wv hdecl ?_|refine wkb ?_|refine wk ?_|exact wkc|intro hc|refine wk2 ?_ ?_|fail)
 ·rw[if_pos hc]at hst
  rw[hst];exact wkr
 rw[if_neg hc]at hst
 clear hdecl hF
 refine TR.zal x.eqs.length (fun j=>(zad E df (x.eqs.take j)).2=0) (fun j=>[(2,.t (zae df)),(3,.cp [.sl 2 (s.p.enums.map enT),zag s.p.nodes,T.i s.node,zae s.vis,zae s.inputs,zae s.tags] 0),(4,.cp [.s x.name,zac x.locals,.sl 7 (x.eqs.map equT),.sl 1 (x.autos.map zaj),.sl 8 (x.unl.map zat),.sl 8 (x.unt.map zat)] 0),(10,.ref 0 0),(11,.t (zae (zad E df (x.eqs.take j)).1)),(12,.i j)]) (fun _=>[.cells [.t (.sl 2 (s.p.enums.map enT)),.t (zag s.p.nodes),.i s.node,.t (zae V),.t (zae s.inputs),.t (zae s.tags)]]) rfl (fun j hlj hj=>?_) (fun hj=>?_)
 ·have hx:=zcP hlj
  have hn:=zaN hlj hj
  have hat:=zbl hlj hj
  have hl1:=zcM (f:=E) (m:=fun u:Equ=>u.left.length) (x.eqs.take j) (fun a u hu h=>hel a u (List.mem_of_mem_take hu) h) df hj
  have hl2:=zeR (fun u:Equ=>u.left.length) x.eqs j
  have hll:=(zbE (q:=x.eqs[j]))
  have hwj:=zaC (f:=equT) (sz:=7) (List.getElem_mem hlj)
  have he:=hequ x.eqs[j] (List.getElem_mem hlj) (zad E df (x.eqs.take j)).1 (by omega)
  generalize zad E df (x.eqs.take j)=d at*
  obtain⟨D,d2⟩:=d
  simp only at hj hn hat he
  subst hj
  generalize x.eqs[j]=u at*
  generalize E D u=e at*
  obtain⟨e1,e2⟩:=e
  simp only at he hat
  unfold equC at hx
  rw[show equT u= .ag [.sl 1 (u.left.map T.s),T.n u.right.kind,T.n u.right.op,T.n u.right.t,T.n u.right.v,.s u.right.name,.sl 6 (u.right.args.map exT)] from rfl]at he
  clear hequ hauto hel hal haf hc1 hc2 hnm
  repeat' (first|refine wkb ?_|refine TR.zcU [11] (envF:=_) (HF:=[.cells [.t (.sl 2 (s.p.enums.map enT)),.t (zag s.p.nodes),.i s.node,.t (zae V),.t (zae s.inputs),.t (zae s.tags)]]) [(.ag [.t (.sl 2 (s.p.enums.map enT)),.t (zag s.p.nodes),.i s.node,.t (zae V),.t (zae s.inputs),.t (zae s.tags)],true),(.cp [.s x.name,zac x.locals,.sl 7 (x.eqs.map equT),.sl 1 (x.autos.map zaj),.sl 8 (x.unl.map zat),.sl 8 (x.unt.map zat)] 2,false),(.t (.sl 7 (x.eqs.map equT)),false),(.i j,false),(.cp [.sl 1 (u.left.map T.s),T.n u.right.kind,T.n u.right.op,T.n u.right.t,T.n u.right.v,.s u.right.name,.sl 6 (u.right.args.map exT)] 0,false),(.t (.ag [.sl 1 (u.left.map T.s),T.n u.right.kind,T.n u.right.op,T.n u.right.t,T.n u.right.v,.s u.right.name,.sl 6 (u.right.args.map exT)]),false),(.t (zae D),false),(.tup [.t (zae e1),.i e2],false),(.tup [.t (zae e1),.i e2],false),(.t (zae e1),false),(.i e2,false),(.t (zae e1),false),(.i e2,false)] [[.cells [.t (.sl 2 (s.p.enums.map enT)),.t (zag s.p.nodes),.i s.node,.t (zae V),.t (zae s.inputs),.t (zae s.tags)]],[.cells [.t (.sl 2 (s.p.enums.map enT)),.t (zag s.p.nodes),.i s.node,.t (zae V),.t (zae s.inputs),.t (zae s.tags)]]] hmix rfl (by dsimp only[List.map];decide +kernel) rfl ?_ rfl rfl ?_|refine wv he ?_|exact trivial|exact And.intro rfl rfl|refine And.intro (fun H env=>?_) ?_|refine And.intro (fun env=>?_) ?_|refine wk ?_|exact wkc|intro hc|refine wk2 ?_ ?_|fail)
  ·have hz:=hat hc
   rw[hz,if_pos hc]at hst
   rw[hst];exact wkr
  ·have hz:e2=0:=Decidable.not_not.1 hc
   exact zab.zak hlj (by rw[hn];exact hz) (by(try dsimp only);rw[hn];exact⟨rfl,rfl,rfl,rfl,rfl,rfl,trivial⟩)
 rw[List.take_length]at hj⊢
 rw[if_neg (by simp[hj])]at hst
 have hle:=zcM (f:=E) (m:=fun u:Equ=>u.left.length) x.eqs hel df hj
 generalize zad E df x.eqs=e at*
 obtain⟨D0,e2⟩:=e
 simp only at hj hle hst
 subst hj
 clear hequ hel
 repeat' (first|refine wkb ?_|refine wk ?_|exact wkc|intro hc|refine wk2 ?_ ?_|fail)
 refine TR.zal x.autos.length (fun j=>(zad A D0 (x.autos.take j)).2=0) (fun j=>[(2,.t (zae df)),(3,.cp [.sl 2 (s.p.enums.map enT),zag s.p.nodes,T.i s.node,zae s.vis,zae s.inputs,zae s.tags] 0),(4,.cp [.s x.name,zac x.locals,.sl 7 (x.eqs.map equT),.sl 1 (x.autos.map zaj),.sl 8 (x.unl.map zat),.sl 8 (x.unt.map zat)] 0),(10,.ref 0 0),(11,.t (zae (zad A D0 (x.autos.take j)).1)),(13,.i j)]) (fun _=>[.cells [.t (.sl 2 (s.p.enums.map enT)),.t (zag s.p.nodes),.i s.node,.t (zae V),.t (zae s.inputs),.t (zae s.tags)]]) rfl (fun j hlj hj=>?_) (fun hj=>?_)
 ·refine TR.weak ?_
  have hx:=zdL hlj
  have hn:=zaN hlj hj
  have hat:=zbl hlj hj
  have hl1:=zcM (f:=A) (m:=fun a:Auto=>(zaj a).w) (x.autos.take j) (fun a u hu h=>hal a u (List.mem_of_mem_take hu) h) D0 hj
  have hl2:((x.autos.take j).map fun a:Auto=>(zaj a).w).sum+(zaj x.autos[j]).w≤(x.autos.map fun a:Auto=>(zaj a).w).sum:=by
   have:=zeR (fun a:Auto=>(zaj a).w) x.autos (j+1)
   rw[zaG hlj,List.map_append,List.sum_append]at this
   simpa using this
  have he:=hauto x.autos[j] (List.getElem_mem hlj) (zad A D0 (x.autos.take j)).1 (by omega)
  have hgl:=hGl x.autos[j] (zad A D0 (x.autos.take j)).1
  generalize zad A D0 (x.autos.take j)=d at*
  obtain⟨D,d2⟩:=d
  simp only at hj hn hat he hl1 hgl
  subst hj
  generalize x.autos[j]=a at*
  rw[haf]at hn hat
  rw[zeO]at he
  generalize G D a=g at*
  obtain⟨g1,g2⟩:=g
  simp only at he hat hn hgl
  unfold zcg at hx he
  have hdm:(D.map T.s).length=D.length:=List.length_map _
  have hgm:(g1.map T.s).length=g1.length:=List.length_map _
  clear hauto hal haf hc1 hc2 hnm
  repeat' (first|refine wkb ?_|refine wk ?_|fail)
  refine wk2 ?_ ?_ <;> intro hlt' <;> try(exfalso;omega)
  repeat' (first|refine wkb ?_|refine TR.zcU [] (envF:=_) (HF:=[.cells [.t (.sl 2 (s.p.enums.map enT)),.t (zag s.p.nodes),.i s.node,.t (zae V),.t (zae s.inputs),.t (zae s.tags)]]) [(.ag [.t (.sl 2 (s.p.enums.map enT)),.t (zag s.p.nodes),.i s.node,.t (zae V),.t (zae s.inputs),.t (zae s.tags)],true),(.cp [.s x.name,zac x.locals,.sl 7 (x.eqs.map equT),.sl 1 (x.autos.map zaj),.sl 8 (x.unl.map zat),.sl 8 (x.unt.map zat)] 3,false),(.t (.sl 1 (x.autos.map zaj)),false),(.i j,false),(.cp [.sl 6 (a.states.map staT)] 0,false),(.t (.ag [.sl 6 (a.states.map staT)]),false),(.t (zae D),false),(.tup [.t (zae g1),.i g2],false),(.tup [.t (zae g1),.i g2],false),(.t (zae g1),false),(.i g2,false),(.t (zae g1),false),(.i g2,false)] [[.cells [.t (.sl 2 (s.p.enums.map enT)),.t (zag s.p.nodes),.i s.node,.t (zae V),.t (zae s.inputs),.t (zae s.tags)]],[.cells [.t (.sl 2 (s.p.enums.map enT)),.t (zag s.p.nodes),.i s.node,.t (zae V),.t (zae s.inputs),.t (zae s.tags)]]] hmix rfl (by dsimp only[List.map];decide +kernel) rfl ?_ rfl rfl ?_|refine wv he ?_|exact trivial|exact And.intro rfl rfl|refine And.intro (fun H env=>?_) ?_|refine And.intro (fun env=>?_) ?_|refine wk ?_|fail)
  refine wk2 (fun hc=>?_) (fun hc=>?_)
  ·repeat' (first|refine wkb ?_|refine wk ?_|refine zcj.ret ?_|fail)
   have hz:=hat hc
   rw[hz,if_pos hc]at hst
   rw[hst];exact wkr
  ·repeat' (first|(apply TO.ziR zam;(iterate 5 exact rfl))|(apply TO.zgR zam;(iterate 13 exact rfl);(first|omega|(simp only[List.length_map];omega));exact rfl)|refine TR.region ?_|(apply TO.go zam 1 true;exact rfl;(first|apply GG.to|apply GG.stop|apply GG.tr0|apply GG.tr|apply GG.ex))|(apply TR.go0 zam 1 true;exact rfl;(first|apply GG.to|apply GG.stop|apply GG.tr0|apply GG.tr|apply GG.ex))|(apply TR.go zam 1 true;exact rfl;(first|apply GG.to|apply GG.stop|apply GG.tr0|apply GG.tr|apply GG.ex))|(apply zc6.go zam 1 true;exact rfl;(first|apply GG.to|apply GG.stop|apply GG.tr0|apply GG.tr|apply GG.ex))|fail)
   repeat' (first|refine wkb ?_|refine wk ?_|fail)
   have hz:g2=0:=Decidable.not_not.1 hc
   refine zcj.own 11 rfl ?_
   refine zab.zhs 1 hlj (by rw[hn];exact hz) rfl rfl rfl rfl rfl ?_
   (try dsimp only)
   rw[hn]
   rw[show zae (D++g1,g2).1=T.sl 1 (D.map T.s++g1.map T.s) from by simp[zae]]
   exact⟨rfl,rfl,rfl,rfl,rfl,rfl,trivial⟩
 rw[List.take_length]at hj⊢
 rw[if_neg (by simp[hj])]at hst
 have hle2:=zcM (f:=A) (m:=fun a:Auto=>(zaj a).w) x.autos hal D0 hj
 generalize zad A D0 x.autos=e at*
 obtain⟨D1,e2⟩:=e
 simp only at hj hle2 hst
 subst hj
 clear hauto hal haf
 have w1:=zb3 D1 df (by omega) (by omega)
 have w2:=zb3 (x.locals.map Decl.name) (wo D1 df) (by rw[List.length_map];omega) (by have:=zok D1 df;omega)
 have w3:=zb3 (wo D1 df) (x.locals.map Decl.name) (by have:=zok D1 df;omega) (by rw[List.length_map];omega)
 rw[show(D1.filter fun s=>!decide (s∈df))=wo D1 df from rfl]at w1
 rw[show((x.locals.map Decl.name).filter fun s=>!decide (s∈wo D1 df))=wo (x.locals.map Decl.name) (wo D1 df) from rfl]at w2
 rw[show((wo D1 df).filter fun s=>!decide (s∈x.locals.map Decl.name))=wo (wo D1 df) (x.locals.map Decl.name) from rfl]at w3
 generalize wo (wo D1 df) (x.locals.map Decl.name)=o3 at*
 generalize hw2:wo (x.locals.map Decl.name) (wo D1 df)=o2 at*
 generalize wo D1 df=o1 at*
 generalize x.locals.map Decl.name=ln at*
 have ho2:(o2.map T.s).length=o2.length:=List.length_map _
 repeat' (first|refine wkb ?_|refine wv hc1 ?_|refine wv hc2 ?_|refine wv w1 ?_|refine wv hnm ?_|refine wv w2 ?_|refine wv w3 ?_|refine wk ?_|exact wkc|intro hc|refine wk2 ?_ ?_|fail)
 ·rw[if_pos hc]at hst
  rw[hst];exact wkr
 ·rename_i c1
  rw[if_neg c1,if_pos hc]at hst
  rw[hst];exact wkr
 ·rename_i c1 c2
  rw[if_neg c1,if_neg c2,if_pos (by rintro rfl;simp at hc)]at hst
  rw[hst];exact wkr
 ·rename_i c1 c2
  rw[if_neg c1,if_neg c2,if_neg (by
   rw[Decidable.not_not]
   exact List.eq_nil_of_length_eq_zero (by omega))]at hst
  rw[hst];exact wkr
end Go.Proofs.YtcbhlhmebbkgnaaGreat
