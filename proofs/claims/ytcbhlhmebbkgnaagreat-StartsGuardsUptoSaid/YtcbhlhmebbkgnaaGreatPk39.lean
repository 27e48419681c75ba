import Derived.Test.YtcbhlhmebbkgnaaGreatPk32
import Derived.Test.YtcbhlhmebbkgnaaGreatPk37
import Derived.Test.YtcbhlhmebbkgnaaGreatPk38
set_option linter.unusedSimpArgs false
set_option linter.unusedVariables false
namespace Go.Proofs.YtcbhlhmebbkgnaaGreat
open Go Go.TL
attribute [local irreducible] TR TO Then InBlock RetK Sound LoopK Kf GG ThenL
def ndW(F:Nat->List Auto->Nat)(q w:Nat)(n:Nod):Nat:=if w+wD q n.ins+wD q n.outs+wD q n.locals+wE q n.eqs+wX q n.assume+wX q n.ensure<q then w+wD q n.ins+wD q n.outs+wD q n.locals+wE q n.eqs+wX q n.assume+wX q n.ensure+F (q-(w+wD q n.ins+wD q n.outs+wD q n.locals+wE q n.eqs+wX q n.assume+wX q n.ensure)) n.autos else w+wD q n.ins+wD q n.outs+wD q n.locals+wE q n.eqs+wX q n.assume+wX q n.ensure
def wgP(q:Nat)(p:Prog):Nat:=wgs (ndW (wgA 100000000) q) q p.nodes (wgs (fun w (u:En)=>w+(u.tags.map T.s).length) q p.enums ((p.enums.map enT).length+(p.nodes.map nodT).length))
theorem ndW_le{F:Nat->List Auto->Nat}{B q w:Nat}(hF:∀(q:Nat),q≤1500->∀l:List Auto,(T.sl 1 (l.map autoT)).w≤100000000->F q l≤B)(hB:2000000000≤B)(hq:q≤1500)(hn:w<q){n:Nod}(hs:(nodT n).w≤100000000):ndW F q w n≤B+2000:=by
 have w4:=w_nod n
 have d1:=decl_w8 (l:=n.ins) (by omega)
 have d2:=decl_w8 (l:=n.outs) (by omega)
 have d3:=decl_w8 (l:=n.locals) (by omega)
 have e:=equ_w8 (l:=n.eqs) (by omega)
 have x1:=ex_w8 (l:=n.assume) (by omega)
 have x2:=ex_w8 (l:=n.ensure) (by omega)
 have b1:=wD_le hq d1.1 d1.2
 have b2:=wD_le hq d2.1 d2.2
 have b3:=wD_le hq d3.1 d3.2
 have b4:=wE_le hq e.1 e.2
 have b5:=wX_le hq x1.1 x1.2
 have b6:=wX_le hq x2.1 x2.2
 unfold ndW
 generalize wD q n.ins=a1 at*
 generalize wD q n.outs=a2 at*
 generalize wD q n.locals=a3 at*
 generalize wE q n.eqs=a4 at*
 generalize wX q n.assume=a5 at*
 generalize wX q n.ensure=a6 at*
 split
 ·have:=hF (q-(w+a1+a2+a3+a4+a5+a6)) (by omega) n.autos (by omega)
  omega
 ·omega
set_option maxHeartbeats 4000000 in
theorem wgP_sound (p:Prog) (hw:(T.ag (progC p)).w≤100000000) (q:Nat) (hq1:1≤q) (hq:q≤1500):Pure Tryz.prog 22 [.t (.ag (progC p)),.i q] (.i (wgP q p:Nat)):=by
 obtain⟨hP,hln,hpl⟩:=smallP_of hw
 have l1:(T.sl 2 (p.enums.map enT)).w+(nodesT p.nodes).w≤(T.ag (progC p)).w:=by rw[w_ag];simp only[progC,List.map_cons,List.map_nil,List.sum_cons,List.sum_nil];omega
 have le1:=w_lenM enT 2 p.enums
 have hme:(p.enums.map enT).length=p.enums.length:=List.length_map _
 have hml:(p.nodes.map nodT).length=p.nodes.length:=List.length_map _
 have hten:∀u∈p.enums,(u.tags.map T.s).length≤100000000:=fun u hu=>by
  have h1:=w_inM (f:=enT) (sz:=2) hu
  have h2:=(tag_w (u:=u)).2.2
  rw[List.length_map];omega
 obtain⟨B,hB,hF⟩:∃B,B=1000000000+2000*100000000/\∀(q:Nat),q≤1500->∀l:List Auto,(T.sl 1 (l.map autoT)).w≤100000000->wgA 100000000 q l≤B:=⟨_,rfl,wgA_le 100000000⟩
 have hA:=fun l h=>wgA_sound 100000000 l (Nat.le_refl _) h
 unfold wgP
 generalize wgA 100000000=F at*
 unfold progC
 refine Sound.of tabOk Tryz.func22 (by kernel_rfl) rfl rfl ?_
 repeat' (first|refine wkt ?_|refine wk ?_|exact wkc|intro hc|refine wk2 ?_ ?_|fail)
 refine TR.fin (id:=0) (EF:=[(1,.i q),(2,.cp [.sl 2 (p.enums.map enT),nodesT p.nodes] 0),(5,.i (wgs (fun w (u:En)=>w+(u.tags.map T.s).length) q p.enums ((p.enums.map enT).length+(p.nodes.map nodT).length):Nat))]) (GF:=[]) (TR.loopN p.enums.length (fun _=>True) (fun k=>[(1,.i q),(2,.cp [.sl 2 (p.enums.map enT),nodesT p.nodes] 0),(5,.i (wgs (fun w (u:En)=>w+(u.tags.map T.s).length) q (p.enums.take k) ((p.enums.map enT).length+(p.nodes.map nodT).length):Nat)),(6,.i k)]) (fun _=>[]) trivial (fun k hlt _=>?_) (fun _=>?_)) ?_
 ·have hat:=at_map enT hlt
  have htk:=hten _ (List.getElem_mem hlt)
  have hb:wgs (fun w (u:En)=>w+(u.tags.map T.s).length) q (p.enums.take k) ((p.enums.map enT).length+(p.nodes.map nodT).length)≤300000000:=wgs_le _ _ (by omega) fun n hn u hu=>by have:=hten u (List.mem_of_mem_take hu);omega
  by_cases hn:wgs (fun w (u:En)=>w+(u.tags.map T.s).length) q (p.enums.take k) ((p.enums.map enT).length+(p.nodes.map nodT).length)<q
  ·have hs:=wgs_take hlt hn
   generalize wgs (fun w (u:En)=>w+(u.tags.map T.s).length) q (p.enums.take k) ((p.enums.map enT).length+(p.nodes.map nodT).length)=w at*
   generalize p.enums[k]=u at*
   unfold enT at hat
   repeat' (first|refine wkt ?_|refine wk ?_|exact wkc|intro hc|refine wk2 ?_ ?_|fail)
   exact LoopK.nextN hlt trivial ⟨rfl,rfl,by(try dsimp only);rw[hs];rfl,rfl,trivial⟩
  ·have hs:=wgs_done hn
   generalize wgs (fun w (u:En)=>w+(u.tags.map T.s).length) q (p.enums.take k) ((p.enums.map enT).length+(p.nodes.map nodT).length)=w at*
   rw[hs]
   repeat' (first|refine wkt ?_|refine wk ?_|exact wkc|intro hc|refine wk2 ?_ ?_|fail)
   exact⟨rfl,⟨rfl,rfl,rfl,trivial⟩,rfl⟩
 ·rw[List.take_length]
  repeat' (first|refine wkt ?_|refine wk ?_|exact wkc|intro hc|refine wk2 ?_ ?_|fail)
  all_goals exact⟨rfl,⟨rfl,rfl,rfl,trivial⟩,rfl⟩
 have hw0:wgs (fun w (u:En)=>w+(u.tags.map T.s).length) q p.enums ((p.enums.map enT).length+(p.nodes.map nodT).length)≤300000000:=wgs_le _ _ (by omega) fun n hn u hu=>by have:=hten u hu;omega
 generalize wgs (fun w (u:En)=>w+(u.tags.map T.s).length) q p.enums ((p.enums.map enT).length+(p.nodes.map nodT).length)=w0 at*
 repeat' (first|refine wkt ?_|refine wk ?_|exact wkc|intro hc|refine wk2 ?_ ?_|fail)
 refine TR.fin (id:=2) (EF:=[(5,.i (wgs (ndW F q) q p.nodes w0:Nat))]) (GF:=[]) (TR.loopN p.nodes.length (fun _=>True) (fun k=>[(1,.i q),(2,.cp [.sl 2 (p.enums.map enT),nodesT p.nodes] 0),(5,.i (wgs (ndW F q) q (p.nodes.take k) w0:Nat)),(7,.i k)]) (fun _=>[]) trivial (fun k hlt _=>?_) (fun _=>?_)) ?_
 ·have hat:=at_nod hlt
  have hnw:=hln _ (List.getElem_mem hlt)
  have hb:wgs (ndW F q) q (p.nodes.take k) w0≤B+2000:=wgs_le _ _ (by omega) fun n hn u hu=>ndW_le hF (by omega) hq hn (hln u (List.mem_of_mem_take hu))
  by_cases hn:wgs (ndW F q) q (p.nodes.take k) w0<q
  ·have hs:=wgs_take hlt hn
   generalize wgs (ndW F q) q (p.nodes.take k) w0=w at*
   generalize p.nodes[k]=n at*
   rw[ndW.eq_1 F q w n]at hs
   have w4:=w_nod n
   have d1:=decl_w8 (l:=n.ins) (by omega)
   have d2:=decl_w8 (l:=n.outs) (by omega)
   have d3:=decl_w8 (l:=n.locals) (by omega)
   have e:=equ_w8 (l:=n.eqs) (by omega)
   have x1:=ex_w8 (l:=n.assume) (by omega)
   have x2:=ex_w8 (l:=n.ensure) (by omega)
   have b1:=wD_le hq d1.1 d1.2
   have b2:=wD_le hq d2.1 d2.2
   have b3:=wD_le hq d3.1 d3.2
   have b4:=wE_le hq e.1 e.2
   have b5:=wX_le hq x1.1 x1.2
   have b6:=wX_le hq x2.1 x2.2
   have c1:=wD_sound q hq1 hq n.ins d1.1 d1.2
   have c2:=wD_sound q hq1 hq n.outs d2.1 d2.2
   have c3:=wD_sound q hq1 hq n.locals d3.1 d3.2
   have c4:=wE_sound q hq1 hq n.eqs e.1 e.2
   have c5:=wX_sound q hq1 hq n.assume x1.1 x1.2
   have c6:=wX_sound q hq1 hq n.ensure x2.1 x2.2
   have hi:=hA n.autos (by omega)
   have hFs:=fun q' hq'=>hF q' hq' n.autos (by omega)
   clear hA hF hln hten d1 d2 d3 e x1 x2 w4
   generalize wD q n.ins=a1 at*
   generalize wD q n.outs=a2 at*
   generalize wD q n.locals=a3 at*
   generalize wE q n.eqs=a4 at*
   generalize wX q n.assume=a5 at*
   generalize wX q n.ensure=a6 at*
   unfold nodC at hat
   by_cases hn3:w+a1+a2+a3+a4+a5+a6<q
   ·rw[if_pos hn3]at hs
    have hi:=hi (q-(w+a1+a2+a3+a4+a5+a6)) (by omega) (by omega)
    have hFs:=hFs (q-(w+a1+a2+a3+a4+a5+a6)) (by omega)
    generalize F (q-(w+a1+a2+a3+a4+a5+a6)) n.autos=fz at*
    rw[show((q-(w+a1+a2+a3+a4+a5+a6):Nat):Int)=(q:Int)-((w+a1+a2+a3+a4+a5+a6:Nat):Int) by omega]at hi
    repeat' (first|refine wkt ?_|refine wka ?_|refine rg [.i w,.cp [.s n.name,declsT n.ins,declsT n.outs,declsT n.locals,.sl 7 (n.eqs.map equT),.sl 1 (n.autos.map autoT),.sl 6 (n.assume.map exT),.sl 6 (n.ensure.map exT)] 1,.t (declsT n.ins),.i q,.i a1,.i (w+a1:Nat),.cp [.s n.name,declsT n.ins,declsT n.outs,declsT n.locals,.sl 7 (n.eqs.map equT),.sl 1 (n.autos.map autoT),.sl 6 (n.assume.map exT),.sl 6 (n.ensure.map exT)] 2,.t (declsT n.outs),.i q,.i a2,.i (w+a1+a2:Nat),.cp [.s n.name,declsT n.ins,declsT n.outs,declsT n.locals,.sl 7 (n.eqs.map equT),.sl 1 (n.autos.map autoT),.sl 6 (n.assume.map exT),.sl 6 (n.ensure.map exT)] 3,.t (declsT n.locals),.i q,.i a3,.i (w+a1+a2+a3:Nat),.cp [.s n.name,declsT n.ins,declsT n.outs,declsT n.locals,.sl 7 (n.eqs.map equT),.sl 1 (n.autos.map autoT),.sl 6 (n.assume.map exT),.sl 6 (n.ensure.map exT)] 4,.t (.sl 7 (n.eqs.map equT)),.i q,.i a4,.i (w+a1+a2+a3+a4:Nat),.cp [.s n.name,declsT n.ins,declsT n.outs,declsT n.locals,.sl 7 (n.eqs.map equT),.sl 1 (n.autos.map autoT),.sl 6 (n.assume.map exT),.sl 6 (n.ensure.map exT)] 6,.t (.sl 6 (n.assume.map exT)),.i q,.i a5,.i (w+a1+a2+a3+a4+a5:Nat),.cp [.s n.name,declsT n.ins,declsT n.outs,declsT n.locals,.sl 7 (n.eqs.map equT),.sl 1 (n.autos.map autoT),.sl 6 (n.assume.map exT),.sl 6 (n.ensure.map exT)] 7,.t (.sl 6 (n.ensure.map exT)),.i q,.i a6,.i (w+a1+a2+a3+a4+a5+a6:Nat),.i (w+a1+a2+a3+a4+a5+a6:Nat)] ?_ ?_|refine wv c1 ?_|refine wv c2 ?_|refine wv c3 ?_|refine wv c4 ?_|refine wv c5 ?_|refine wv c6 ?_|refine wv hi ?_|exact trivial|exact And.intro rfl rfl|refine And.intro (fun H env=>?_) ?_|refine wk ?_|exact wkc|intro hc|refine wk2 ?_ ?_|fail)
    exact LoopK.nextN hlt trivial ⟨rfl,rfl,by(try dsimp only);rw[hs];rfl,rfl,trivial⟩
   ·rw[if_neg hn3]at hs
    clear hi hFs
    repeat' (first|refine wkt ?_|refine wka ?_|refine rg [.i w,.cp [.s n.name,declsT n.ins,declsT n.outs,declsT n.locals,.sl 7 (n.eqs.map equT),.sl 1 (n.autos.map autoT),.sl 6 (n.assume.map exT),.sl 6 (n.ensure.map exT)] 1,.t (declsT n.ins),.i q,.i a1,.i (w+a1:Nat),.cp [.s n.name,declsT n.ins,declsT n.outs,declsT n.locals,.sl 7 (n.eqs.map equT),.sl 1 (n.autos.map autoT),.sl 6 (n.assume.map exT),.sl 6 (n.ensure.map exT)] 2,.t (declsT n.outs),.i q,.i a2,.i (w+a1+a2:Nat),.cp [.s n.name,declsT n.ins,declsT n.outs,declsT n.locals,.sl 7 (n.eqs.map equT),.sl 1 (n.autos.map autoT),.sl 6 (n.assume.map exT),.sl 6 (n.ensure.map exT)] 3,.t (declsT n.locals),.i q,.i a3,.i (w+a1+a2+a3:Nat),.cp [.s n.name,declsT n.ins,declsT n.outs,declsT n.locals,.sl 7 (n.eqs.map equT),.sl 1 (n.autos.map autoT),.sl 6 (n.assume.map exT),.sl 6 (n.ensure.map exT)] 4,.t (.sl 7 (n.eqs.map equT)),.i q,.i a4,.i (w+a1+a2+a3+a4:Nat),.cp [.s n.name,declsT n.ins,declsT n.outs,declsT n.locals,.sl 7 (n.eqs.map equT),.sl 1 (n.autos.map autoT),.sl 6 (n.assume.map exT),.sl 6 (n.ensure.map exT)] 6,.t (.sl 6 (n.assume.map exT)),.i q,.i a5,.i (w+a1+a2+a3+a4+a5:Nat),.cp [.s n.name,declsT n.ins,declsT n.outs,declsT n.locals,.sl 7 (n.eqs.map equT),.sl 1 (n.autos.map autoT),.sl 6 (n.assume.map exT),.sl 6 (n.ensure.map exT)] 7,.t (.sl 6 (n.ensure.map exT)),.i q,.i a6,.i (w+a1+a2+a3+a4+a5+a6:Nat),.i (w+a1+a2+a3+a4+a5+a6:Nat)] ?_ ?_|refine wv c1 ?_|refine wv c2 ?_|refine wv c3 ?_|refine wv c4 ?_|refine wv c5 ?_|refine wv c6 ?_|exact trivial|exact And.intro rfl rfl|refine And.intro (fun H env=>?_) ?_|refine wk ?_|exact wkc|intro hc|refine wk2 ?_ ?_|fail)
    exact LoopK.nextN hlt trivial ⟨rfl,rfl,by(try dsimp only);rw[hs];rfl,rfl,trivial⟩
  ·have hs:=wgs_done hn
   generalize wgs (ndW F q) q (p.nodes.take k) w0=w at*
   rw[hs]
   repeat' (first|refine wkt ?_|refine wk ?_|exact wkc|intro hc|refine wk2 ?_ ?_|fail)
   exact⟨rfl,⟨rfl,trivial⟩,rfl⟩
 ·rw[List.take_length]
  repeat' (first|refine wkt ?_|refine wk ?_|exact wkc|intro hc|refine wk2 ?_ ?_|fail)
  all_goals exact⟨rfl,⟨rfl,trivial⟩,rfl⟩
 ·repeat' (first|refine wkt ?_|refine wk ?_|exact wkc|intro hc|refine wk2 ?_ ?_|fail)
  exact wkr
theorem sameN_sound(a b:List Str)(ha:a.length≤1000000000):Pure Tryz.prog 16 [.t (strsT a),.t (strsT b)] (.b (decide (a=b))):=by
 have hma:(a.map T.s).length=a.length:=List.length_map _
 have hmb:(b.map T.s).length=b.length:=List.length_map _
 by_cases hl:a.length=b.length
 ·refine Sound.of tabOk Tryz.func16 (by kernel_rfl) rfl rfl ?_
  repeat' (first|refine wk ?_|exact wkc|intro hc|refine wk2 ?_ ?_|fail|fail)
  all_goals try(exfalso;omega)
  refine TR.loopN a.length (fun k=>a.take k=b.take k) (fun k=>[(0,.t (strsT a)),(1,.t (strsT b)),(5,.i k)]) (fun _=>[]) rfl (fun k hlt hk=>?_) (fun hk=>?_)
  ·have hx:=at_strs hlt
   have hy:=at_strs (l:=b) (show k<b.length by omega)
   have h1:=take_at hlt
   have h2:=take_at (l:=b) (show k<b.length by omega)
   have hne:a[k]≠b[k]'(by omega)->a≠b:=fun h e=>h (by subst e;rfl)
   generalize a[k]=u at*
   generalize b[k]'(by omega)=v at*
   repeat' (first|refine wk ?_|exact wkc|intro hc|refine wk2 ?_ ?_|fail|fail)
   ·rw[decide_eq_false (hne hc)];exact wkr
   ·refine LoopK.nextN hlt ?_
    rw[h1,h2,hk,show u=v by simpa using hc]
  ·rw[List.take_length,hl,List.take_length]at hk
   rw[decide_eq_true hk]
   repeat' (first|refine wk ?_|exact wkc|intro hc|refine wk2 ?_ ?_|fail|fail)
   exact wkr
 ·rw[decide_eq_false (fun e=>hl (by rw[e]))]
  refine Sound.of tabOk Tryz.func16 (by kernel_rfl) rfl rfl ?_
  repeat' (first|refine wk ?_|exact wkc|intro hc|refine wk2 ?_ ?_|fail|fail)
  all_goals first
   | exact wkr
   | (exfalso;omega)
def heavy13(p:Prog):Bool:=decide (1200≤wgP 1200 p)
theorem heavy13_sound(p:Prog)(hw:(T.ag (progC p)).w≤100000000):Pure Tryz.prog 7 [.t (.ag (progC p))] (.b (heavy13 p)):=by
 have hs:=wgP_sound p hw 1200 (by omega) (by omega)
 unfold heavy13
 generalize wgP 1200 p=z at*
 unfold progC at*
 by_cases h:1200≤z
 ·rw[decide_eq_true h]
  refine Sound.of tabOk Tryz.func7 (by kernel_rfl) rfl rfl ?_
  repeat' (first|refine wkt ?_|refine wk ?_|exact wkc|intro hc|refine wk2 ?_ ?_|refine wv hs ?_|fail)
  all_goals first
   | exact wkr
   | (exfalso;omega)
 ·rw[decide_eq_false h]
  refine Sound.of tabOk Tryz.func7 (by kernel_rfl) rfl rfl ?_
  repeat' (first|refine wkt ?_|refine wk ?_|exact wkc|intro hc|refine wk2 ?_ ?_|refine wv hs ?_|fail)
  all_goals first
   | exact wkr
   | (exfalso;omega)
theorem types13_sound(z:Int)(hz:z=0\/z=9):Pure Tryz.prog 19 [.i z,.i z,.i z] (.b (decide (z=9))):=by
 rcases hz with rfl|rfl
 ·refine Sound.of tabOk Tryz.func19 (by kernel_rfl) rfl rfl ?_
  repeat' (first|refine wkt ?_|refine wk ?_|exact wkc|intro hc|refine wk2 ?_ ?_|fail|fail)
  exact wkr
 ·refine Sound.of tabOk Tryz.func19 (by kernel_rfl) rfl rfl ?_
  repeat' (first|refine wkt ?_|refine wk ?_|exact wkc|intro hc|refine wk2 ?_ ?_|fail|fail)
  exact wkr
set_option maxHeartbeats 4000000 in
theorem lives_sound:Pure Tryz.prog 8 [] (.b true):=by
 have c0:=startsX_sound _ axW0
 have c1:=startsX_sound _ axW1
 have c2:=startsX_sound _ axW2
 rw[show startsX (oneP (ax 0))=((0,-1),12) from nstarts 0 (by decide),axP0]at c0
 rw[show startsX (oneP (ax 1))=((0,0),12) from nstarts 1 (by decide),axP1]at c1
 rw[show startsX (oneP (ax 2))=((0,0),0) from nstarts 2 (by decide),axP2]at c2
 have l0:=lateP_sound _ axW0 (i64 0)
 rw[nlate,axP0]at l0
 have o1:=lateOf_sound _ axW0 (i64 0) (arrE kA xV) smallA.1 smallA.2
 have o2:=lateOf_sound _ axW0 (i64 0) xV (smallV [120] (by decide)).1 (smallV [120] (by decide)).2
 rw[show lateOf (oneP (ax 0)) (i64 0) (arrE kA xV)=(false,0) from nlof true,axP0,exC_of (exT_arr kA xV),exT_kA,exT_xV]at o1
 rw[show lateOf (oneP (ax 0)) (i64 0) xV=(true,0) from nlof false,axP0,exC_of exT_xV]at o2
 have s1:=sameN_sound [[120]] [[120]] (by decide)
 rw[decide_eq_true rfl]at s1
 have v1:=var13_sound [97]
 have v2:=var13_sound [120]
 have p1:=pre13_sound [T.i 2,T.i 0,T.i 0,T.i 0,T.s [97],.sl 6 []] rfl
 have p2:=pre13_sound [T.i 5,T.i 0,T.i 0,T.i 0,T.s [],.sl 6 [vT' 97]] rfl
 have a1:=arrow13_sound [T.i 2,T.i 0,T.i 0,T.i 0,T.s [97],.sl 6 []] [T.i 5,T.i 0,T.i 0,T.i 0,T.s [],.sl 6 [vT' 97]] rfl rfl
 have a2:=arrow13_sound [T.i 2,T.i 0,T.i 0,T.i 0,T.s [97],.sl 6 []] [T.i 2,T.i 0,T.i 0,T.i 0,T.s [120],.sl 6 []] rfl rfl
 have n0:=one13_sound [T.i 5,T.i 0,T.i 0,T.i 0,T.s [],.sl 6 [vT' 97]] rfl
 have n1:=one13_sound [T.i 5,T.i 0,T.i 0,T.i 0,T.s [],.sl 6 [prT (vT' 97)]] rfl
 have n2:=one13_sound [T.i 6,T.i 0,T.i 0,T.i 0,T.s [],.sl 6 [vT' 97,prT (vT' 97)]] rfl
 dsimp only[nres,i64,Bool.not_true,Bool.not_false,List.map_cons,List.map_nil]at c0 c1 c2 l0 o1 o2 s1
 refine Sound.of tabOk Tryz.func8 (by kernel_rfl) rfl rfl ?_
 repeat' (first|refine wkt ?_|refine wv v1 ?_|refine wv p1 ?_|refine wv p2 ?_|refine wv n0 ?_|refine wv n1 ?_|refine wv c0 ?_|refine wv c1 ?_|exact wkc|intro hc|refine wk2 ?_ ?_|fail)
 refine TR.regionM (envF:=?envF) (HF:=[.cells [.i 0,.i 0]]) [(.t (vT' 97),false),(.t (vT' 97),false),(.t (prT (vT' 97)),false),(.t (arT (vT' 97) (prT (vT' 97))),false),(.t (oneT [T.i 6,T.i 0,T.i 0,T.i 0,T.s [],.sl 6 [vT' 97,prT (vT' 97)]]),false),(.tup [.t (.ag [T.i 0,T.i 0]),.i 0],false),(.tup [.t (.ag [T.i 0,T.i 0]),.i 0],false),(.t (.ag [T.i 0,T.i 0]),false),(.i 0,false),(.ref 0 0,true),(.any,true),(.i 0,false)] [[],[.cells [.i 0,.i 0]],[.cells [.i 0,.i 0]]] hmix ?hB ?h0 ?hp ?hF ?hE ?hK
 case hB=>(dsimp only[List.map];decide +kernel)
 case h0=>exact rfl
 case hF=>exact rfl
 case hE=>exact rfl
 case hp=>
  repeat' (first|(apply TO.alloc tabOk;exact rfl;exact rfl;exact rfl)|(apply TO.store tabOk;exact rfl;exact rfl;exact rfl;exact rfl;exact rfl;exact rfl;exact Nat.le_of_ble_eq_true rfl;exact rfl;exact Nat.le_of_ble_eq_true rfl;exact rfl)|refine wkt ?_|refine wv v1 ?_|refine wv v2 ?_|refine wv p1 ?_|refine wv p2 ?_|refine wv a1 ?_|refine wv a2 ?_|refine wv n0 ?_|refine wv n1 ?_|refine wv n2 ?_|refine wv c0 ?_|refine wv c1 ?_|refine wv c2 ?_|refine wv l0 ?_|refine wv o1 ?_|refine wv o2 ?_|refine wv s1 ?_|exact trivial|exact And.intro rfl rfl|refine And.intro (fun H env=>?_) ?_|refine And.intro (fun env=>?_) ?_|refine wk ?_|fail)
  done
 case hK=>
 repeat' (first|refine wEqW ?_|refine rg [.t (vT' 97),.t (prT (vT' 97)),.t (oneT [T.i 5,T.i 0,T.i 0,T.i 0,T.s [],.sl 6 [vT' 97]]),.t (vT' 97),.t (vT' 120),.t (arT (vT' 97) (vT' 120)),.tup [.b false,.i 0],.tup [.b false,.i 0],.b false,.i 0,.b false,.i 0] ?_ ?_|refine wkt ?_|refine wv v1 ?_|refine wv v2 ?_|refine wv p1 ?_|refine wv p2 ?_|refine wv a1 ?_|refine wv a2 ?_|refine wv n0 ?_|refine wv n1 ?_|refine wv n2 ?_|refine wv c0 ?_|refine wv c1 ?_|refine wv c2 ?_|refine wv l0 ?_|refine wv o1 ?_|refine wv o2 ?_|refine wv s1 ?_|exact trivial|exact And.intro rfl rfl|refine And.intro (fun H env=>?_) ?_|refine wk ?_|exact wkc|intro hc|refine wk2 ?_ ?_|fail)
 all_goals exact wkr
theorem lateP_len{p:Prog}(hP:SmallP p)(node:I64):(lateP p node).1.length≤1000000000:=by
 unfold lateP
 split
 ·simp
 ·split
  ·simp
  ·split
   ·rename_i n hn
    have hN:=hP.each n (List.mem_of_getElem? hn)
    have h1:=hN.ins
    have h2:=hN.outs
    have h3:=hN.locals
    have:=lateN_len (latesX n) (varsL n)
    unfold lateN at this
    refine Nat.le_trans this ?_
    simp[varsL];omega
   ·simp
set_option maxHeartbeats 4000000 in
theorem startsOutputs_law (p:Prog) (hw:(T.ag (progC p)).w≤100000000):Pure Tryz.prog 6 [.t (.ag (progC p))] (.b true):=by
 have h0:=lives_sound
 have hh:=heavy13_sound p hw
 have hs:=startsX_sound p hw
 have hcl:=clocksX_sound p hw
 obtain⟨hP,hln,hpl⟩:=smallP_of hw
 have hml:(p.nodes.map nodT).length=p.nodes.length:=List.length_map _
 have hlaw:=@outputs_law p
 have hlate:∀k:Nat,(k:Int)≤9223372036854775807->Pure Tryz.prog 12 [.t (.ag (progC p)),.i k] (.tup [.t (.sl 1 ((lateP p (nI k)).1.map T.s)),.i (lateP p (nI k)).2]):=fun k hk=>by
  have:=lateP_sound p hw (nI k)
  rw[nI_val hk]at this
  exact this
 have hlen:=fun k=>lateP_len hP (nI k)
 generalize heavy13 p=hv at*
 generalize startsX p=z at*
 generalize clocksX p=y at*
 obtain⟨⟨z1,z2⟩,z3⟩:=z
 obtain⟨⟨y1,y2⟩,y3⟩:=y
 simp only at hs hcl hlaw
 have hpc:progC p=[.sl 2 (p.enums.map enT),nodesT p.nodes]:=rfl
 rw[hpc]at*
 cases hv with
 | true=>
   refine Sound.of tabOk Tryz.func6 (by kernel_rfl) rfl rfl ?_
   repeat' (first|refine wkt ?_|refine wk ?_|exact wkc|intro hc|refine wk2 ?_ ?_|refine wv hh ?_|refine wv h0 ?_|fail)
   exact wkr
 | false=>
 by_cases hz:z3=0
 ·obtain⟨hy,hl⟩:=hlaw hz
  subst hz hy
  refine Sound.of tabOk Tryz.func6 (by kernel_rfl) rfl rfl ?_
  repeat' (first|refine wkt ?_|refine wk ?_|exact wkc|intro hc|refine wk2 ?_ ?_|refine wv hh ?_|refine wv h0 ?_|refine wv hs ?_|refine wv hcl ?_|fail)
  refine TR.loopN p.nodes.length (fun _=>True) (fun k=>[(1,.cp [.sl 2 (p.enums.map enT),nodesT p.nodes] 0),(7,.i k)]) (fun _=>[]) trivial (fun k hlt _=>?_) (fun _=>?_)
  ·have hk63:(k:Int)≤9223372036854775807:=by omega
   have hx:=at_nod hlt
   have hL:=hlate k hk63
   obtain⟨q1,q2⟩:=hl k hlt hk63
   have hlen:=hlen k
   have how:(p.nodes[k].outs.map declT).length≤1000000000:=by
    have h1:=w_nod p.nodes[k]
    have h2:=w_lenM declT 3 p.nodes[k].outs
    have h3:(declsT p.nodes[k].outs).w=(T.sl 3 (p.nodes[k].outs.map declT)).w:=rfl
    have h4:=hln _ (List.getElem_mem hlt)
    rw[List.length_map];omega
   rw[q1]at hL
   generalize (lateP p (nI k)).1=V at*
   generalize p.nodes[k]=n at*
   have hmo:(n.outs.map declT).length=n.outs.length:=List.length_map _
   unfold nodC at hx
   repeat' (first|refine wkt ?_|refine wk ?_|exact wkc|intro hc|refine wk2 ?_ ?_|refine wv hL ?_|fail)
   refine TR.loopN n.outs.length (fun _=>True) (fun j=>[(1,.cp [.sl 2 (p.enums.map enT),nodesT p.nodes] 0),(7,.i k),(8,.t (.sl 1 (V.map T.s))),(10,.i j)]) (fun _=>[]) trivial (fun j hlj _=>?_) (fun _=>?_)
   ·have hx2:=at_decl hlj
    have hs2:=has6_sound V n.outs[j].name (by omega)
    rw[decide_eq_false (q2 _ (List.getElem_mem hlj))]at hs2
    generalize n.outs[j]=d at*
    unfold declC at hx2
    repeat' (first|refine wkt ?_|refine wk ?_|exact wkc|intro hc|refine wk2 ?_ ?_|refine wv hs2 ?_|fail)
    exact LoopK.nextN hlj trivial
   ·repeat' (first|refine wkt ?_|refine wk ?_|exact wkc|intro hc|refine wk2 ?_ ?_|fail)
    exact LoopK.nextN hlt trivial
  ·repeat' (first|refine wkt ?_|refine wk ?_|exact wkc|intro hc|refine wk2 ?_ ?_|refine wv h0 ?_|fail)
   exact wkr
 ·refine Sound.of tabOk Tryz.func6 (by kernel_rfl) rfl rfl ?_
  repeat' (first|refine wkt ?_|refine wk ?_|exact wkc|intro hc|refine wk2 ?_ ?_|refine wv hh ?_|refine wv h0 ?_|refine wv hs ?_|fail)
  all_goals first
   | exact wkr
   | (exfalso;omega)
theorem opE_small{x:Ex}{k:I64}{l:List Ex}(h1:wEx x≤100000000)(h2:∀y∈flat x,y.name.length≤1000000000)(hl:l=[x]\/l=[x,x]):wEx (opE k l)≤1000000000/\∀y∈flat (opE k l),y.name.length≤1000000000:=by
 have hfl:flat (opE k l)=opE k l::flats l:=by rw[flat_eq];rfl
 constructor
 ·rw[<-flat_len,hfl]
  rcases hl with rfl|rfl <;> simp[flats,flat_len] <;> omega
 ·intro y hy
  rw[hfl]at hy
  rcases List.mem_cons.1 hy with rfl|hy
  ·show([]:Str).length≤_;simp
  ·rcases hl with rfl|rfl <;> simp[flats]at hy <;> exact h2 y hy
set_option maxHeartbeats 4000000 in
theorem startsGuards_law (p:Prog) (hw:(T.ag (progC p)).w≤100000000) (node:I64) (x:Ex) (hx1:wEx x≤100000000) (hx2:∀y∈flat x,y.name.length≤1000000000):
  Pure Tryz.prog 5 [.t (.ag (progC p)),.i node.1,.t (.ag (exC x))] (.b true):=by
 have h0:=lives_sound
 have hh:=heavy13_sound p hw
 have hwg:=weigh_sound' _ x (Nat.le_refl _) 101 (by omega) (by omega)
 have o0:=lateOf_sound p hw node x (by omega) hx2
 have s6:=opE_small (k:=i64 6) hx1 hx2 (.inr rfl)
 have s5:=opE_small (k:=i64 5) hx1 hx2 (.inl rfl)
 have s7:=opE_small (k:=i64 7) hx1 hx2 (.inr rfl)
 have o6:=lateOf_sound p hw node (opE (i64 6) [x,x]) s6.1 s6.2
 have o5:=lateOf_sound p hw node (opE (i64 5) [x]) s5.1 s5.2
 have o7:=lateOf_sound p hw node (opE (i64 7) [x,x]) s7.1 s7.2
 have hlaw:=@guards_law p node x
 clear s6 s5 s7
 have hC:∀(k:I64) (l:List Ex),exC (opE k l)=[T.i k.1,T.i 0,T.i 0,T.i 0,T.s [],.sl 6 (l.map exT)]:=fun k l=>rfl
 rw[hC]at o6 o5 o7
 simp only[List.map_cons,List.map_nil,exT_eq]at o6 o5 o7
 have a1:=arrow13_sound (exC x) (exC x) rfl rfl
 have p1:=pre13_sound (exC x) rfl
 generalize heavy13 p=hv at*
 have g0:∀r,lateOf p node x=r->r.2=0->_:=fun r hr h=>hlaw (by rw[hr];exact h)
 generalize hr0:lateOf p node x=r0 at*
 obtain⟨r01,r02⟩:=r0
 generalize min (wEx x) 101=wx at*
 simp only at o0
 have hpc:progC p=[.sl 2 (p.enums.map enT),nodesT p.nodes]:=rfl
 have hxc:exC x=[T.n x.kind,T.n x.op,T.n x.t,T.n x.v,.s x.name,.sl 6 (x.args.map exT)]:=rfl
 by_cases hz:r02=0
 ·obtain⟨z,hz09,hq⟩:=hlaw hz
  have q6:=hq (i64 6) [x,x] (.inr ⟨.inl rfl,rfl⟩)
  have q5:=hq (i64 5) [x] (.inl ⟨rfl,rfl⟩)
  have q7:=hq (i64 7) [x,x] (.inr ⟨.inr rfl,rfl⟩)
  have ht:=types13_sound z hz09
  subst hz
  clear hlaw hq g0 hr0
  generalize lateOf p node (opE (i64 6) [x,x])=r6 at*
  generalize lateOf p node (opE (i64 5) [x])=r5 at*
  generalize lateOf p node (opE (i64 7) [x,x])=r7 at*
  obtain⟨b6,e6⟩:=r6
  obtain⟨b5,e5⟩:=r5
  obtain⟨b7,e7⟩:=r7
  simp only[Prod.mk.injEq]at q6 q5 q7 o6 o5 o7
  rw[show decide ((i64 6).1=5)=false from rfl]at q6
  rw[show decide ((i64 5).1=5)=true from rfl]at q5
  rw[show decide ((i64 7).1=5)=false from rfl]at q7
  dsimp only[i64]at o6 o5 o7
  have b6f:z=0->b6=false:=fun h=>by rcases q6 with q|q;exact q.1;exact q.2 h
  have b7f:z=0->b7=false:=fun h=>by rcases q7 with q|q;exact q.1;exact q.2 h
  have b5f:z=0->e5≠3->b5=true:=fun h h3=>by rcases q5 with q|q;exact absurd q.2 h3;exact q.2 h
  have c6:e6=3\/e6=z:=by rcases q6 with q|q;exact .inl q.2;exact .inr q.1
  have c5:e5=3\/e5=z:=by rcases q5 with q|q;exact .inl q.2;exact .inr q.1
  have c7:e7=3\/e7=z:=by rcases q7 with q|q;exact .inl q.2;exact .inr q.1
  clear q6 q5 q7
  rw[hpc,hxc]at*
  cases hv with
  | true=>
    refine Sound.of tabOk Tryz.func5 (by kernel_rfl) rfl rfl ?_
    repeat' (first|refine wkt ?_|refine wk ?_|exact wkc|intro hc|refine wk2 ?_ ?_|refine wv hh ?_|refine wv h0 ?_|fail)
    exact wkr
  | false=>
  rcases hz09 with rfl|rfl
  ·have:=b6f rfl
   have:=b7f rfl
   subst b6 b7
   by_cases h53:e5=3
   ·refine Sound.of tabOk Tryz.func5 (by kernel_rfl) rfl rfl ?_
    repeat' (first|refine wkt ?_|refine rg [.t (.ag [.sl 2 (p.enums.map enT),nodesT p.nodes]),.i node.1,.t (.ag [T.n x.kind,T.n x.op,T.n x.t,T.n x.v,.s x.name,.sl 6 (x.args.map exT)]),.t (.ag [T.n x.kind,T.n x.op,T.n x.t,T.n x.v,.s x.name,.sl 6 (x.args.map exT)]),.t (arT (.ag [T.n x.kind,T.n x.op,T.n x.t,T.n x.v,.s x.name,.sl 6 (x.args.map exT)]) (.ag [T.n x.kind,T.n x.op,T.n x.t,T.n x.v,.s x.name,.sl 6 (x.args.map exT)])),.tup [.b false,.i e6],.tup [.b false,.i e6],.b false,.i e6,.b false,.i e6] ?_ ?_|refine rg [.t (.ag [.sl 2 (p.enums.map enT),nodesT p.nodes]),.i node.1,.t (.ag [T.n x.kind,T.n x.op,T.n x.t,T.n x.v,.s x.name,.sl 6 (x.args.map exT)]),.t (prT (.ag [T.n x.kind,T.n x.op,T.n x.t,T.n x.v,.s x.name,.sl 6 (x.args.map exT)])),.tup [.b b5,.i e5],.tup [.b b5,.i e5],.b b5,.i e5,.b b5,.i e5] ?_ ?_|refine wv hh ?_|refine wv h0 ?_|refine wv hwg ?_|refine wv o0 ?_|refine wv a1 ?_|refine wv p1 ?_|refine wv o6 ?_|refine wv o5 ?_|refine wv o7 ?_|refine wv ht ?_|exact trivial|exact And.intro rfl rfl|refine And.intro (fun H env=>?_) ?_|refine wk ?_|exact wkc|intro hc|refine wk2 ?_ ?_|fail)
    all_goals first
     | exact wkr
     | (exfalso;omega)
   ·have:=b5f rfl h53
    subst b5
    refine Sound.of tabOk Tryz.func5 (by kernel_rfl) rfl rfl ?_
    repeat' (first|refine wkt ?_|refine rg [.t (.ag [.sl 2 (p.enums.map enT),nodesT p.nodes]),.i node.1,.t (.ag [T.n x.kind,T.n x.op,T.n x.t,T.n x.v,.s x.name,.sl 6 (x.args.map exT)]),.t (.ag [T.n x.kind,T.n x.op,T.n x.t,T.n x.v,.s x.name,.sl 6 (x.args.map exT)]),.t (arT (.ag [T.n x.kind,T.n x.op,T.n x.t,T.n x.v,.s x.name,.sl 6 (x.args.map exT)]) (.ag [T.n x.kind,T.n x.op,T.n x.t,T.n x.v,.s x.name,.sl 6 (x.args.map exT)])),.tup [.b false,.i e6],.tup [.b false,.i e6],.b false,.i e6,.b false,.i e6] ?_ ?_|refine rg [.t (.ag [.sl 2 (p.enums.map enT),nodesT p.nodes]),.i node.1,.t (.ag [T.n x.kind,T.n x.op,T.n x.t,T.n x.v,.s x.name,.sl 6 (x.args.map exT)]),.t (prT (.ag [T.n x.kind,T.n x.op,T.n x.t,T.n x.v,.s x.name,.sl 6 (x.args.map exT)])),.tup [.b true,.i e5],.tup [.b true,.i e5],.b true,.i e5,.b true,.i e5] ?_ ?_|refine wv hh ?_|refine wv h0 ?_|refine wv hwg ?_|refine wv o0 ?_|refine wv a1 ?_|refine wv p1 ?_|refine wv o6 ?_|refine wv o5 ?_|refine wv o7 ?_|refine wv ht ?_|exact trivial|exact And.intro rfl rfl|refine And.intro (fun H env=>?_) ?_|refine wk ?_|exact wkc|intro hc|refine wk2 ?_ ?_|fail)
    all_goals first
     | exact wkr
     | (exfalso;omega)
  ·have ht':e6=9->e5=9->e7=9->Pure Tryz.prog 19 [.i e6,.i e5,.i e7] (.b true):=fun h1 h2 h3=>by rw[h1,h2,h3];exact ht
   refine Sound.of tabOk Tryz.func5 (by kernel_rfl) rfl rfl ?_
   repeat' (first|refine wkt ?_|refine rg [.t (.ag [.sl 2 (p.enums.map enT),nodesT p.nodes]),.i node.1,.t (.ag [T.n x.kind,T.n x.op,T.n x.t,T.n x.v,.s x.name,.sl 6 (x.args.map exT)]),.t (.ag [T.n x.kind,T.n x.op,T.n x.t,T.n x.v,.s x.name,.sl 6 (x.args.map exT)]),.t (arT (.ag [T.n x.kind,T.n x.op,T.n x.t,T.n x.v,.s x.name,.sl 6 (x.args.map exT)]) (.ag [T.n x.kind,T.n x.op,T.n x.t,T.n x.v,.s x.name,.sl 6 (x.args.map exT)])),.tup [.b b6,.i e6],.tup [.b b6,.i e6],.b b6,.i e6,.b b6,.i e6] ?_ ?_|refine rg [.t (.ag [.sl 2 (p.enums.map enT),nodesT p.nodes]),.i node.1,.t (.ag [T.n x.kind,T.n x.op,T.n x.t,T.n x.v,.s x.name,.sl 6 (x.args.map exT)]),.t (prT (.ag [T.n x.kind,T.n x.op,T.n x.t,T.n x.v,.s x.name,.sl 6 (x.args.map exT)])),.tup [.b b5,.i e5],.tup [.b b5,.i e5],.b b5,.i e5,.b b5,.i e5] ?_ ?_|refine wv hh ?_|refine wv h0 ?_|refine wv hwg ?_|refine wv o0 ?_|refine wv a1 ?_|refine wv p1 ?_|refine wv o6 ?_|refine wv o5 ?_|refine wv o7 ?_|refine wv (ht' (by omega) (by omega) (by omega)) ?_|exact trivial|exact And.intro rfl rfl|refine And.intro (fun H env=>?_) ?_|refine wk ?_|exact wkc|intro hc|refine wk2 ?_ ?_|fail)
   all_goals first
    | exact wkr
    | (exfalso;omega)
 ·clear hlaw g0 o6 o5 o7
  rw[hpc,hxc]at*
  cases hv with
  | true=>
    refine Sound.of tabOk Tryz.func5 (by kernel_rfl) rfl rfl ?_
    repeat' (first|refine wkt ?_|refine wk ?_|exact wkc|intro hc|refine wk2 ?_ ?_|refine wv hh ?_|refine wv h0 ?_|fail)
    exact wkr
  | false=>
    refine Sound.of tabOk Tryz.func5 (by kernel_rfl) rfl rfl ?_
    repeat' (first|refine wkt ?_|refine wk ?_|exact wkc|intro hc|refine wk2 ?_ ?_|refine wv hh ?_|refine wv h0 ?_|refine wv hwg ?_|refine wv o0 ?_|fail)
    all_goals first
     | exact wkr
     | (exfalso;omega)
end Go.Proofs.YtcbhlhmebbkgnaaGreat
