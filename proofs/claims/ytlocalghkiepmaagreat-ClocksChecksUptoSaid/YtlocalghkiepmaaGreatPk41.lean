import Derived.Test.YtlocalghkiepmaaGreatPk29
import Derived.Test.YtlocalghkiepmaaGreatPk33
import Derived.Test.YtlocalghkiepmaaGreatPk34
import Derived.Test.YtlocalghkiepmaaGreatPk35
import Derived.Test.YtlocalghkiepmaaGreatPk40
set_option linter.unusedSimpArgs false
set_option linter.unusedVariables false
namespace Go.Proofs.YtlocalghkiepmaaGreat
open Go Go.TL
attribute [local irreducible] TR TO Then InBlock RetK Sound LoopK Kf GG ThenL
def Rg(x:Int):Prop:=-1≤x/\x≤1000000000
theorem rg_firstI{α:Type}(g:α->Int):∀(l:List α),0≤(firstI g l).1/\(firstI g l).1≤l.length
 | []=>by simp[firstI]
 | x::l=>by
   have:=rg_firstI g l
   rw[firstI]
   simp only[List.length_cons]
   split
   ·split
    ·simp only;omega
    ·simp only;omega
   ·simp only;omega
theorem rg_foldN{α β:Type}(f:β->α->β×Int):∀(l:List α) (a:β),0≤foldN f a l/\foldN f a l≤l.length
 | [],_=>by simp[foldN]
 | x::l,a=>by
   have:=rg_foldN f l (f a x).1
   rw[foldN]
   simp only[List.length_cons]
   split <;> omega
theorem rg_nodeX(es:List En)(n:Nod)(h:n.eqs.length≤1000000000):Rg (nodeX es n).1:=by
 have:=rg_firstI (equE es) n.eqs
 unfold nodeX Rg
 split
 ·simp only;omega
 ·split
  ·omega
  ·simp only;omega
theorem rg_nodeT(p:Prog)(seen:List (Int×Str×Int))(i:Int)(n:Nod)(h:n.eqs.length≤1000000000):Rg (nodeT' p seen i n).1:=by
 unfold nodeT' Rg
 split
 ·simp only;omega
 ·unfold nodeS
  simp only[]
  split
  ·simp only;omega
  ·split
   ·simp only;omega
   ·split
    ·simp only
     have:=rg_foldN (equS p (seen++[(1,n.name,i)]) i [] ((n.ins.map Decl.name).foldl ins [])) n.eqs (declS (seen++[(1,n.name,i)]) [] lv0 (varsL n)).1
     omega
    ·simp only;omega
theorem rg_nodeTy(w:Plc)(n:Nod)(h:n.eqs.length≤1000000000):Rg (nodeTy w n).1:=by
 have:=rg_firstI (eqnT w) n.eqs
 unfold nodeTy Rg
 split
 ·omega
 ·simp only;omega
theorem rg_place(p:Prog):∀(l:List (Nod×Nat)) (st:List (Int×Str×Int)),(∀x∈l,x.2≤1000000000/\x.1.eqs.length≤1000000000)->Rg (placeN p st l).1/\Rg (placeN p st l).2
 | [],_,_=>by unfold placeN Rg;decide
 | x::l,st,h=>by
   rw[placeN]
   split
   ·exact rg_place p l _ fun y hy=>h y (by simp[hy])
   ·have:=h x (by simp)
    exact⟨by unfold Rg;simp only;omega,rg_nodeT p _ _ _ this.2⟩
theorem rg_tyNods(p:Prog):∀(l:List (Nod×Nat)),(∀x∈l,x.2≤1000000000/\x.1.eqs.length≤1000000000)->Rg (tyNods p l).1.1/\Rg (tyNods p l).1.2
 | [],_=>by unfold tyNods Rg;decide
 | x::l,h=>by
   rw[tyNods]
   split
   ·exact rg_tyNods p l fun y hy=>h y (by simp[hy])
   ·have:=h x (by simp)
    exact⟨by unfold Rg;simp only;omega,rg_nodeTy _ _ this.2⟩
theorem rg_typesX{p:Prog}(hl:p.nodes.length≤1000000000)(hn:∀n∈p.nodes,n.eqs.length≤1000000000):Rg (typesX p).1.1/\Rg (typesX p).1.2:=by
 have hz:∀x∈p.nodes.zipIdx,x.2≤1000000000/\x.1.eqs.length≤1000000000:=by
  intro x hx
  have h1:=List.mem_zipIdx hx
  have h3:=h1.2.2
  refine⟨by omega,?_⟩
  rw[h3]
  exact hn _ (List.getElem_mem _)
 have hsh:Rg (shapeX p).1.1/\Rg (shapeX p).1.2:=by
  unfold shapeX
  split
  ·unfold Rg;simp only;omega
  ·split
   ·unfold Rg;simp only;omega
   ·split
    ·unfold Rg;simp only;omega
    ·simp only[]
     have:=rg_firstI (fun n=>(nodeX p.enums n).2) p.nodes
     refine⟨by unfold Rg;omega,?_⟩
     cases hg:p.nodes[(firstI (fun n=>(nodeX p.enums n).2) p.nodes).1.toNat]? with
     | none=>simp[Rg]
     | some n=>exact rg_nodeX _ _ (hn n (List.mem_of_getElem? hg))
 have hsc:Rg (scopeX p).1.1/\Rg (scopeX p).1.2:=by
  unfold scopeX
  split
  ·exact hsh
  ·split
   ·unfold Rg;simp only;omega
   ·split
    ·unfold Rg;simp only;omega
    ·exact rg_place p _ _ hz
 unfold typesX
 split
 ·exact hsc
 ·exact rg_tyNods p _ hz
set_option maxHeartbeats 8000000 in
theorem check12_sound (p:Prog) (hw:(T.ag (progC p)).w≤100000000):Pure Tryz.prog 17 [.t (.ag (progC p))] (.tup [.t (.ag [T.i (clocksX p).1.1,T.i (clocksX p).1.2]),.i (clocksX p).2]):=by
 obtain⟨hP,hln,hpl⟩:=smallP_of hw
 have hml:(p.nodes.map nodT).length=p.nodes.length:=List.length_map _
 have hty:=check11_sound p hw (fun h=>by
  rw[chk10_eq]at h
  unfold scopeX at h
  exact Classical.byContradiction fun hh=>by rw[if_pos hh]at h;exact hh h)
 rw[typesR_eq]at hty
 have hpn:=plainR_sound p (by omega)
 have hz:clocksX p=clocksX p:=rfl
 conv at hz=>rhs;unfold clocksX
 generalize clocksX p=z at hz⊢
 have hnk:=fun h n hn=>nodK_of (p:=p) h hn (hln n hn)
 have hnr:=fun h k hk hk63=>@nodR_of p h k hk hk63
 generalize typesX p=t at*
 obtain⟨⟨t1,t2⟩,t3⟩:=t
 simp only at hz hty hnk hnr
 have hpc:progC p=[.sl 2 (p.enums.map enT),nodesT p.nodes]:=rfl
 rw[hpc]at*
 generalize plainP p=pl at*
 cases pl with
 | false=>
   rw[if_pos rfl]at hz
   subst hz
   refine Sound.of tabOk Tryz.func17 (by kernel_rfl) rfl rfl ?_
   repeat' (first|refine wkb ?_|refine wv hpn ?_|refine wk ?_|exact wkc|intro hc|refine wk2 ?_ ?_|fail)
   exact wkr
 | true=>
 rw[if_neg (by decide)]at hz
 by_cases h3:t3=0
 ·rw[if_neg (by simp[h3])]at hz
  replace hnk:=hnk h3
  replace hnr:=hnr h3
  subst h3
  refine Sound.of tabOk Tryz.func17 (by kernel_rfl) rfl rfl ?_
  refine wkb ?_
  refine wk ?_
  repeat' (first|refine wkt ?_|refine wka ?_|refine wk ?_|exact wkc|intro hc|refine wk2 ?_ ?_|refine wv hpn ?_|refine wv hty ?_|fail)
  refine TR.loopN p.nodes.length (fun k=>clkNods 0 p.nodes=clkNods k (p.nodes.drop k)) (fun k=>[(1,.cp [.sl 2 (p.enums.map enT),nodesT p.nodes] 0),(2,.ref 0 0),(6,.i k)]) (fun _=>[.cells [.i 0,.i 0]]) rfl (fun k hlt ha=>?_) (fun ha=>?_)
  ·have hx:=at_nod hlt
   have hmem:=List.getElem_mem hlt
   have hk63:(k:Int)≤9223372036854775807:=by omega
   rw[clkNods_step hlt]at ha
   have hK:=hnk _ hmem
   have hR:=hnr k hlt hk63
   have hv:=varsR_sound p.nodes[k] (hP.each _ hmem)
   clear hnk hnr
   have hd:=declared12_sound (varsL p.nodes[k]) hK.len hK.clk p.nodes[k].locals hK.le.1 (fun d hd=>hK.clk d (by simp[varsL,hd])) hR.decl
   have heq:=fun u (hu:u∈p.nodes[k].eqs)=>equ12_sound (varsL p.nodes[k]) hK.len hK.clk hR.len u (hK.eqs u hu).1 (hK.eqs u hu).2.1 (hK.eqs u hu).2.2.1 (hK.eqs u hu).2.2.2 (hR.fit u hu).1 (hR.left u hu) (hR.fit u hu).2
   have ca:=claims12_sound (varsL p.nodes[k]) hK.len hK.clk p.nodes[k].assume hK.le.2.2.1 (fun e he=>⟨hK.exs e (by simp[he]),hR.cl e (by simp[he])⟩)
   have ce:=claims12_sound (varsL p.nodes[k]) hK.len hK.clk p.nodes[k].ensure hK.le.2.2.2 (fun e he=>⟨hK.exs e (by simp[he]),hR.cl e (by simp[he])⟩)
   have le2:=hK.le.2.1
   clear hK hR
   have hzn:nodeK p.nodes[k]=nodeK p.nodes[k]:=rfl
   conv at hzn=>rhs;unfold nodeK
   rw[firstE_append]at hzn
   generalize nodeK p.nodes[k]=r at*
   generalize declsOk (varsL p.nodes[k]) p.nodes[k].locals=zd at*
   generalize eqClk (varsL p.nodes[k])=EQ at*
   generalize firstE (fun e=>fitsX (varsL p.nodes[k]) e []) p.nodes[k].assume=z1 at*
   generalize firstE (fun e=>fitsX (varsL p.nodes[k]) e []) p.nodes[k].ensure=z2 at*
   generalize varsL p.nodes[k]=vars at*
   generalize p.nodes[k]=n at*
   have hme:(n.eqs.map equT).length=n.eqs.length:=List.length_map _
   unfold nodC at*
   cases zd with
   | false=>
     rw[if_pos rfl]at hzn
     subst hzn
     simp only at ha
     rw[if_neg (by decide)]at ha
     rw[ha]at hz
     subst hz
     repeat' (first|refine wkt ?_|refine wka ?_|refine wk ?_|exact wkc|intro hc|refine wk2 ?_ ?_|refine wv hv ?_|refine wv hd ?_|fail)
     exact wkr
   | true=>
   rw[if_neg (by decide)]at hzn
   repeat' (first|refine wkt ?_|refine wka ?_|refine wk ?_|exact wkc|intro hc|refine wk2 ?_ ?_|refine wv hv ?_|refine wv hd ?_|fail)
   refine TR.loopN n.eqs.length (fun j=>firstE EQ (n.eqs.take j)=0) (fun j=>[(1,.cp [.sl 2 (p.enums.map enT),nodesT p.nodes] 0),(2,.ref 0 0),(6,.i k),(7,.cp [.s n.name,declsT n.ins,declsT n.outs,declsT n.locals,.sl 7 (n.eqs.map equT),.sl 1 (n.autos.map autoT),.sl 6 (n.assume.map exT),.sl 6 (n.ensure.map exT)] 0),(8,.t (declsT vars)),(9,.i j)]) (fun _=>[.cells [.i 0,.i 0]]) rfl (fun j hlj hj=>?_) (fun hj=>?_)
   ·have hx2:=at_equ hlj
    have g1:=firstE_at (f:=EQ) hlj hj
    have g2:=firstE_next (f:=EQ) hlj hj
    have g3:=firstI_at (f:=EQ) hlj hj
    have hs:=heq _ (List.getElem_mem hlj)
    generalize n.eqs[j]=u at*
    generalize EQ u=c at*
    unfold equC at hx2 hs
    clear heq
    repeat' (first|refine wkt ?_|refine wka ?_|refine wk ?_|exact wkc|intro hc|refine wk2 ?_ ?_|refine wv hs ?_|fail)
    all_goals first
     | exact LoopK.nextN hlj (g2 (by omega))
     | (rw[if_pos (by rw[g1 (by omega)];omega),g3 (by omega)]at hzn;subst hzn;dsimp only at ha;rw[if_neg (by omega)]at ha;rw[ha]at hz;subst hz;(repeat' (first|refine LoopK.ret ?_|refine wk ?_|fail));exact wkr)
   ·have e0:=firstE_all hj
    rw[if_neg (by rw[e0];decide)]at hzn
    clear heq hd
    by_cases a1:z1=0
    ·rw[if_pos a1]at hzn
     subst a1
     repeat' (first|refine wkt ?_|refine wka ?_|refine wk ?_|exact wkc|intro hc|refine wk2 ?_ ?_|refine wv ca ?_|refine wv ce ?_|fail)
     all_goals first
      | (rw[if_neg (by omega)]at hzn;subst hzn;dsimp only at ha;rw[if_pos rfl]at ha;exact LoopK.nextN hlt ha)
      | (rw[if_pos (by omega)]at hzn;subst hzn;dsimp only at ha;rw[if_neg (by omega)]at ha;rw[ha]at hz;subst hz;(repeat' (first|refine LoopK.ret ?_|refine wk ?_|fail));exact wkr)
      | (exfalso;omega)
    ·rw[if_neg a1,if_pos a1]at hzn
     subst hzn
     simp only at ha
     rw[if_neg a1]at ha
     rw[ha]at hz
     subst hz
     repeat' (first|refine wkt ?_|refine wka ?_|refine wk ?_|exact wkc|intro hc|refine wk2 ?_ ?_|refine wv ca ?_|fail)
     all_goals first
      | exact wkr
      | (exfalso;omega)
  ·rw[List.drop_of_length_le (Nat.le_refl _)]at ha
   rw[ha]at hz
   subst hz
   repeat' (first|refine wkt ?_|refine wk ?_|exact wkc|intro hc|refine wk2 ?_ ?_|fail)
   exact wkr
 ·rw[if_pos h3]at hz
  subst hz
  refine Sound.of tabOk Tryz.func17 (by kernel_rfl) rfl rfl ?_
  refine wkb ?_
  refine wk ?_
  repeat' (first|refine wkt ?_|refine wka ?_|refine wk ?_|exact wkc|intro hc|refine wk2 ?_ ?_|refine wv hpn ?_|refine wv hty ?_|fail)
  all_goals first
   | exact wkr
   | (exfalso;omega)
theorem rg_clkNods:∀(l:List Nod) (i:Nat),i+l.length≤1000000000->(∀n∈l,n.eqs.length≤1000000000)->Rg (clkNods i l).1.1/\Rg (clkNods i l).1.2
 | [],_,_,_=>by unfold clkNods Rg;decide
 | n::l,i,hi,h=>by
   simp only[List.length_cons]at hi
   rw[clkNods]
   split
   ·exact rg_clkNods l (i+1) (by omega) fun y hy=>h y (by simp[hy])
   ·have h1:=h n (by simp)
    have h2:=rg_firstI (eqClk (varsL n)) n.eqs
    refine⟨by unfold Rg;simp only;omega,?_⟩
    unfold nodeK Rg
    split
    ·dsimp only;omega
    ·split
     ·dsimp only;omega
     ·split
      ·dsimp only;omega
      ·dsimp only;omega
set_option maxHeartbeats 4000000 in
theorem clocksChecks_law (p:Prog) (hw:(T.ag (progC p)).w≤100000000):Pure Tryz.prog 4 [.t (.ag (progC p))] (.b true):=by
 have h0:=awake12_sound
 have hh:=heavy_sound p hw
 have c1:=clocksX_sound p hw
 have c2:=check12_sound p hw
 obtain⟨hP,hln,hpl⟩:=smallP_of hw
 have hE:∀n∈p.nodes,n.eqs.length≤1000000000:=fun n hn=>by
  have h1:=hln n hn
  have h2:=w_nod n
  have:=w_lenM equT 7 n.eqs
  omega
 obtain⟨g1,g2⟩:Rg (clocksX p).1.1/\Rg (clocksX p).1.2:=by
  unfold clocksX
  split
  ·unfold Rg;simp only;omega
  ·split
   ·exact rg_typesX (by omega) hE
   ·exact rg_clkNods _ 0 (by omega) hE
 generalize clocksX p=z at*
 obtain⟨⟨z1,z2⟩,z3⟩:=z
 unfold Rg at g1 g2
 simp only at g1 g2 c1 c2
 generalize heavyP p=hv at*
 unfold progC at*
 cases hv
 all_goals
  refine Sound.of tabOk Tryz.func4 (by kernel_rfl) rfl rfl ?_
  repeat' (first|refine wEqW ?_|refine wkt ?_|refine wka ?_|refine wv hh ?_|refine wv c1 ?_|refine wv c2 ?_|refine wv h0 ?_|refine wk ?_|exact wkc|intro hc|refine wk2 ?_ ?_|fail)
  all_goals first|exact wkr|skip
end Go.Proofs.YtlocalghkiepmaaGreat
