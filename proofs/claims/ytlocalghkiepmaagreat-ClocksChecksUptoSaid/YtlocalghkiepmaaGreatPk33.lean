import Derived.Test.YtlocalghkiepmaaGreatPk25
import Derived.Test.YtlocalghkiepmaaGreatPk32
set_option linter.unusedSimpArgs false
set_option linter.unusedVariables false
namespace Go.Proofs.YtlocalghkiepmaaGreat
open Go Go.TL
attribute [local irreducible] TR TO Then InBlock RetK Sound LoopK Kf GG ThenL
structure NodK (n:Nod):Prop where
 len:(varsL n).length≤1000000000
 clk:∀d∈varsL n,SmallK d.clock
 eqs:∀u∈n.eqs,u.left≠ []/\u.left.length≤1000000000/\wEx u.right≤1000000000/\∀x∈flat u.right,x.name.length≤1000000000
 exs:∀e∈n.assume++n.ensure,wEx e≤1000000000/\∀x∈flat e,x.name.length≤1000000000
 le:n.locals.length≤1000000000/\n.eqs.length≤1000000000/\n.assume.length≤1000000000/\n.ensure.length≤1000000000
set_option maxHeartbeats 4000000 in
theorem nodeK_sound (n:Nod) (hN:NodK n):Pure Tryz.prog 48 [chkT (varsL n),.t (.ag (nodC n))] (.tup [.i (nodeK n).1,.i (nodeK n).2]):=by
 have hloc:∀d∈n.locals,SmallK d.clock:=fun d hd=>hN.clk d (by simp[varsL,hd])
 have hd:=decls_sound (varsL n) hN.len hN.clk n.locals hN.le.1 hloc
 have heq:=fun u (hu:u∈n.eqs)=>equK_sound (varsL n) hN.len hN.clk u (hN.eqs u hu).1 (hN.eqs u hu).2.1 (hN.eqs u hu).2.2.1 (hN.eqs u hu).2.2.2
 obtain⟨FX,hFX⟩:∃FX:Ex->Int,∀e,FX e=fitsX (varsL n) e []:=⟨_,fun _=>rfl⟩
 have hex:=fun e (he:e∈n.assume++n.ensure)=>fits_sound (varsL n) hN.len hN.clk _ e (Nat.le_refl _) (hN.exs e he).1 (hN.exs e he).2 [] SmallK.nil
 simp only[<-hFX]at hex
 obtain⟨_,l2,l3,l4⟩:=hN.le
 have hz:nodeK n=nodeK n:=rfl
 conv at hz=>rhs;unfold nodeK
 generalize nodeK n=z at hz⊢
 generalize declsOk (varsL n) n.locals=zd at*
 generalize eqClk (varsL n)=EQ at*
 rw[show(fun e=>fitsX (varsL n) e [])=FX from funext fun e=>(hFX e).symm]at hz
 clear hFX
 generalize varsL n=vars at*
 have hme:(n.eqs.map equT).length=n.eqs.length:=List.length_map _
 unfold nodC
 cases zd with
 | false=>
   rw[if_pos rfl]at hz
   subst hz
   refine Sound.of tabOk Tryz.func48 (by kernel_rfl) rfl rfl ?_
   repeat' (first|refine wkt ?_|refine wk ?_|exact wkc|intro hc|refine wk2 ?_ ?_|refine wv hd ?_|fail)
   exact wkr
 | true=>
 rw[if_neg (by decide)]at hz
 refine Sound.of tabOk Tryz.func48 (by kernel_rfl) rfl rfl ?_
 repeat' (first|refine wkt ?_|refine wk ?_|exact wkc|intro hc|refine wk2 ?_ ?_|refine wv hd ?_|fail)
 refine TR.loopN n.eqs.length (fun k=>firstE EQ (n.eqs.take k)=0) (fun k=>[(2,.cp [declsT vars] 0),(3,.cp [.s n.name,declsT n.ins,declsT n.outs,declsT n.locals,.sl 7 (n.eqs.map equT),.sl 1 (n.autos.map autoT),.sl 6 (n.assume.map exT),.sl 6 (n.ensure.map exT)] 0),(20,.t (.sl 7 (n.eqs.map equT))),(21,.i (n.eqs.map equT).length),(22,.i k)]) (fun _=>[]) rfl (fun k hlt ha=>?_) (fun ha=>?_)
 ·have hx:=at_equ hlt
  have g1:=firstE_at (f:=EQ) hlt ha
  have g2:=firstE_next (f:=EQ) hlt ha
  have g3:=firstI_at (f:=EQ) hlt ha
  have hs:=heq _ (List.getElem_mem hlt)
  generalize n.eqs[k]=u at*
  generalize EQ u=r at*
  unfold equC at hx hs
  clear heq hex
  repeat' (first|refine wkt ?_|refine wka ?_|refine wk ?_|exact wkc|intro hc|refine wk2 ?_ ?_|refine wv hs ?_|fail)
  all_goals first
   | exact LoopK.nextN hlt (g2 (by omega))
   | (rw[if_pos (by rw[g1 (by omega)];omega),g3 (by omega)]at hz;subst hz;(repeat' (first|refine LoopK.ret ?_|refine wk ?_|fail));exact wkr)
 have e0:=firstE_all ha
 rw[if_neg (by rw[e0];decide)]at hz
 clear heq hd
 repeat' (first|refine wkt ?_|(apply TO.buildA tabOk;exact rfl;exact rfl;exact rfl;exact rfl;exact rfl;exact rfl;exact rfl;exact rfl)|refine wk ?_|exact wkc|intro hc|refine wk2 ?_ ?_|fail)
 have hfa:=firstE_append FX n.assume n.ensure
 refine TR.loopN 2 (fun k=>firstE FX (([n.assume,n.ensure].take k).flatten)=0) (fun k=>[(2,.cp [declsT vars] 0),(39,.t (.ag [.sl 6 (n.assume.map exT),.sl 6 (n.ensure.map exT)])),(40,.i k)]) (fun _=>[]) rfl (fun k hlt hb=>?_) (fun hb=>?_)
 ·obtain⟨L,hL,hLm,hLl,hnx,hat⟩:∃L:List Ex,[n.assume,n.ensure][k]?=some L/\(∀e∈L,e∈n.assume++n.ensure)/\L.length≤1000000000/\(firstE FX L=0->firstE FX (([n.assume,n.ensure].take (k+1)).flatten)=0)/\(firstE FX L≠0->firstE FX (n.assume++n.ensure)=firstE FX L):=by
   rcases(by omega:k=0\/k=1)with rfl|rfl
   ·exact⟨n.assume,rfl,fun e he=>by simp[he],l3,fun h=>by simpa using h,fun h=>by rw[hfa,if_neg h]⟩
   ·have h1:firstE FX n.assume=0:=by simpa using hb
    exact⟨n.ensure,rfl,fun e he=>by simp[he],l4,fun h=>by simpa [firstE_append,h1]using h,fun h=>by rw[hfa,if_pos h1]⟩
  have hv:[T.sl 6 (n.assume.map exT),.sl 6 (n.ensure.map exT)][k]?=some (.sl 6 (L.map exT)):=by
   have:=congrArg (Option.map fun l:List Ex=>T.sl 6 (l.map exT)) hL
   rw[<-List.getElem?_map]at this
   exact this
  have hexL:=fun e he=>hex e (hLm e he)
  have hmL:(L.map exT).length=L.length:=List.length_map _
  clear hL hLm hex hfa
  generalize n.assume=A at*
  generalize n.ensure=B at*
  repeat' (first|refine wkt ?_|(apply TO.indexA tabOk;exact rfl;exact rfl;exact rfl;exact rfl;exact rfl;exact rfl;exact rfl;exact rfl;exact hv;(simp[Nat.blt];omega))|refine wk ?_|exact wkc|intro hc|refine wk2 ?_ ?_|fail)
  refine TR.loopN L.length (fun j=>firstE FX (L.take j)=0) (fun j=>[(2,.cp [declsT vars] 0),(39,.t (.ag [.sl 6 (A.map exT),.sl 6 (B.map exT)])),(40,.i k),(43,.t (.sl 6 (L.map exT))),(44,.i (L.map exT).length),(45,.i j)]) (fun _=>[]) rfl (fun j hlj hb2=>?_) (fun hb2=>?_)
  ·have hx:=at_exT hlj
   have g1:=firstE_at (f:=FX) hlj hb2
   have g2:=firstE_next (f:=FX) hlj hb2
   have hs:=hexL _ (List.getElem_mem hlj)
   generalize L[j]=x at*
   generalize FX x=r at*
   unfold exC at hx hs
   clear hexL
   repeat' (first|refine wkt ?_|refine wka ?_|refine wk ?_|exact wkc|intro hc|refine wk2 ?_ ?_|refine wv hs ?_|fail)
   all_goals first
    | exact LoopK.nextN hlj (g2 (by omega))
    | (have h1:=g1 (by omega);have h2:=hat (by rw[h1];omega);rw[h2,h1,if_pos (by omega)]at hz;subst hz;(repeat' (first|refine LoopK.ret ?_|refine wk ?_|fail));exact wkr)
  ·have e1:=firstE_all hb2
   repeat' (first|refine wkt ?_|refine wk ?_|exact wkc|intro hc|refine wk2 ?_ ?_|fail)
   exact LoopK.nextN hlt (hnx e1)
 ·have hb0:firstE FX (n.assume++n.ensure)=0:=by simpa using hb
  rw[if_neg (by rw[hb0];decide)]at hz
  subst hz
  repeat' (first|refine wkt ?_|refine wk ?_|exact wkc|intro hc|refine wk2 ?_ ?_|fail)
  exact wkr
theorem conNode_sound(fid:FuncId)(p:Nod->Bool)(l:List Nod)(hl:l.length≤1000000000)(hp:∀d,Pure Tryz.prog fid [.t (nodT d)] (.b (p d))):
  Pure Tryz.prog 85 [.t (nodesT l),.fn fid []] (.b (l.any p)):=by
 have hs:=idxNode_sound fid [] rfl p l hl hp
 have ha:=idxI_any p l
 generalize idxI p l=z at*
 have hu:unders 0 [.t (nodesT l),.fn fid []]=true:=rfl
 refine Sound.of tabOk Tryz.func85 (by kernel_rfl) rfl rfl ?_
 repeat' (first|refine wk ?_|exact wkc|intro hc|refine wk2 ?_ ?_|(apply TO.callV hs;exact rfl;exact rfl;exact rfl;exact Les.refl _;exact hu;exact rfl)|fail)
 all_goals
  refine RetK.pure rfl (Le.of_eq ?_) rfl
  refine congrArg (fun b=>SV.t (T.v (Value.bool b))) ?_
  rw[<-ha];simp;omega
theorem plain1_sound(n:Nod):Pure Tryz.prog 86 [.t (nodT n)] (.b (decide (0<n.autos.length))):=by
 have hm:(n.autos.map autoT).length=n.autos.length:=List.length_map _
 show Pure _ _ [.t (.ag (nodC n))] _
 unfold nodC
 by_cases h:0<n.autos.length
 ·rw[decide_eq_true h]
  refine Sound.of tabOk Tryz.func86 (by kernel_rfl) rfl rfl ?_
  repeat' (first|refine wkt ?_|refine wk ?_|exact wkc|intro hc|refine wk2 ?_ ?_|fail)
  all_goals first
   | exact wkr
   | (exfalso;omega)
 ·rw[decide_eq_false h]
  refine Sound.of tabOk Tryz.func86 (by kernel_rfl) rfl rfl ?_
  repeat' (first|refine wkt ?_|refine wk ?_|exact wkc|intro hc|refine wk2 ?_ ?_|fail)
  all_goals first
   | exact wkr
   | (exfalso;omega)
theorem plain_any(p:Prog):plainP p= !(p.nodes.any fun n=>decide (0<n.autos.length)):=by
 unfold plainP
 rw[List.all_eq_not_any_not]
 congr 2
 funext n
 simp[Nat.pos_iff_ne_zero]
theorem plain_sound(p:Prog)(hp:p.nodes.length≤1000000000):Pure Tryz.prog 47 [.t (.ag (progC p))] (.b (plainP p)):=by
 have hs:=conNode_sound 86 _ p.nodes hp plain1_sound
 rw[plain_any]
 generalize (p.nodes.any fun n=>decide (0<n.autos.length))=z at*
 unfold progC
 refine Sound.of tabOk Tryz.func47 (by kernel_rfl) rfl rfl ?_
 repeat' (first|refine wkt ?_|refine wk ?_|exact wkc|intro hc|refine wk2 ?_ ?_|(apply TO.callV hs;exact rfl;exact rfl;exact rfl;exact Les.refl _;exact rfl;exact rfl)|fail)
 exact wkr
theorem decls_w(n:Nod):(declsT (varsL n)).w≤(nodT n).w:=by
 have h1:=w_nod n
 have l2:=w_lenM equT 7 n.eqs
 have e1:=w_decls_append n.ins (n.outs++(n.locals++[]))
 have e2:=w_decls_append n.outs (n.locals++[])
 have e3:=w_decls_append n.locals []
 have e4:(declsT ([]:List Decl)).w=1:=by rw[w_sl];rfl
 unfold varsL
 omega
theorem smallK_of{n:Nod}(hw:(nodT n).w≤100000000):∀d∈varsL n,SmallK d.clock:=fun d hd=>by
 have h0:=decls_w n
 have h2:=(name_decl hd).2
 refine⟨clocks_of hw d hd,fun o ho=>?_⟩
 have:=name_on ho
 omega
theorem nodK_of{p:Prog}(h:(typesX p).2=0){n:Nod}(hn:n∈p.nodes)(hw:(nodT n).w≤100000000):NodK n:=by
 have hwn:=w_nod n
 have h0:=decls_w n
 have l0:=w_lenM declT 3 (varsL n)
 have l1:=w_lenM declT 3 n.locals
 have l2:=w_lenM equT 7 n.eqs
 have l3:=w_lenM exT 6 n.assume
 have l4:=w_lenM exT 6 n.ensure
 have d0:(declsT (varsL n)).w=(T.sl 3 ((varsL n).map declT)).w:=rfl
 have d1:(declsT n.locals).w=(T.sl 3 (n.locals.map declT)).w:=rfl
 obtain⟨hs,_,_⟩:=typesX_parts h
 have h2:=shape_nodes (scope_shape hs) n hn
 unfold nodeX at h2
 have h3:headE p.enums n=0:=Classical.byContradiction fun hh=>by rw[if_pos hh]at h2;exact hh h2
 rw[if_neg (by simp[h3])]at h2
 have h4:firstE (equE p.enums) n.eqs=0:=Classical.byContradiction fun hh=>by rw[if_pos hh,firstI_snd]at h2;exact hh h2
 refine⟨by omega,smallK_of hw,fun u hu=>?_,fun e he=>?_,by omega,by omega,by omega,by omega⟩
 ·have h5:=firstE_zero h4 u hu
  have hwu:=w_inM (f:=equT) (sz:=7) hu
  unfold equE at h5
  have h6:=(orE_zero h5).1
  have hl:=left_equ (q:=u)
  have hwe:=wEx_equ (q:=u)
  have hex:(exT u.right).w≤(equT u).w:=by
   rw[show equT u= .ag (.sl 1 (u.left.map T.s)::exC u.right) from rfl,w_ag,List.map_cons,List.sum_cons,exT_eq,w_ag];omega
  refine⟨fun hh=>?_,by omega,by omega,fun x hx=>?_⟩
  ·rw[hh]at h6;simp at h6
  ·have:=flat_name _ u.right (Nat.le_refl _) x hx
   omega
 ·have hle:=wEx_le e
  have hwe:(exT e).w≤100000000:=by
   rcases List.mem_append.1 he with he|he
   ·have:=w_inM (f:=exT) (sz:=6) he;omega
   ·have:=w_inM (f:=exT) (sz:=6) he;omega
  refine⟨by omega,fun x hx=>?_⟩
  have:=flat_name _ e (Nat.le_refl _) x hx
  omega
theorem clkNods_step{l:List Nod}{k:Nat}(h:k<l.length):clkNods k (l.drop k)=if(nodeK l[k]).2=0 then clkNods (k+1) (l.drop (k+1)) else(((k:Int),(nodeK l[k]).1),(nodeK l[k]).2):=by
 rw[List.drop_eq_getElem_cons h,clkNods]
set_option maxHeartbeats 2000000 in
theorem clocksX_sound (p:Prog) (hw:(T.ag (progC p)).w≤100000000):Pure Tryz.prog 16 [.t (.ag (progC p))] (.tup [.t (.ag [T.i (clocksX p).1.1,T.i (clocksX p).1.2]),.i (clocksX p).2]):=by
 obtain⟨hP,hln,hpl⟩:=smallP_of hw
 have hml:(p.nodes.map nodT).length=p.nodes.length:=List.length_map _
 have hty:=typesX_sound p hw
 have hpn:=plain_sound p (by omega)
 have hz:clocksX p=clocksX p:=rfl
 conv at hz=>rhs;unfold clocksX
 generalize clocksX p=z at hz⊢
 have hnk:=fun h n hn=>nodK_of (p:=p) h hn (hln n hn)
 generalize typesX p=t at*
 obtain⟨⟨t1,t2⟩,t3⟩:=t
 simp only at hz hty hnk
 have hpc:progC p=[.sl 2 (p.enums.map enT),nodesT p.nodes]:=rfl
 rw[hpc]at*
 generalize plainP p=pl at*
 cases pl with
 | false=>
   rw[if_pos rfl]at hz
   subst hz
   refine Sound.of tabOk Tryz.func16 (by kernel_rfl) rfl rfl ?_
   repeat' (first|refine wkt ?_|refine wk ?_|exact wkc|intro hc|refine wk2 ?_ ?_|refine wv hpn ?_|fail)
   exact wkr
 | true=>
 rw[if_neg (by decide)]at hz
 by_cases h3:t3=0
 ·rw[if_neg (by simp[h3])]at hz
  have hnk:=hnk h3
  refine Sound.of tabOk Tryz.func16 (by kernel_rfl) rfl rfl ?_
  repeat' (first|refine wkt ?_|refine wka ?_|refine wk ?_|exact wkc|intro hc|refine wk2 ?_ ?_|refine wv hpn ?_|refine wv hty ?_|fail)
  refine TR.loopN p.nodes.length (fun k=>clkNods 0 p.nodes=clkNods k (p.nodes.drop k)) (fun k=>[(2,.ref 0 0),(24,.t (nodesT p.nodes)),(25,.i (p.nodes.map nodT).length),(26,.i k)]) (fun _=>[.cells [.i 0,.i 0]]) rfl (fun k hlt ha=>?_) (fun ha=>?_)
  ·have hx:=at_nod hlt
   have hmem:=List.getElem_mem hlt
   rw[clkNods_step hlt]at ha
   have hs:=nodeK_sound p.nodes[k] (hnk _ hmem)
   have hv:=vars_sound p.nodes[k] (hP.each _ hmem) (hP.clocks _ hmem)
   generalize nodeK p.nodes[k]=r at*
   obtain⟨r1,r2⟩:=r
   generalize varsL p.nodes[k]=vars at*
   generalize p.nodes[k]=n at*
   unfold nodC at*
   simp only at ha hs
   repeat' (first|refine wkt ?_|refine wka ?_|refine rg [.t (.ag [.s n.name,declsT n.ins,declsT n.outs,declsT n.locals,.sl 7 (n.eqs.map equT),.sl 1 (n.autos.map autoT),.sl 6 (n.assume.map exT),.sl 6 (n.ensure.map exT)]),.t (declsT vars),.t (.ag [declsT vars]),.t (.ag [.s n.name,declsT n.ins,declsT n.outs,declsT n.locals,.sl 7 (n.eqs.map equT),.sl 1 (n.autos.map autoT),.sl 6 (n.assume.map exT),.sl 6 (n.ensure.map exT)]),.tup [.i r1,.i r2],.tup [.i r1,.i r2],.i r1,.i r2,.i r1,.i r2] ?_ ?_|refine wv hv ?_|refine wv hs ?_|exact trivial|exact And.intro rfl rfl|refine And.intro (fun H env=>?_) ?_|refine wk ?_|exact wkc|intro hc|refine wk2 ?_ ?_|fail)
   all_goals first
    | (rw[if_neg (by omega)]at ha;rw[ha]at hz;subst hz;(repeat' (first|refine LoopK.ret ?_|refine wk ?_|fail));exact wkr)
    | (rw[if_pos (by omega)]at ha;exact LoopK.nextC 1 hlt ha rfl rfl rfl rfl rfl)
  ·rw[List.drop_of_length_le (Nat.le_refl _)]at ha
   rw[ha]at hz
   subst hz
   repeat' (first|refine wkt ?_|refine wk ?_|exact wkc|intro hc|refine wk2 ?_ ?_|fail)
   exact wkr
 ·rw[if_pos h3]at hz
  subst hz
  refine Sound.of tabOk Tryz.func16 (by kernel_rfl) rfl rfl ?_
  repeat' (first|refine wkt ?_|refine wka ?_|refine wk ?_|exact wkc|intro hc|refine wk2 ?_ ?_|refine wv hpn ?_|refine wv hty ?_|fail)
  all_goals first
   | exact wkr
   | (exfalso;omega)
theorem foldS_kp{α β:Type}{f:β->α->β×Int}(I:β->Prop):∀(l:List α) (a:β),(∀a,∀x∈l,I a->I (f a x).1)->I a->I (foldS f a l).1
 | [],a,_,h=>h
 | x::l,a,hf,h=>by
   have h1:=hf a x (by simp) h
   rw[foldS]
   split
   ·exact foldS_kp I l _ (fun a y hy=>hf a y (by simp[hy])) h1
   ·exact h1
theorem foldS_each{α β:Type}{f:β->α->β×Int}(I:β->Prop):∀(l:List α) (a:β),(∀a,∀x∈l,I a->I (f a x).1)->I a->(foldS f a l).2=0->∀x∈l,∃b,I b/\(f b x).2=0
 | x::l,a,hf,h,h0,y,hy=>by
   have h1:=hf a x (by simp) h
   rw[foldS]at h0
   have h2:(f a x).2=0:=Classical.byContradiction fun hh=>by rw[if_neg hh]at h0;exact hh h0
   rw[if_pos h2]at h0
   rcases List.mem_cons.1 hy with rfl|hy
   ·exact⟨a,h,h2⟩
   ·exact foldS_each I l _ (fun a y hy=>hf a y (by simp[hy])) h1 h0 y hy
theorem findD_some{s:Str}:∀ {l:List Decl},s∈l.map Decl.name->(findD l s).isSome=true
 | d::l,h=>by
   rw[findD]
   split
   ·rfl
   ·rename_i hn
    rcases List.mem_cons.1 h with h|h
    ·exact absurd h.symm hn
    ·exact findD_some h
theorem mem_ins{l:List Str}{a s:Str}(h:s∈ins l a):s∈l\/s=a:=by
 unfold ins at h
 split at h
 ·exact .inl h
 ·simpa using h
theorem scope_left{p:Prog}(h:(scopeX p).2=0){n:Nod}(hn:n∈p.nodes){u:Equ}(hu:u∈n.eqs){s:Str}(hs:s∈u.left):(findD (varsL n) s).isSome=true:=by
 unfold scopeX at h
 have g1:(shapeX p).2=0:=Classical.byContradiction fun hh=>by rw[if_pos hh]at h;exact hh h
 rw[if_neg (by simp[g1])]at h
 have g2:(foldS enF [] p.enums.zipIdx).2=0:=Classical.byContradiction fun hh=>by rw[if_pos hh]at h;exact hh h
 rw[if_neg (by simp[g2])]at h
 have g3:(foldS (nodF p) (foldS enF [] p.enums.zipIdx).1 p.nodes.zipIdx).2=0:=Classical.byContradiction fun hh=>by rw[if_neg hh]at h;exact hh h
 obtain⟨i,hi,rfl⟩:=List.getElem_of_mem hn
 have hmem:(p.nodes[i],i)∈p.nodes.zipIdx:=by
  have:p.nodes.zipIdx[i]?=some (p.nodes[i],i):=by rw[List.getElem?_zipIdx];simp[List.getElem?_eq_getElem hi]
  exact List.mem_of_getElem? this
 obtain⟨seen,_,g4⟩:=foldS_each (fun _=>True) _ _ (fun _ _ _ _=>trivial) trivial g3 _ hmem
 generalize p.nodes[i]=n at*
 have g5:(nodeT' p seen i n).2=0:=g4
 unfold nodeT' at g5
 split at g5
 ·cases g5
 generalize seen++[(1,n.name,(i:Int))]=seen at g5
 unfold nodeS at g5
 simp only[]at g5
 have o1:=foldS_kp (f:=declF seen []) (fun a=>∀s∈a.own,s∈(varsL n).map Decl.name) (varsL n) lv0 (fun a x hx ha s hs=>by
  rcases mem_ins hs with hs|rfl
  ·exact ha s hs
  ·exact List.mem_map_of_mem hx) (fun s hs=>by cases hs)
 change ∀s∈(declS seen [] lv0 (varsL n)).1.own,s∈(varsL n).map Decl.name at o1
 generalize declS seen [] lv0 (varsL n)=r1 at*
 have g6:r1.2=0:=Classical.byContradiction fun hh=>by rw[if_pos hh]at g5;exact hh g5
 rw[if_neg (by simp[g6])]at g5
 have g7:samplE r1.1.own n.locals=0:=Classical.byContradiction fun hh=>by rw[if_pos hh]at g5;exact hh g5
 rw[if_neg (by simp[g7])]at g5
 have g8:(foldS (equS p seen i [] ((n.ins.map Decl.name).foldl ins [])) r1.1 n.eqs).2=0:=Classical.byContradiction fun hh=>by rw[if_pos hh]at g5;exact hh g5
 obtain⟨b,hb,g9⟩:=foldS_each (fun a=>a.own=r1.1.own) _ _ (fun a x _ ha=>foldS_kp (fun a=>a.own=r1.1.own) x.left a (fun _ _ _ h=>h) ha) rfl g8 u hu
 obtain⟨g10,_⟩:=orE_zero g9
 obtain⟨c,_,g11⟩:=foldS_each (fun _=>True) _ _ (fun _ _ _ _=>trivial) trivial g10 s hs
 unfold leftF at g11
 simp only at g11
 split at g11
 ·rename_i hv
  rw[hb]at hv
  exact findD_some (o1 s (by simpa using hv))
 ·cases g11
structure NodR (n:Nod):Prop where
 decl:∀d∈n.locals,∀o∈d.clock,o.t.1≠0
 left:∀u∈n.eqs,∀s∈u.left,(findD (varsL n) s).isSome=true
 len:∀d∈varsL n,d.clock.length≤4
 fit:∀u∈n.eqs,(∀x∈flat u.right,oneX x=0)/\∀ck:List OnC,ck.length≤4->fitsR (varsL n) (wEx u.right) u.right ck=fitsX (varsL n) u.right ck
 cl:∀e∈n.assume++n.ensure,(∀x∈flat e,oneX x=0)/\fitsR (varsL n) (wEx e) e []=fitsX (varsL n) e []
theorem nodR_of{p:Prog}(h:(typesX p).2=0){k:Nat}(hk:k<p.nodes.length)(hk63:(k:Int)≤9223372036854775807):NodR p.nodes[k]:=by
 obtain⟨hs,hsh,hty⟩:=typesX_parts h
 have hN:=shapeN_of hsh _ (List.getElem_mem hk)
 have hsn:=shape_nodes hsh _ (List.getElem_mem hk)
 unfold nodeX at hsn
 have q1:headE p.enums p.nodes[k]=0:=Classical.byContradiction fun hh=>by rw[if_pos hh]at hsn;exact hh hsn
 rw[if_neg (by simp[q1])]at hsn
 have q2:firstE (equE p.enums) p.nodes[k].eqs=0:=Classical.byContradiction fun hh=>by rw[if_pos hh,firstI_snd]at hsn;exact hh hsn
 rw[if_neg (by simp[q2])]at hsn
 have q3:tailE p.enums p.nodes[k]=0:=hsn
 obtain⟨_,q3⟩:=orE_zero q3
 obtain⟨q4,q5⟩:=orE_zero q3
 have hmem:(p.nodes[k],k)∈p.nodes.zipIdx:=by
  have:p.nodes.zipIdx[k]?=some (p.nodes[k],k):=by rw[List.getElem?_zipIdx];simp[List.getElem?_eq_getElem hk]
  exact List.mem_of_getElem? this
 have hg:=tyNods_all p hty _ hmem
 unfold nodG nodeTy at hg
 simp only at hg
 have he:firstE (eqnT ⟨p,nI k,varsL p.nodes[k]⟩) p.nodes[k].eqs=0:=Classical.byContradiction fun hh=>by
  rw[if_pos hh,firstI_snd]at hg;exact hh hg
 rw[if_neg (by simp[he])]at hg
 unfold restTy at hg
 simp only at hg
 obtain⟨_,hg⟩:=orE_zero hg
 obtain⟨c1,c2⟩:=orE_zero hg
 refine⟨fun d hd o ho=>?_,fun u hu s hs'=>scope_left hs (List.getElem_mem hk) hu hs',clk_len hN,fun u hu=>?_,fun e he'=>?_⟩
 ·unfold headE at q1
  obtain⟨_,q1⟩:=orE_zero q1
  obtain⟨_,q1⟩:=orE_zero q1
  obtain⟨_,q1⟩:=orE_zero q1
  obtain⟨_,q1⟩:=orE_zero q1
  obtain⟨_,q1⟩:=orE_zero q1
  have d1:=firstE_zero q1 d hd
  unfold declE at d1
  obtain⟨_,d1⟩:=orE_zero d1
  obtain⟨_,d1⟩:=orE_zero d1
  obtain⟨_,d1⟩:=orE_zero d1
  obtain⟨_,d1⟩:=orE_zero d1
  have d2:=firstE_zero d1 o ho
  unfold onE at d2
  obtain⟨_,d2⟩:=orE_zero d2
  intro h0
  have:hasT p.enums o.t.1 o.tag.1=true:=by
   split at d2
   ·rename_i hh;exact hh.2
   ·cases d2
  rw[h0]at this
  unfold hasT sizeOfT enumOf at this
  rw[if_neg (by decide),if_neg (by decide),if_neg (by decide),if_neg (by omega)]at this
  simp at this
  omega
 ·obtain⟨kn,hx⟩:=eq_known h hk hk63 hu
  exact⟨one_flat hx,fun ck hck=>fits_eq _ _ _ (Nat.le_refl _) (arity_flat hx) (one_flat hx) kn ck hck⟩
 ·have hx:exprX p.enums e=0:=by
   rcases List.mem_append.1 he' with he'|he'
   ·exact firstE_zero q4 e he'
   ·exact firstE_zero q5 e he'
  have ht:condT ⟨p,nI k,varsL p.nodes[k]⟩ e=0:=by
   rcases List.mem_append.1 he' with he'|he'
   ·exact firstE_zero c1 e he'
   ·exact firstE_zero c2 e he'
  unfold condT at ht
  have hr:(resT ⟨p,nI k,varsL p.nodes[k]⟩ false e).2=0:=Classical.byContradiction fun hh=>by rw[if_pos hh]at ht;exact hh ht
  exact⟨one_flat hx,fits_eq _ _ _ (Nat.le_refl _) (arity_flat hx) (one_flat hx) (known_of hr) [] (by simp)⟩
theorem okAt_ref{vars:List Decl}{pre:List OnC}{o:OnC}(h:o.t.1≠0):okAt vars pre o=(decide ((findZ vars o.name).ty.1=o.t.1) && decide ((findZ vars o.name).clock=pre)):=by
 unfold okAt findZ
 cases findD vars o.name with
 | some x=>rfl
 | none=>
   rw[show decide ((Option.getD none noD).ty.1=o.t.1)=false from decide_eq_false (fun hh=>h (hh ▸ rfl))]
   rfl
theorem onX_ref{vars:List Decl}{s:Str}{ck:List OnC}(h:(findD vars s).isSome=true):onX vars s ck=decide ((findZ vars s).clock=ck):=by
 unfold onX findZ
 cases hf:findD vars s with
 | some x=>rfl
 | none=>rw[hf]at h;cases h
theorem plainR_sound(p:Prog)(hp:p.nodes.length≤1000000000):Pure Tryz.prog 49 [.t (.ag (progC p))] (.b (plainP p)):=by
 have hml:(p.nodes.map nodT).length=p.nodes.length:=List.length_map _
 unfold progC
 refine Sound.of tabOk Tryz.func49 (by kernel_rfl) rfl rfl ?_
 repeat' (first|refine wkt ?_|refine wk ?_|exact wkc|intro hc|refine wk2 ?_ ?_|fail)
 refine TR.loopN p.nodes.length (fun k=>plainP p=(p.nodes.drop k).all fun n=>decide (n.autos.length=0)) (fun k=>[(1,.cp [.sl 2 (p.enums.map enT),nodesT p.nodes] 0),(3,.i k)]) (fun _=>[]) rfl (fun k hlt ha=>?_) (fun ha=>?_)
 ·have hx:=at_nod hlt
  rw[List.drop_eq_getElem_cons hlt,List.all_cons]at ha
  generalize p.nodes[k]=n at*
  have hm:(n.autos.map autoT).length=n.autos.length:=List.length_map _
  unfold nodC at hx
  by_cases h0:n.autos.length=0
  ·rw[decide_eq_true h0,Bool.true_and]at ha
   repeat' (first|refine wkt ?_|refine wk ?_|exact wkc|intro hc|refine wk2 ?_ ?_|fail|fail)
   all_goals first
    | exact LoopK.nextN hlt ha
    | (exfalso;omega)
  ·rw[decide_eq_false h0,Bool.false_and]at ha
   rw[ha]
   repeat' (first|refine wkt ?_|refine wk ?_|exact wkc|intro hc|refine wk2 ?_ ?_|fail|fail)
   all_goals first
    | exact wkr
    | (exfalso;omega)
 ·rw[ha,List.drop_of_length_le (Nat.le_refl _)]
  repeat' (first|refine wkt ?_|refine wk ?_|exact wkc|intro hc|refine wk2 ?_ ?_|fail)
  exact wkr
set_option maxHeartbeats 2000000 in
theorem declared12_sound (vars:List Decl) (hl:vars.length≤1000000000) (hk:∀d∈vars,SmallK d.clock) (l:List Decl) (hll:l.length≤1000000000) (hkl:∀d∈l,SmallK d.clock) (h0:∀d∈l,∀o∈d.clock,o.t.1≠0):
  Pure Tryz.prog 50 [.t (declsT vars),.t (declsT l)] (.b (declsOk vars l)):=by
 have hml:(l.map declT).length=l.length:=List.length_map _
 refine Sound.of tabOk Tryz.func50 (by kernel_rfl) rfl rfl ?_
 repeat' (first|refine wkt ?_|refine wk ?_|exact wkc|intro hc|refine wk2 ?_ ?_|fail)
 refine TR.loopN l.length (fun k=>declsOk vars l=declsOk vars (l.drop k)) (fun k=>[(0,.t (declsT vars)),(1,.t (declsT l)),(5,.i k)]) (fun _=>[]) rfl (fun k hlt ha=>?_) (fun ha=>?_)
 ·have hx:=at_decl hlt
  have hkd:=hkl _ (List.getElem_mem hlt)
  have h0d:=h0 _ (List.getElem_mem hlt)
  rw[declsOk_step hlt]at ha
  generalize l[k]=d at*
  have hkd1:=hkd.1
  have hmd:(d.clock.map onT).length=d.clock.length:=List.length_map _
  unfold declC at hx
  repeat' (first|refine wkt ?_|refine wk ?_|exact wkc|intro hc|refine wk2 ?_ ?_|fail)
  refine TR.loopN d.clock.length (fun j=>clkOk vars [] d.clock=clkOk vars (d.clock.take j) (d.clock.drop j)) (fun j=>[(0,.t (declsT vars)),(1,.t (declsT l)),(5,.i k),(6,.i j)]) (fun _=>[]) rfl (fun j hlt2 ha2=>?_) (fun ha2=>?_)
  ·have hx2:=at_on hlt2
   have ho:=h0d _ (List.getElem_mem hlt2)
   rw[clkOk_step hlt2,okAt_ref ho]at ha2
   generalize d.clock[j]=o at*
   have hf:=findKR_sound vars hl o.name
   have hsz:SmallK (findZ vars o.name).clock:=by
    unfold findZ
    cases h:findD vars o.name with
    | none=>exact SmallK.nil
    | some d=>exact hk d (findD_mem h).1
   generalize findZ vars o.name=x at*
   generalize (findD vars o.name).isSome=fo at*
   rw[show declT x= .ag [.s x.name,T.n x.ty,.sl 3 (x.clock.map onT)] from rfl]at hf
   by_cases ht:x.ty.1=o.t.1
   ·have hs:=sameKR_sound x.clock (d.clock.take j) hsz (hkd.take j)
    rw[show onsT (d.clock.take j)= .sl 3 ((d.clock.map onT).take j) by rw[onsT,List.map_take]]at hs
    by_cases hq:x.clock=d.clock.take j
    ·rw[decide_eq_true hq]at hs ha2
     rw[decide_eq_true ht]at ha2
     repeat' (first|refine wkt ?_|refine wka ?_|refine rg [.cp [.s x.name,T.n x.ty,.sl 3 (x.clock.map onT)] 1,.t (T.n x.ty),.cp [.s o.name,T.n o.t,T.n o.tag] 1,.t (T.n o.t),.b false,.b false,.cp [.s x.name,T.n x.ty,.sl 3 (x.clock.map onT)] 2,.t (onsT x.clock),.t (declsT l),.i k,.cp [.s d.name,T.n d.ty,.sl 3 (d.clock.map onT)] 0,.cp [.s d.name,T.n d.ty,.sl 3 (d.clock.map onT)] 2,.t (onsT d.clock),.i j,.t (.sl 3 ((d.clock.map onT).take j)),.b true,.b false,.b false] ?_ ?_|refine wv hf ?_|refine wv hs ?_|exact trivial|exact And.intro rfl rfl|refine And.intro (fun H env=>?_) ?_|refine wk ?_|exact wkc|intro hc|refine wk2 ?_ ?_|fail)
     exact LoopK.nextN hlt2 ha2
    ·rw[decide_eq_false hq]at hs ha2
     rw[Bool.and_false,Bool.false_and]at ha2
     rw[ha,ha2]
     repeat' (first|refine wkt ?_|refine wka ?_|refine rg [.cp [.s x.name,T.n x.ty,.sl 3 (x.clock.map onT)] 1,.t (T.n x.ty),.cp [.s o.name,T.n o.t,T.n o.tag] 1,.t (T.n o.t),.b false,.b false,.cp [.s x.name,T.n x.ty,.sl 3 (x.clock.map onT)] 2,.t (onsT x.clock),.t (declsT l),.i k,.cp [.s d.name,T.n d.ty,.sl 3 (d.clock.map onT)] 0,.cp [.s d.name,T.n d.ty,.sl 3 (d.clock.map onT)] 2,.t (onsT d.clock),.i j,.t (.sl 3 ((d.clock.map onT).take j)),.b false,.b true,.b true] ?_ ?_|refine wv hf ?_|refine wv hs ?_|exact trivial|exact And.intro rfl rfl|refine And.intro (fun H env=>?_) ?_|refine wk ?_|exact wkc|intro hc|refine wk2 ?_ ?_|fail)
     exact wkr
   ·rw[decide_eq_false ht]at ha2
    rw[ha,ha2]
    repeat' (first|refine wkt ?_|refine wka ?_|refine rg [.cp [.s x.name,T.n x.ty,.sl 3 (x.clock.map onT)] 1,.t (T.n x.ty),.cp [.s o.name,T.n o.t,T.n o.tag] 1,.t (T.n o.t),.b true,.b true,.t (.v undef),.t (.v undef),.t (.v undef),.t (.v undef),.t (.v undef),.t (.v undef),.t (.v undef),.t (.v undef),.t (.v undef),.t (.v undef),.t (.v undef),.b true] ?_ ?_|refine wv hf ?_|exact trivial|exact And.intro rfl rfl|refine And.intro (fun H env=>?_) ?_|refine wk ?_|exact wkc|intro hc|refine wk2 ?_ ?_|fail)
    exact wkr
  ·rw[List.take_length,List.drop_of_length_le (Nat.le_refl _)]at ha2
   rw[ha2]at ha
   repeat' (first|refine wkt ?_|refine wk ?_|exact wkc|intro hc|refine wk2 ?_ ?_|fail)
   exact LoopK.nextN hlt ha
 ·rw[ha,List.drop_of_length_le (Nat.le_refl _)]
  repeat' (first|refine wkt ?_|refine wk ?_|exact wkc|intro hc|refine wk2 ?_ ?_|fail)
  exact wkr
set_option maxHeartbeats 2000000 in
theorem equ12_sound (vars:List Decl) (hl:vars.length≤1000000000) (hk:∀d∈vars,SmallK d.clock) (h4:∀d∈vars,d.clock.length≤4) (u:Equ) (hu:u.left≠ []) (hul:u.left.length≤1000000000) (he:wEx u.right≤1000000000) (hn:∀x∈flat u.right,x.name.length≤1000000000) (h1:∀x∈flat u.right,oneX x=0) (hkn:∀s∈u.left,(findD vars s).isSome=true)
  (hft:∀ck:List OnC,ck.length≤4->fitsR vars (wEx u.right) u.right ck=fitsX vars u.right ck):
  Pure Tryz.prog 51 [.t (declsT vars),.t (.ag (equC u))] (.i (eqClk vars u)):=by
 have hml:(u.left.map T.s).length=u.left.length:=List.length_map _
 obtain⟨s0,ls,hls⟩:∃s0 ls,u.left=s0::ls:=by
  cases h:u.left with
  | nil=>exact absurd h hu
  | cons a b=>exact⟨a,b,rfl⟩
 have h0:(u.left.map T.s)[0]?=some (T.s s0):=by rw[hls];rfl
 have hlen:u.left.length=ls.length+1:=by rw[hls];rfl
 have hf:=findKR_sound vars hl s0
 have hdc:=findZ_clock vars s0
 have hsz:∀s,SmallK (findZ vars s).clock/\(findZ vars s).clock.length≤4:=fun s=>by
  unfold findZ
  cases h:findD vars s with
  | none=>exact⟨SmallK.nil,by simp[noD]⟩
  | some d=>exact⟨hk d (findD_mem h).1,h4 d (findD_mem h).1⟩
 have hs0:=hsz s0
 have hZ:(findZ vars s0).clock=(findZ vars s0).clock:=rfl
 have hfz:=fun s=>findKR_sound vars hl s
 have hsm:=fun s=>sameKR_sound (findZ vars s).clock (findZ vars s0).clock (hsz s).1 hs0.1
 have hI0:∀j (hj:j<u.left.length),j≤0->(findZ vars u.left[j]).clock=(findZ vars s0).clock:=fun j hj h=>by
  obtain rfl:j=0:=by omega
  rw[show u.left[0]=s0 by simp[hls]]
 have hfi:=fitsKR_sound vars hl hk _ u.right (Nat.le_refl _) he hn h1 (findZ vars s0).clock hs0.1 hs0.2
 rw[hft _ hs0.2]at hfi
 unfold eqClk
 rw[show u.left.headD []=s0 by rw[hls];rfl,<-hdc]
 generalize fitsX vars u.right (findZ vars s0).clock=z at*
 generalize hd:findZ vars s0=d at*
 generalize (findD vars s0).isSome=fo at*
 rw[show declT d= .ag [.s d.name,T.n d.ty,.sl 3 (d.clock.map onT)] from rfl]at hf
 unfold equC
 unfold exC at*
 refine Sound.of tabOk Tryz.func51 (by kernel_rfl) rfl rfl ?_
 repeat' (first|refine wkt ?_|refine wka ?_|refine wk ?_|exact wkc|intro hc|refine wk2 ?_ ?_|refine wv hf ?_|fail)
 refine TR.loopN ls.length (fun k=>∀j (hj:j<u.left.length),j≤k->(findZ vars u.left[j]).clock=d.clock) (fun k=>[(0,.t (declsT vars)),(3,.cp [.sl 1 (u.left.map T.s),T.n u.right.kind,T.n u.right.op,T.n u.right.t,T.n u.right.v,.s u.right.name,.sl 6 (u.right.args.map exT)] 0),(5,.cp [.s d.name,T.n d.ty,.sl 3 (d.clock.map onT)] 0),(7,.i ((k+1:Nat):Int))]) (fun _=>[]) hI0 (fun k hlt ha=>?_) (fun ha=>?_)
 ·have hlt2:k+1<u.left.length:=by omega
  have hx:=at_s hlt2
  have hf2:=hfz u.left[k+1]
  have hs:=hsm u.left[k+1]
  have hmem:=List.getElem_mem hlt2
  have hkk:=hkn _ hmem
  have hnx:(findZ vars u.left[k+1]).clock=d.clock->∀j (hj:j<u.left.length),j≤k+1->(findZ vars u.left[j]).clock=d.clock:=fun h j hj hjk=>by
   by_cases hq:j=k+1
   ·subst hq;exact h
   ·exact ha j hj (by omega)
  have hbad:(findZ vars u.left[k+1]).clock≠d.clock->¬(u.left.all fun s=>onX vars s d.clock)=true:=fun h hall=>by
   have:=List.all_eq_true.1 hall _ hmem
   rw[onX_ref hkk]at this
   exact h (of_decide_eq_true this)
  generalize (findD vars u.left[k+1]).isSome=fo2 at*
  generalize findZ vars u.left[k+1]=x at*
  generalize u.left[k+1]=s at*
  rw[show declT x= .ag [.s x.name,T.n x.ty,.sl 3 (x.clock.map onT)] from rfl]at hf2
  by_cases hq:x.clock=d.clock
  ·rw[decide_eq_true hq]at hs
   repeat' (first|refine wkt ?_|refine wka ?_|refine wk ?_|exact wkc|intro hc|refine wk2 ?_ ?_|refine wv hf2 ?_|refine wv hs ?_|fail)
   exact LoopK.nextN hlt (hnx hq)
  ·rw[decide_eq_false hq]at hs
   rw[if_neg (hbad hq)]
   repeat' (first|refine wkt ?_|refine wka ?_|refine wk ?_|exact wkc|intro hc|refine wk2 ?_ ?_|refine wv hf2 ?_|refine wv hs ?_|fail)
   exact wkr
 ·have hall:(u.left.all fun s=>onX vars s d.clock)=true:=by
   rw[List.all_eq_true]
   intro s hs
   obtain⟨j,hj,rfl⟩:=List.getElem_of_mem hs
   rw[onX_ref (hkn _ hs),ha j hj (by omega)]
   exact decide_eq_true rfl
  rw[if_pos hall]
  repeat' (first|refine wkt ?_|refine wk ?_|exact wkc|intro hc|refine wk2 ?_ ?_|refine wv hfi ?_|fail)
  exact wkr
theorem claims12_sound(vars:List Decl)(hl:vars.length≤1000000000)(hk:∀d∈vars,SmallK d.clock)(l:List Ex)(hll:l.length≤1000000000)(hw:∀e∈l,(wEx e≤1000000000/\∀x∈flat e,x.name.length≤1000000000)/\(∀x∈flat e,oneX x=0)/\fitsR vars (wEx e) e []=fitsX vars e []):
  Pure Tryz.prog 52 [.t (declsT vars),.t (.sl 6 (l.map exT))] (.i (firstE (fun e=>fitsX vars e []) l)):=by
 have hml:(l.map exT).length=l.length:=List.length_map _
 have hs:∀e∈l,Pure Tryz.prog 58 [.t (declsT vars),.t (.ag (exC e)),.t (onsT [])] (.i (fitsX vars e [])):=fun e he=>by
  obtain⟨⟨w1,w2⟩,w3,w4⟩:=hw e he
  rw[<-w4]
  exact fitsKR_sound vars hl hk _ e (Nat.le_refl _) w1 w2 w3 [] SmallK.nil (by simp)
 obtain⟨FX,hFX⟩:∃FX:Ex->Int,∀e,FX e=fitsX vars e []:=⟨_,fun _=>rfl⟩
 simp only[<-hFX]at hs⊢
 clear hw
 refine Sound.of tabOk Tryz.func52 (by kernel_rfl) rfl rfl ?_
 repeat' (first|refine wkt ?_|refine wk ?_|exact wkc|intro hc|refine wk2 ?_ ?_|fail)
 refine TR.loopN l.length (fun k=>firstE FX (l.take k)=0) (fun k=>[(0,.t (declsT vars)),(1,.t (.sl 6 (l.map exT))),(5,.i k)]) (fun _=>[]) rfl (fun k hlt ha=>?_) (fun ha=>?_)
 ·have hx:=at_exT hlt
  have g1:=firstE_at (f:=FX) hlt ha
  have g2:=firstE_next (f:=FX) hlt ha
  have hs:=hs _ (List.getElem_mem hlt)
  generalize l[k]=x at*
  generalize FX x=r at*
  unfold exC at hx hs
  repeat' (first|refine wkt ?_|refine wka ?_|refine wk ?_|exact wkc|intro hc|refine wk2 ?_ ?_|refine wv hs ?_|fail)
  all_goals first
   | exact LoopK.nextN hlt (g2 (by omega))
   | (rw[g1 (by omega)];exact wkr)
 ·rw[firstE_all ha]
  repeat' (first|refine wkt ?_|refine wk ?_|exact wkc|intro hc|refine wk2 ?_ ?_|fail)
  exact wkr
end Go.Proofs.YtlocalghkiepmaaGreat
