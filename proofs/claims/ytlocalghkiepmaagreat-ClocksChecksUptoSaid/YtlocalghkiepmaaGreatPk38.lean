import Derived.Test.YtlocalghkiepmaaGreatPk21
import Derived.Test.YtlocalghkiepmaaGreatPk29
import Derived.Test.YtlocalghkiepmaaGreatPk37
set_option linter.unusedSimpArgs false
set_option linter.unusedVariables false
namespace Go.Proofs.YtlocalghkiepmaaGreat
open Go Go.TL
attribute [local irreducible] TR TO Then InBlock RetK Sound LoopK Kf GG ThenL
def tagF10(tg:List Str)(s:Str):List Str×Int:=(tg++[s],if s∈tg then 7 else 0)
def enF10(st:List Str×List Str)(u:En):(List Str×List Str)×Int:=((st.1++[u.name],(foldS tagF10 st.2 u.tags).1),if u.name∈st.1 then 7 else(foldS tagF10 st.2 u.tags).2)
def nods10(p:Prog)(tags:List Str):Nat->List Nod->(Int×Int)×Int
 | _,[]=>((0,0),0)
 | i,n::l=>if(nodR p i tags n).2=0 then nods10 p tags (i+1) l else(((i:Int),(nodR p i tags n).1),(nodR p i tags n).2)
def chk10(p:Prog):(Int×Int)×Int:=
 if(shapeX p).2≠0 then shapeX p else
 if(foldS enF10 ([],[]) p.enums).2≠0 then((-1,-1),(foldS enF10 ([],[]) p.enums).2) else nods10 p (foldS enF10 ([],[]) p.enums).1.2 0 p.nodes
theorem tag_err:∀(l tg:List Str),(foldS tagF10 tg l).2=0\/(foldS tagF10 tg l).2=7
 | [],_=>.inl rfl
 | s::l,tg=>by
   rw[foldS]
   split
   ·exact tag_err l _
   ·rename_i h
    by_cases hs:s∈tg
    ·exact .inr (by simp[tagF10,hs])
    ·exact absurd (by simp[tagF10,hs]) h
theorem tag_len:∀(l tg:List Str),(foldS tagF10 tg l).1.length≤tg.length+l.length:=fun l tg=>foldS_len (F:=tagF10) (fun d x=>by simp[tagF10]) l tg
theorem en_names:∀(l:List En) (st:List Str×List Str),(foldS enF10 st l).2=0->(foldS enF10 st l).1.1=st.1++l.map En.name
 | [],st,_=>by simp[foldS]
 | u::l,st,h=>by
   rw[foldS]at h⊢
   split at h
   ·rename_i h0
    rw[if_pos h0,en_names l _ h]
    simp[enF10]
   ·rename_i h0;exact absurd h h0
theorem en_len:∀(l:List En) (st:List Str×List Str),(foldS enF10 st l).2=0->(foldS enF10 st l).1.2.length≤st.2.length+(l.map fun u=>u.tags.length).sum
 | [],st,_=>by simp[foldS]
 | u::l,st,h=>by
   rw[foldS]at h⊢
   split at h
   ·rename_i h0
    rw[if_pos h0]
    have h1:=en_len l _ h
    have h2:=tag_len u.tags st.2
    simp only[enF10,List.map_cons,List.sum_cons]at h1⊢
    omega
   ·rename_i h0;exact absurd h h0
theorem nods10_at(p:Prog)(tags:List Str):∀ {l:List Nod} {b j:Nat} (hj:j<l.length),(∀k (hk:k<j),(nodR p (b+k) tags (l[k]'(by omega))).2=0)->(nodR p (b+j) tags l[j]).2≠0->nods10 p tags b l=((((b+j:Nat):Int),(nodR p (b+j) tags l[j]).1),(nodR p (b+j) tags l[j]).2)
 | n::l,b,0,hj,h,hn=>by
   simp only[Nat.add_zero,List.getElem_cons_zero]at hn⊢
   rw[nods10,if_neg hn]
 | n::l,b,j+1,hj,h,hn=>by
   have h0:=h 0 (by omega)
   simp only[Nat.add_zero,List.getElem_cons_zero]at h0
   simp only[List.getElem_cons_succ]at hn⊢
   rw[nods10,if_pos h0,nods10_at p tags (b:=b+1) (j:=j) (by simpa using hj) (fun k hk=>by
    have:=h (k+1) (by omega)
    simp only[List.getElem_cons_succ]at this
    rw[show b+1+k=b+(k+1) from by omega];exact this) (by rw[show b+1+j=b+(j+1) from by omega];exact hn)]
   rw[show b+1+j=b+(j+1) from by omega]
theorem nods10_zero(p:Prog)(tags:List Str):∀ {l:List Nod} {b:Nat},(∀k (hk:k<l.length),(nodR p (b+k) tags l[k]).2=0)->nods10 p tags b l=((0,0),0)
 | [],_,_=>rfl
 | n::l,b,h=>by
   have h0:=h 0 (by simp)
   simp only[Nat.add_zero,List.getElem_cons_zero]at h0
   rw[nods10,if_pos h0,nods10_zero p tags (b:=b+1) fun k hk=>by
    have:=h (k+1) (by simpa using hk)
    simp only[List.getElem_cons_succ]at this
    rw[show b+1+k=b+(k+1) from by omega];exact this]
set_option maxHeartbeats 4000000 in
theorem check10_sound (p:Prog) (hw:(T.ag (progC p)).w≤100000000):Pure Tryz.prog 37 [.t (.ag (progC p))] (.tup [.t (.ag [T.i (chk10 p).1.1,T.i (chk10 p).1.2]),.i (chk10 p).2]):=by
 have hsh:=shapeR_sound p (by omega)
 obtain⟨hP,hln,hpl⟩:=smallP_of hw
 have hml:(p.nodes.map nodT).length=p.nodes.length:=List.length_map _
 have hme:(p.enums.map enT).length=p.enums.length:=List.length_map _
 have hw2:(T.sl 2 (p.enums.map enT)).w≤100000000:=by rw[w_ag]at hw;simp only[progC,List.map_cons,List.map_nil,List.sum_cons,List.sum_nil]at hw;omega
 have hel:=w_lenM enT 2 p.enums
 have hR:chk10 p=chk10 p:=rfl
 conv at hR=>rhs;unfold chk10
 generalize chk10 p=R at hR⊢
 by_cases hs0:(shapeX p).2≠0
 ·rw[if_pos hs0]at hR
  generalize shapeX p=z at*
  obtain⟨⟨z1,z2⟩,z3⟩:=z
  simp only at hs0 hsh
  unfold progC at*
  refine Sound.of tabOk Tryz.func37 (by kernel_rfl) rfl rfl ?_
  repeat' (first|refine wkb ?_|refine wv hsh ?_|(apply TO.store tabOk;exact rfl;exact rfl;exact rfl;exact rfl;exact rfl;exact rfl;exact Nat.le_of_ble_eq_true rfl;exact rfl;exact Nat.le_of_ble_eq_true rfl;exact rfl)|exact trivial|exact And.intro rfl rfl|refine And.intro (fun H env=>?_) ?_|refine And.intro (fun env=>?_) ?_|refine wk ?_|exact wkc|intro hc|refine wk2 ?_ ?_|fail)
  all_goals first
   | (exfalso;omega)
   | (rw[hR];exact wkr)
 rw[if_neg hs0]at hR
 have hs1:(shapeX p).2=0:=Decidable.not_not.1 hs0
 have hno:=fun(n:Nod) (hn:n∈p.nodes)=>node_ok (shape_nodes hs1 n hn) (hln n hn)
 rw[hs1]at hsh
 generalize (shapeX p).1=z at*
 obtain⟨w1,w2⟩:=z
 have htags:∀u∈p.enums,u.tags.length≤(enT u).w:=fun u _=>by
  have:=w_lenM T.s 1 u.tags
  rw[show enT u= .ag [.s u.name,.sl 1 (u.tags.map T.s)] from rfl,w_ag];simp only[List.map_cons,List.map_nil,List.sum_cons,List.sum_nil];omega
 have hts:=sum_le_w (m:=fun u:En=>u.tags.length) (f:=enT) 2 p.enums htags
 have hnode:=fun(tags:List Str) (ht:tags.length≤1000000000) (i:Nat) (hi:i<p.nodes.length)=>node10_sound p hP (by omega) i hi tags ht (hno _ (List.getElem_mem hi))
 have f1:∀st u,enF10 st u=((st.1++[u.name],(foldS tagF10 st.2 u.tags).1),if u.name∈st.1 then 7 else(foldS tagF10 st.2 u.tags).2):=fun _ _=>rfl
 have f2:∀d s,tagF10 d s=(d++[s],if s∈d then 7 else 0):=fun _ _=>rfl
 have hnmA:=fun l=>en_names l ([],[])
 have hlA:=fun l=>en_len l ([],[])
 have htl:=tag_len
 have hte:=tag_err
 generalize enF10=F at*
 generalize tagF10=G at*
 unfold progC at*
 simp only at hsh
 refine Sound.of tabOk Tryz.func37 (by kernel_rfl) rfl rfl ?_
 repeat' (first|refine wkb ?_|refine wv hsh ?_|(apply TO.store tabOk;exact rfl;exact rfl;exact rfl;exact rfl;exact rfl;exact rfl;exact Nat.le_of_ble_eq_true rfl;exact rfl;exact Nat.le_of_ble_eq_true rfl;exact rfl)|exact trivial|exact And.intro rfl rfl|refine And.intro (fun H env=>?_) ?_|refine And.intro (fun env=>?_) ?_|refine wk ?_|exact wkc|intro hc|refine wk2 ?_ ?_|fail)
 all_goals try(exfalso;omega)
 refine TR.tail 1 6 rfl ?_
 refine TR.loopN p.enums.length (fun j=>(foldS F ([],[]) (p.enums.take j)).2=0) (fun j=>[(1,.cp [.sl 2 (p.enums.map enT),nodesT p.nodes] 0),(2,.ref 0 0),(6,.sl 1 ((foldS F ([],[]) (p.enums.take j)).1.2.map T.s) 2),(7,.i j)]) (fun j=>[.cells [.i 0,.i 0],.cells [.i w1,.i w2],.tail ((foldS F ([],[]) (p.enums.take j)).1.2.map T.s).length]) rfl (fun j hlj hj=>?_) (fun hj=>?_)
 ·have hx:=at_map enT hlj
  have hn:=foldS_next hlj hj
  have hat:=foldS_at hlj hj
  have hnm:=hnmA _ hj
  have hl1:=hlA _ hj
  have hl2:=sum_tk_le (fun u:En=>u.tags.length) p.enums (j+1)
  rw[take_at hlj,List.map_append,List.sum_append]at hl2
  have hxe:enT p.enums[j]= .ag [.s p.enums[j].name,.sl 1 (p.enums[j].tags.map T.s)]:=rfl
  simp only[List.map_cons,List.map_nil,List.sum_cons,List.sum_nil,List.nil_append,List.length_nil]at hl1 hl2 hnm
  generalize foldS F ([],[]) (p.enums.take j)=d at*
  obtain⟨⟨pn,D⟩,d2⟩:=d
  simp only at hj hn hat hnm hl1
  subst hj
  subst hnm
  have hkx:∀k (hk:k<p.enums.length),(p.enums.map enT)[k]?=some (.ag [.s p.enums[k].name,.sl 1 (p.enums[k].tags.map T.s)]):=fun k hk=>at_map enT hk
  have htk:∀k (hk:k<p.enums.length),p.enums.take (k+1)=p.enums.take k++[p.enums[k]]:=fun k hk=>take_at hk
  have hmem:∀k (hk:k<j),p.enums[k].name∈(p.enums.take j).map En.name:=fun k hk=>List.mem_map_of_mem (List.mem_take_iff_getElem.2 ⟨k,by omega,rfl⟩)
  generalize hxg:p.enums[j]=x at*
  rw[hxe]at hx
  rw[f1]at hn hat
  simp only at hn hat
  repeat' (first|refine wkb ?_|refine wk ?_|exact wkc|intro hc|refine wk2 ?_ ?_|fail)
  refine TR.loopN j (fun k=>x.name ∉ (p.enums.take k).map En.name) (fun k=>[(1,.cp [.sl 2 (p.enums.map enT),nodesT p.nodes] 0),(2,.ref 0 0),(6,.sl 1 (D.map T.s) 2),(7,.i j),(8,.i k)]) (fun _=>[.cells [.i 0,.i 0],.cells [.i w1,.i w2],.tail (D.map T.s).length]) (by simp) (fun k hlk hk=>?_) (fun hk=>?_)
  ·have hy:=hkx k (by omega)
   have hty:=htk k (by omega)
   have hmy:=hmem k hlk
   generalize p.enums[k]=y at*
   clear hkx htk hmem hnode hsh hno
   by_cases hyx:y.name=x.name
   ·rw[if_pos (show x.name∈_ from hyx ▸ hmy)]at hat
    have hat:=hat (show(7:Int)≠0 by decide)
    rw[hat,if_pos (show(7:Int)≠0 by decide)]at hR
    repeat' (first|refine wkb ?_|refine rg [.cp [.sl 2 (p.enums.map enT),nodesT p.nodes] 0,.t (.sl 2 (p.enums.map enT)),.i k,.cp [.s y.name,.sl 1 (y.tags.map T.s)] 0,.cp [.s y.name,.sl 1 (y.tags.map T.s)] 0,.t (.s y.name),.cp [.sl 2 (p.enums.map enT),nodesT p.nodes] 0,.t (.sl 2 (p.enums.map enT)),.i j,.cp [.s x.name,.sl 1 (x.tags.map T.s)] 0,.cp [.s x.name,.sl 1 (x.tags.map T.s)] 0,.t (.s x.name),.b true] ?_ ?_|(apply TO.store tabOk;exact rfl;exact rfl;exact rfl;exact rfl;exact rfl;exact rfl;exact Nat.le_of_ble_eq_true rfl;exact rfl;exact Nat.le_of_ble_eq_true rfl;exact rfl)|exact trivial|exact And.intro rfl rfl|refine And.intro (fun H env=>?_) ?_|refine And.intro (fun env=>?_) ?_|refine wk ?_|exact wkc|intro hc|refine wk2 ?_ ?_|fail)
    all_goals first
     | (exfalso;exact absurd hyx (by assumption))
     | (exfalso;omega)
     | (rw[hR];exact wkr)
   ·repeat' (first|refine wkb ?_|refine rg [.cp [.sl 2 (p.enums.map enT),nodesT p.nodes] 0,.t (.sl 2 (p.enums.map enT)),.i k,.cp [.s y.name,.sl 1 (y.tags.map T.s)] 0,.cp [.s y.name,.sl 1 (y.tags.map T.s)] 0,.t (.s y.name),.cp [.sl 2 (p.enums.map enT),nodesT p.nodes] 0,.t (.sl 2 (p.enums.map enT)),.i j,.cp [.s x.name,.sl 1 (x.tags.map T.s)] 0,.cp [.s x.name,.sl 1 (x.tags.map T.s)] 0,.t (.s x.name),.b false] ?_ ?_|(apply TO.store tabOk;exact rfl;exact rfl;exact rfl;exact rfl;exact rfl;exact rfl;exact Nat.le_of_ble_eq_true rfl;exact rfl;exact Nat.le_of_ble_eq_true rfl;exact rfl)|exact trivial|exact And.intro rfl rfl|refine And.intro (fun H env=>?_) ?_|refine And.intro (fun env=>?_) ?_|refine wk ?_|exact wkc|intro hc|refine wk2 ?_ ?_|fail)
    all_goals first
     | (exfalso;exact absurd (by assumption) hyx)
     | (exfalso;omega)
     | exact LoopK.nextN hlk (by rw[hty,List.map_append,List.mem_append];rintro(h|h);exact hk h;exact hyx (List.mem_singleton.1 h).symm)
  clear hkx htk hmem hnode hsh hno
  rw[if_neg hk]at hn hat
  have hmt:(x.tags.map T.s).length=x.tags.length:=List.length_map _
  have hmj:(p.enums.map enT).length=p.enums.length:=List.length_map _
  repeat' (first|refine wkb ?_|refine wk ?_|exact wkc|intro hc|refine wk2 ?_ ?_|fail)
  refine TR.loopN x.tags.length (fun k=>(foldS G D (x.tags.take k)).2=0) (fun k=>[(1,.cp [.sl 2 (p.enums.map enT),nodesT p.nodes] 0),(2,.ref 0 0),(6,.sl 1 ((foldS G D (x.tags.take k)).1.map T.s) 2),(7,.i j),(9,.i k)]) (fun k=>[.cells [.i 0,.i 0],.cells [.i w1,.i w2],.tail ((foldS G D (x.tags.take k)).1.map T.s).length]) rfl (fun k hlk hk2=>?_) (fun hk2=>?_)
  ·have hz:=at_strs hlk
   have hn2:=foldS_next hlk hk2
   have hat2:=foldS_at hlk hk2
   have hln2:=htl (x.tags.take k) D
   rw[List.length_take]at hln2
   generalize foldS G D (x.tags.take k)=d at*
   obtain⟨D2,c2⟩:=d
   simp only at hk2 hn2 hat2 hln2
   subst hk2
   have hwx:=htags x (by rw[<-hxg];exact List.getElem_mem hlj)
   have hih:=has6_sound D2 x.tags[k] (by omega)
   generalize x.tags[k]=y at*
   rw[f2]at hn2 hat2
   have hdm:(D2.map T.s).length=D2.length:=List.length_map _
   by_cases hm:y∈D2
   ·rw[decide_eq_true hm]at hih
    rw[if_pos hm]at hat2
    have hat2:=hat2 (show(7:Int)≠0 by decide)
    rw[hat2]at hat
    have hat:=hat (show(7:Int)≠0 by decide)
    rw[hat,if_pos (show(7:Int)≠0 by decide)]at hR
    repeat' (first|refine wkb ?_|refine wv hih ?_|(apply TO.store tabOk;exact rfl;exact rfl;exact rfl;exact rfl;exact rfl;exact rfl;exact Nat.le_of_ble_eq_true rfl;exact rfl;exact Nat.le_of_ble_eq_true rfl;exact rfl)|exact trivial|exact And.intro rfl rfl|refine And.intro (fun H env=>?_) ?_|refine And.intro (fun env=>?_) ?_|refine wk ?_|exact wkc|intro hc|refine wk2 ?_ ?_|fail)
    all_goals first
     | (exfalso;omega)
     | (rw[hR];exact wkr)
   ·rw[decide_eq_false hm]at hih
    rw[if_neg hm]at hn2
    repeat' (first|refine wkb ?_|refine wv hih ?_|(apply TO.store tabOk;exact rfl;exact rfl;exact rfl;exact rfl;exact rfl;exact rfl;exact Nat.le_of_ble_eq_true rfl;exact rfl;exact Nat.le_of_ble_eq_true rfl;exact rfl)|exact trivial|exact And.intro rfl rfl|refine And.intro (fun H env=>?_) ?_|refine And.intro (fun env=>?_) ?_|refine wk ?_|exact wkc|intro hc|refine wk2 ?_ ?_|fail)
    exact LoopK.nextN hlk (by rw[hn2]) (by(try dsimp only);rw[hn2,List.map_append];exact⟨rfl,rfl,rfl,rfl,rfl,trivial⟩) (by(try dsimp only);rw[hn2,List.map_append,List.length_append];rfl)
  ·rw[List.take_length]at hk2⊢
   rw[hk2]at hn
   repeat' (first|refine wkb ?_|refine wk ?_|exact wkc|intro hc|refine wk2 ?_ ?_|fail)
   exact LoopK.nextN hlj (by rw[hn]) (by(try dsimp only);rw[hn];exact⟨rfl,rfl,rfl,rfl,trivial⟩) (by(try dsimp only);rw[hn])
 rw[List.take_length]at hj⊢
 rw[if_neg (by simp[hj])]at hR
 have hl1:=hlA _ hj
 simp only[List.length_nil]at hl1
 generalize foldS F ([],[]) p.enums=d at*
 obtain⟨⟨pn,D⟩,d2⟩:=d
 simp only at hj hl1 hR
 subst hj
 have hnode:=hnode D (by omega)
 have hnat:=fun{j:Nat} (hj:j<p.nodes.length)=>nods10_at p D (l:=p.nodes) (b:=0) hj
 have hnz:=nods10_zero p D (l:=p.nodes) (b:=0)
 simp only[Nat.zero_add]at hnat hnz
 clear hsh hno
 repeat' (first|refine wkb ?_|refine wk ?_|exact wkc|intro hc|refine wk2 ?_ ?_|fail)
 refine TR.loopN p.nodes.length (fun j=>∀k (hk:k<j) (hk2:k<p.nodes.length),(nodR p k D p.nodes[k]).2=0) (fun j=>[(1,.cp [.sl 2 (p.enums.map enT),nodesT p.nodes] 0),(2,.ref 0 0),(6,.sl 1 (D.map T.s) 2),(10,.i j)]) (fun j=>[.cells [.i 0,.i 0],.cells [.i w1,.i w2],.tail (D.map T.s).length]) (fun k hk=>absurd hk (Nat.not_lt_zero k)) (fun j hlj hj=>?_) (fun hj=>?_)
 ·have hi:=hnode j hlj
  have hat:=hnat hlj (fun k hk=>hj k hk (by omega))
  have hnx:(nodR p j D p.nodes[j]).2=0->∀k (hk:k<j+1) (hk2:k<p.nodes.length),(nodR p k D p.nodes[k]).2=0:=fun h k hk hk2=>by
   by_cases hkj:k=j
   ·subst hkj;exact h
   ·exact hj k (by omega) hk2
  generalize nodR p j D p.nodes[j]=r at*
  obtain⟨r1,r2⟩:=r
  simp only at hi hat hnx
  clear hnode hnat hnz hj
  repeat' (first|refine wkb ?_|refine wv hi ?_|(apply TO.store tabOk;exact rfl;exact rfl;exact rfl;exact rfl;exact rfl;exact rfl;exact Nat.le_of_ble_eq_true rfl;exact rfl;exact Nat.le_of_ble_eq_true rfl;exact rfl)|exact trivial|exact And.intro rfl rfl|refine And.intro (fun H env=>?_) ?_|refine And.intro (fun env=>?_) ?_|refine wk ?_|exact wkc|intro hc|refine wk2 ?_ ?_|fail)
  ·rw[hat hc]at hR
   rw[hR];exact wkr
  ·exact LoopK.nextN hlj (hnx (Decidable.not_not.1 hc))
 ·rw[hnz fun k hk=>hj k hk hk]at hR
  clear hnode hnat hnz hj
  repeat' (first|refine wkb ?_|(apply TO.store tabOk;exact rfl;exact rfl;exact rfl;exact rfl;exact rfl;exact rfl;exact Nat.le_of_ble_eq_true rfl;exact rfl;exact Nat.le_of_ble_eq_true rfl;exact rfl)|exact trivial|exact And.intro rfl rfl|refine And.intro (fun H env=>?_) ?_|refine And.intro (fun env=>?_) ?_|refine wk ?_|exact wkc|intro hc|refine wk2 ?_ ?_|fail)
  all_goals first
   | (exfalso;omega)
   | (rw[hR];exact wkr)
structure Inv (s:Plr) (vis0 low df0 df:List Str) (a:Lv):Prop where
 vis:s.vis=vis0++a.own
 low:∀x,(x∈low\/x∈a.done) ↔ (x∈s.inputs\/x∈df)
 dfs:df=df0++a.defs
 dd:∀x,x∈a.done ↔ x∈a.defs
 nd:a.defs.Nodup
 new:∀x∈a.defs,x ∉ s.inputs/\x ∉ df0
theorem mem_insX{l:List Str}{s x:Str}:x∈ins l s ↔ x∈l\/x=s:=by
 unfold ins
 split
 ·rename_i h
  constructor
  ·exact .inl
  ·rintro(h1|rfl)
   ·exact h1
   ·exact h
 ·simp
theorem foldS_inv{A B X:Type}{f:A->X->A×Int}{g:B->X->B×Int}(R:A->B->Prop):∀(l:List X),(∀x∈l,∀a b,R a b->(f a x).2=(g b x).2/\((g b x).2=0->R (f a x).1 (g b x).1))->∀a b,R a b->(foldS f a l).2=(foldS g b l).2/\((foldS g b l).2=0->R (foldS f a l).1 (foldS g b l).1)
 | [],_,a,b,h=>⟨rfl,fun _=>h⟩
 | x::l,hs,a,b,h=>by
   obtain⟨h1,h2⟩:=hs x (by simp) a b h
   simp only[foldS]
   by_cases h0:(g b x).2=0
   ·rw[if_pos h0,if_pos (h1.trans h0)]
    exact foldS_inv R l (fun y hy=>hs y (by simp[hy])) _ _ (h2 h0)
   ·rw[if_neg h0,if_neg (by rw[h1];exact h0)]
    exact⟨h1,fun h=>absurd h h0⟩
theorem left_inv{s:Plr}{vis0 low df0 df:List Str}{a:Lv}(h:Inv s vis0 low df0 df a)(l:List Str):
  (foldS (leftF s.vis low) a l).2=(foldS (leftF10 s) df l).2/\((foldS (leftF10 s) df l).2=0->Inv s vis0 low df0 (foldS (leftF10 s) df l).1 (foldS (leftF s.vis low) a l).1):=by
 refine foldS_inv (fun(a:Lv) (df:List Str)=>Inv s vis0 low df0 df a) l (fun x _ a df h=>?_) a df h
 have hl:=h.low x
 by_cases hv:x∈s.vis
 ·by_cases hd:x∈s.inputs\/x∈df
  ·have e1:(leftF s.vis low a x).2=7:=by simp only[leftF];rw[if_pos hv,if_pos (hl.2 hd)]
   have e2:(leftF10 s df x).2=7:=by simp only[leftF10];rw[if_neg (by simpa using hv),if_pos hd]
   exact⟨e1.trans e2.symm,fun h0=>by rw[e2]at h0;cases h0⟩
  ·have e1:(leftF s.vis low a x).2=0:=by simp only[leftF];rw[if_pos hv,if_neg (fun hh=>hd (hl.1 hh))]
   have e2:(leftF10 s df x).2=0:=by simp only[leftF10];rw[if_neg (by simpa using hv),if_neg hd]
   refine⟨e1.trans e2.symm,fun _=>⟨h.vis,fun y=>?_,?_,fun y=>?_,?_,fun y hy=>?_⟩⟩
   ·have:=h.low y
    show(y∈low\/y∈ins a.done x) ↔ (y∈s.inputs\/y∈df++[x])
    rw[mem_insX];simp only[List.mem_append,List.mem_singleton]
    constructor
    ·rintro(h1|h1|h1)
     ·rcases this.1 (.inl h1)with h2|h2
      ·exact .inl h2
      ·exact .inr (.inl h2)
     ·rcases this.1 (.inr h1)with h2|h2
      ·exact .inl h2
      ·exact .inr (.inl h2)
     ·exact .inr (.inr h1)
    ·rintro(h1|h1|h1)
     ·rcases this.2 (.inl h1)with h2|h2
      ·exact .inl h2
      ·exact .inr (.inl h2)
     ·rcases this.2 (.inr h1)with h2|h2
      ·exact .inl h2
      ·exact .inr (.inl h2)
     ·exact .inr (.inr h1)
   ·show df++[x]=df0++(a.defs++[x])
    rw[h.dfs,List.append_assoc]
   ·show y∈ins a.done x ↔ y∈a.defs++[x]
    rw[mem_insX,h.dd y];simp
   ·show(a.defs++[x]).Nodup
    refine List.nodup_append.2 ⟨h.nd,by simp,fun p hp q hq e=>?_⟩
    have hq':q=x:=by simpa using hq
    subst hq';subst e
    exact hd (.inr (by rw[h.dfs];simp[hp]))
   ·have hy':y∈a.defs\/y=x:=by
     have:y∈a.defs++[x]:=hy
     simpa using this
    rcases hy' with hy'|rfl
    ·exact h.new y hy'
    ·exact⟨fun hh=>hd (.inl hh),fun hh=>hd (.inr (by rw[h.dfs];simp[hh]))⟩
 ·have e1:(leftF s.vis low a x).2=6:=by simp only[leftF];rw[if_neg hv]
  have e2:(leftF10 s df x).2=6:=by simp only[leftF10];rw[if_pos hv]
  exact⟨e1.trans e2.symm,fun h0=>by rw[e2]at h0;cases h0⟩
theorem equ_inv{p:Prog}{seen:List (Int×Str×Int)}{node:Int}{s:Plr}(hE:∀vis left e,exprS p seen node vis left e=exprRf (s.at vis) left e){vis0 low df0 df:List Str}{a:Lv}(h:Inv s vis0 low df0 df a)(u:Equ):
  (equS p seen node vis0 low a u).2=(equR s df u).2/\((equR s df u).2=0->Inv s vis0 low df0 (equR s df u).1 (equS p seen node vis0 low a u).1):=by
 obtain⟨h1,h2⟩:=left_inv h u.left
 have he:=hE s.vis u.left.length u.right
 rw[show s.at s.vis=s from rfl]at he
 unfold equS equR
 rw[<-h.vis,h1,he]
 by_cases h0:(foldS (leftF10 s) df u.left).2=0
 ·rw[if_neg (by simp[h0]),h0]
  exact⟨rfl,fun _=>h2 h0⟩
 ·rw[if_pos h0]
  refine⟨?_,fun hh=>absurd hh h0⟩
  simp only[orE,if_neg h0]
theorem decl_inv{seen:List (Int×Str×Int)}{tags:List Str}(ht:∀x,(seenGet seen 0 x).isSome=true ↔ x∈tags)(vis0:List Str)(l:List Decl):
  (foldS (declF seen vis0) lv0 l).2=(foldS (declF10 tags) vis0 l).2/\((foldS (declF10 tags) vis0 l).2=0->(foldS (declF10 tags) vis0 l).1=vis0++(foldS (declF seen vis0) lv0 l).1.own/\(foldS (declF seen vis0) lv0 l).1.done=[]/\(foldS (declF seen vis0) lv0 l).1.defs=[]):=by
 refine foldS_inv (fun(a:Lv) (vis:List Str)=>vis=vis0++a.own/\a.done=[]/\a.defs=[]) l (fun x _ a vis h=>?_) lv0 vis0 ⟨by simp[lv0],rfl,rfl⟩
 obtain⟨rfl,h2,h3⟩:=h
 have:=ht x.name
 by_cases hc:x.name∈vis0++a.own\/x.name∈tags
 ·have e1:(declF seen vis0 a x).2=7:=by
   simp only[declF];rw[if_pos]
   rcases hc with hc|hc
   ·exact .inr hc
   ·exact .inl (this.2 hc)
  have e2:(declF10 tags (vis0++a.own) x).2=7:=by simp only[declF10];rw[if_pos hc]
  exact⟨e1.trans e2.symm,fun h0=>by rw[e2]at h0;cases h0⟩
 ·have e1:(declF seen vis0 a x).2=0:=by
   simp only[declF];rw[if_neg]
   rintro(h|h)
   ·exact hc (.inr (this.1 h))
   ·exact hc (.inl h)
  have e2:(declF10 tags (vis0++a.own) x).2=0:=by simp only[declF10];rw[if_neg hc]
  refine⟨e1.trans e2.symm,fun _=>⟨?_,h2,h3⟩⟩
  show vis0++a.own++[x.name]=vis0++ins a.own x.name
  unfold ins
  rw[if_neg (fun hh=>hc (.inl (by simp[hh]))),List.append_assoc]
theorem decl10_names(tags:List Str):∀(l:List Decl) (vis:List Str),(foldS (declF10 tags) vis l).2=0->(foldS (declF10 tags) vis l).1=vis++l.map Decl.name
 | [],vis,_=>by simp[foldS]
 | x::l,vis,h=>by
   rw[foldS]at h⊢
   split at h
   ·rename_i h0
    rw[if_pos h0,decl10_names tags l _ h]
    simp[declF10]
   ·rename_i h0;exact absurd h h0
theorem locals_done{l:List Decl}{done:List Str}:firstE (fun d:Decl=>if d.name∈done then(0:Int) else 8) l=if wo (l.map Decl.name) done=[] then 0 else 8:=by
 induction l with
 | nil=>rfl
 | cons d l ih=>
   rw[firstE]
   by_cases hd:d.name∈done
   ·rw[if_pos hd,if_pos rfl,ih]
    have:wo ((d::l).map Decl.name) done=wo (l.map Decl.name) done:=by simp[wo,hd]
    rw[this]
   ·rw[if_neg hd,if_neg (by decide)]
    have:wo ((d::l).map Decl.name) done≠ []:=by simp[wo,hd]
    rw[if_neg this]
theorem wo_congr{a b c:List Str}(h:∀x,x∈b ↔ x∈c):wo a b=wo a c:=by
 unfold wo
 congr 1
 funext x
 simp[h x]
theorem nodup_sub:∀(a b:List Str),a.Nodup->(∀x∈a,x∈b)->a.length≤b.length/\(a.length=b.length->∀x∈b,x∈a)
 | [],b,_,_=>⟨by simp,fun h x hx=>by
   have:b=[]:=List.eq_nil_of_length_eq_zero h.symm
   rw[this]at hx;cases hx⟩
 | x::a,b,hn,hs=>by
   obtain⟨hx,hn'⟩:=List.nodup_cons.1 hn
   have hxb:=hs x (by simp)
   have hl:(b.erase x).length=b.length-1:=List.length_erase_of_mem hxb
   have hp:0<b.length:=List.length_pos_of_mem hxb
   obtain⟨h1,h2⟩:=nodup_sub a (b.erase x) hn' (fun y hy=>(List.mem_erase_of_ne (fun e=>hx (by rw[<-e];exact hy))).2 (hs y (by simp[hy])))
   simp only[List.length_cons]
   refine⟨by omega,fun h y hy=>?_⟩
   by_cases e:y=x
   ·subst e;simp
   ·have:=h2 (by omega) y ((List.mem_erase_of_ne e).2 hy)
    simp[this]
theorem alike_same{a b:List Str}(ha:a.Nodup)(hb:b.Nodup):alikeB a b=sameB a b:=by
 have hsub:wo a b=[] ↔ ∀x∈a,x∈b:=by
  unfold wo;rw[List.filter_eq_nil_iff];simp
 have hsub2:wo b a=[] ↔ ∀x∈b,x∈a:=by
  unfold wo;rw[List.filter_eq_nil_iff];simp
 have h1:(!(a.any fun x=>!decide (x∈b)))=decide (wo a b=[]):=by
  rw[Bool.eq_iff_iff,decide_eq_true_iff,hsub]
  simp
 unfold alikeB sameB
 rw[h1,Bool.and_comm,Bool.eq_iff_iff]
 simp only[Bool.and_eq_true,decide_eq_true_eq]
 constructor
 ·rintro⟨h2,h3⟩
  exact⟨h2,hsub2.2 ((nodup_sub a b ha (hsub.1 h2)).2 h3)⟩
 ·rintro⟨h2,h3⟩
  have g1:=(nodup_sub a b ha (hsub.1 h2)).1
  have g2:=(nodup_sub b a hb (hsub2.1 h3)).1
  exact⟨h2,by omega⟩
theorem dup_err:∀(l pre:List Str),dupE pre l=0\/dupE pre l=7
 | [],_=>.inl rfl
 | s::l,pre=>by
   rw[dupE]
   split
   ·exact .inr rfl
   ·exact dup_err l _
def StOk(s:Plr)(df:List Str)(r r':List Str×Int):Prop:=r.2=r'.2/\(r'.2=0->r.1=r'.1/\r.1.Nodup/\∀y∈r.1,y ∉ s.inputs/\y ∉ df)
theorem st_inv{p:Prog}{seen:List (Int×Str×Int)}{node:Int}{F:List Str->List Str->Lv->Auto->Lv×Int}{G:Plr->List Str->Auto->List Str×Int}{s:Plr}(hE:∀vis left e,exprS p seen node vis left e=exprRf (s.at vis) left e)(ht:∀x,(seenGet seen 0 x).isSome=true ↔ x∈s.tags)
  (hF:∀vis low' df0 df a A,Inv (s.at vis) s.vis low' df0 df a->(F s.vis low' a A).2=(G (s.at vis) df A).2/\((G (s.at vis) df A).2=0->Inv (s.at vis) s.vis low' df0 (df++(G (s.at vis) df A).1) (F s.vis low' a A).1))
  {vis0 low df0 df:List Str}{a:Lv}(h:Inv s vis0 low df0 df a)(x:Sta):StOk s df (stS p seen node F (vis0++a.own) (low++a.done) x) (stR G s x df):=by
 rw[<-h.vis]
 unfold stS stR StOk
 simp only[]
 obtain⟨d1,d2⟩:=decl_inv ht s.vis x.locals
 have dn:=decl10_names s.tags x.locals s.vis
 have hdR:(declR s.vis s.tags x.locals).2=orE (foldS (declF10 s.tags) s.vis x.locals).2 (samplE (foldS (declF10 s.tags) s.vis x.locals).1 x.locals)/\((declR s.vis s.tags x.locals).2=0->(declR s.vis s.tags x.locals).1=(foldS (declF10 s.tags) s.vis x.locals).1):=by
  unfold declR
  split
  ·rename_i h0;exact⟨by simp only[orE,if_neg h0],fun hh=>absurd hh h0⟩
  ·rename_i h0
   have h0':=Decidable.not_not.1 h0
   split
   ·rename_i h1;exact⟨by simp only[orE,h0',if_true],fun hh=>absurd hh h1⟩
   ·rename_i h1;exact⟨by simp only[orE,h0',if_true];exact(Decidable.not_not.1 h1).symm,fun _=>rfl⟩
 generalize foldS (declF seen s.vis) lv0 x.locals=r1 at*
 generalize foldS (declF10 s.tags) s.vis x.locals=q1 at*
 generalize declR s.vis s.tags x.locals=Q1 at*
 obtain⟨hd1,hd2⟩:=hdR
 by_cases z1:q1.2=0
 case neg=>
  have e1:r1.2≠0:=by rw[d1];exact z1
  have e2:Q1.2=q1.2:=by rw[hd1];simp only[orE,if_neg z1]
  rw[if_pos (by rw[e2];exact z1)]
  exact⟨by simp only[orE,if_neg e1];rw[d1,e2],fun hh=>absurd hh (by rw[e2];exact z1)⟩
 obtain⟨v1,v2,v3⟩:=d2 z1
 have dn:=dn z1
 have e1:r1.2=0:=d1.trans z1
 have hown:r1.1.own=x.locals.map Decl.name:=by
  rw[v1]at dn;exact List.append_cancel_left dn
 rw[<-v1]
 by_cases z2:samplE q1.1 x.locals=0
 case neg=>
  have e2:Q1.2=samplE q1.1 x.locals:=by rw[hd1];simp only[orE,z1,if_true]
  rw[if_pos (by rw[e2];exact z2)]
  exact⟨by simp only[orE,e1,if_true,if_neg z2];rw[e2],fun hh=>absurd hh (by rw[e2];exact z2)⟩
 have eQ:Q1.2=0:=by rw[hd1];simp only[orE,z1,if_true];exact z2
 have hQ1:=hd2 eQ
 rw[if_neg (by simp[eQ]),hQ1]
 have hI:Inv (s.at q1.1) s.vis (low++a.done) df df r1.1:=⟨v1,fun y=>by
  rw[v2,List.mem_append]
  show _ ↔ (y∈s.inputs\/y∈df)
  have:=h.low y
  constructor
  ·rintro(h1|h1)
   ·exact this.1 h1
   ·cases h1
  ·intro h1;exact .inl (this.2 h1),by rw[v3,List.append_nil],fun y=>by rw[v2,v3],by rw[v3];simp,fun y hy=>by rw[v3]at hy;cases hy⟩
 obtain⟨f1,f2⟩:=foldS_inv (fun(a':Lv) (d:List Str)=>Inv (s.at q1.1) s.vis (low++a.done) df d a'/\a'.own=r1.1.own) x.eqs (f:=equS p seen node s.vis (low++a.done)) (g:=equR (s.at q1.1)) (fun u _ b d hb=>by
  obtain⟨g1,g2⟩:=equ_inv (s:=s.at q1.1) (fun vis left e=>hE vis left e) hb.1 u
  refine⟨g1,fun h0=>?_⟩
  have g2:=g2 h0
  refine⟨g2,?_⟩
  have e1:=g2.vis
  have e2:=hb.1.vis
  rw[e2]at e1
  exact(List.append_cancel_left e1).symm.trans hb.2) r1.1 df ⟨hI,rfl⟩
 generalize foldS (equS p seen node s.vis (low++a.done)) r1.1 x.eqs=r2 at*
 generalize foldS (equR (s.at q1.1)) df x.eqs=q2 at*
 by_cases z3:q2.2=0
 case neg=>
  rw[if_pos z3]
  exact⟨by simp only[orE,e1,z2,if_true,if_neg (show ¬r2.2=0 from fun hh=>z3 (f1.symm.trans hh))];exact f1,fun hh=>absurd hh z3⟩
 rw[if_neg (by simp[z3])]
 have e3:r2.2=0:=f1.trans z3
 obtain⟨hI2,hO2⟩:=f2 z3
 obtain⟨k1,k2⟩:=foldS_inv (fun(a':Lv) (d:List Str)=>Inv (s.at q1.1) s.vis (low++a.done) df d a'/\a'.own=r1.1.own) x.autos (f:=F s.vis (low++a.done)) (g:=autF G (s.at q1.1)) (fun A _ b d hb=>by
  obtain⟨g1,g2⟩:=hF q1.1 _ _ _ _ A hb.1
  refine⟨g1,fun h0=>?_⟩
  have g2:=g2 h0
  refine⟨g2,?_⟩
  have e1:=g2.vis
  have e2:=hb.1.vis
  rw[e2]at e1
  exact(List.append_cancel_left e1).symm.trans hb.2) r2.1 q2.1 ⟨hI2,hO2⟩
 generalize foldS (F s.vis (low++a.done)) r2.1 x.autos=r3 at*
 generalize foldS (autF G (s.at q1.1)) q2.1 x.autos=q3 at*
 by_cases z4:q3.2=0
 case neg=>
  rw[if_pos z4]
  exact⟨by simp only[orE,e1,z2,e3,if_true,if_neg (show ¬r3.2=0 from fun hh=>z4 (k1.symm.trans hh))];exact k1,fun hh=>absurd hh z4⟩
 rw[if_neg (by simp[z4])]
 have e4:r3.2=0:=k1.trans z4
 obtain⟨hI3,hO3⟩:=k2 z4
 have c1:condS p seen node s.vis x.unl=condR s x.unl:=by
  unfold condS condR
  congr 1;funext t;exact hE s.vis 1 t.cond
 have c2:condS p seen node (s.vis++r3.1.own) x.unt=condR (s.at q1.1) x.unt:=by
  rw[hO3,<-v1]
  unfold condS condR
  congr 1;funext t;exact hE q1.1 1 t.cond
 rw[c1,c2]
 by_cases z5:condR s x.unl=0
 case neg=>
  rw[if_pos z5]
  exact⟨by simp only[orE,e1,z2,e3,e4,if_true,if_neg z5],fun hh=>absurd hh z5⟩
 rw[if_neg (by simp[z5])]
 by_cases z6:condR (s.at q1.1) x.unt=0
 case neg=>
  rw[if_pos z6]
  exact⟨by simp only[orE,e1,z2,e3,e4,z5,if_true,if_neg z6],fun hh=>absurd hh z6⟩
 rw[if_neg (by simp[z6])]
 have hw:wo q3.1 df=r3.1.defs:=by
  rw[hI3.dfs]
  unfold wo
  rw[List.filter_append]
  have t1:(df.filter fun y=>!decide (y∈df))=[]:=by
   rw[List.filter_eq_nil_iff];intro y hy;simp[hy]
  rw[t1,List.nil_append]
  exact List.filter_eq_self.2 fun y hy=>by simpa using (hI3.new y hy).2
 have hld:firstE (fun d:Decl=>if d.name∈r3.1.done then(0:Int) else 8) x.locals=if wo (x.locals.map Decl.name) (wo q3.1 df)=[] then 0 else 8:=by
  rw[locals_done,hw,wo_congr hI3.dd]
 rw[hld]
 by_cases z7:wo (x.locals.map Decl.name) (wo q3.1 df)=[]
 case neg=>
  simp only[ne_eq,z7,not_false_eq_true,if_true,if_false]
  exact⟨by simp only[orE,e1,z2,e3,e4,z5,z6,if_true],fun hh=>absurd hh (by decide)⟩
 simp only[ne_eq,z7,not_true_eq_false,if_true,if_false]
 refine⟨by simp only[orE,e1,z2,e3,e4,z5,z6,if_true],fun _=>?_⟩
 rw[hw]
 have hk:keepS r3.1.own r3.1.defs=wo r3.1.defs (x.locals.map Decl.name):=by
  rw[hO3,hown];rfl
 refine⟨hk,?_,?_⟩
 ·show(keepS r3.1.own r3.1.defs).Nodup
  exact List.Pairwise.filter _ hI3.nd
 ·intro y hy
  exact hI3.new y (List.mem_filter.1 hy).1
theorem mem_insL:∀(l d:List Str) (x:Str),x∈l.foldl ins d ↔ x∈d\/x∈l
 | [],d,x=>by simp
 | s::l,d,x=>by
   rw[List.foldl_cons,mem_insL l,mem_insX]
   simp only[List.mem_cons]
   constructor
   ·rintro((h|h)|h)
    ·exact .inl h
    ·exact .inr (.inl h)
    ·exact .inr (.inr h)
   ·rintro(h|h|h)
    ·exact .inl (.inl h)
    ·exact .inl (.inr h)
    ·exact .inr h
theorem Inv.add{s:Plr}{vis0 low df0 df:List Str}{a:Lv}(h:Inv s vis0 low df0 df a){l:List Str}(hn:l.Nodup)(hl:∀y∈l,y ∉ s.inputs/\y ∉ df):Inv s vis0 low df0 (df++l) ⟨a.own,l.foldl ins a.done,a.defs++l⟩:=by
 refine⟨h.vis,fun x=>?_,?_,fun x=>?_,?_,fun y hy=>?_⟩
 ·show(x∈low\/x∈l.foldl ins a.done) ↔ _
  have:=h.low x
  rw[mem_insL,List.mem_append]
  constructor
  ·rintro(h1|h1|h1)
   ·rcases this.1 (.inl h1)with h2|h2
    ·exact .inl h2
    ·exact .inr (.inl h2)
   ·rcases this.1 (.inr h1)with h2|h2
    ·exact .inl h2
    ·exact .inr (.inl h2)
   ·exact .inr (.inr h1)
  ·rintro(h1|h1|h1)
   ·rcases this.2 (.inl h1)with h2|h2
    ·exact .inl h2
    ·exact .inr (.inl h2)
   ·rcases this.2 (.inr h1)with h2|h2
    ·exact .inl h2
    ·exact .inr (.inl h2)
   ·exact .inr (.inr h1)
 ·show df++l=df0++(a.defs++l)
  rw[h.dfs,List.append_assoc]
 ·show x∈l.foldl ins a.done ↔ x∈a.defs++l
  rw[mem_insL,h.dd x,List.mem_append]
 ·show(a.defs++l).Nodup
  refine List.nodup_append.2 ⟨h.nd,hn,fun p hp q hq e=>?_⟩
  subst e
  exact(hl p hq).2 (by rw[h.dfs];simp[hp])
 ·have hy':y∈a.defs\/y∈l:=List.mem_append.1 hy
  rcases hy' with hy'|hy'
  ·exact h.new y hy'
  ·exact⟨(hl y hy').1,fun hh=>(hl y hy').2 (by rw[h.dfs];simp[hh])⟩
theorem first_rel{α:Type}{f g:α->List Str×Int}(h:∀x,(f x).2=(g x).2):∀l:List α,firstE Prod.snd (l.map f)=firstE Prod.snd (l.map g)
 | []=>rfl
 | x::l=>by simp only[List.map_cons,firstE,h x,first_rel h l]
theorem first_all{α:Type}{h:α->Int}:∀l:List α,firstE h l=0->∀x∈l,h x=0
 | [],_,x,hx=>by cases hx
 | y::l,h0,x,hx=>by
   rw[firstE]at h0
   split at h0
   ·rename_i hy
    rcases List.mem_cons.1 hx with rfl|hx
    ·exact hy
    ·exact first_all l h0 x hx
   ·rename_i hy;exact absurd h0 hy
theorem auto_step{s:Plr}{vis0 low df0 df:List Str}{a:Lv}(h:Inv s vis0 low df0 df a)(A:Auto)(f g:Sta->List Str×Int)(hst:∀x,StOk s df (f x) (g x))(q:List Str×Int)
  (hq:q=if dupE [] (A.states.map Sta.name)≠0 then([],7) else
  if firstE Prod.snd (A.states.map g)≠0 then([],firstE Prod.snd (A.states.map g)) else
  if((A.states.map g).all fun r=>sameB r.1 (firstOf (A.states.map g)))=true then(firstOf (A.states.map g),0) else([],8)):
  orE (dupE [] (A.states.map Sta.name)) (orE (firstE Prod.snd (A.states.map f)) (if sameAll (A.states.map f)=true then 0 else 8))=q.2/\(q.2=0->Inv s vis0 low df0 (df++q.1) ⟨a.own,(firstOf (A.states.map f)).foldl ins a.done,a.defs++firstOf (A.states.map f)⟩):=by
 have hfR:=first_rel (fun x=>(hst x).1) A.states
 rw[hfR]
 rcases dup_err (A.states.map Sta.name) []with hd|hd
 case inr=>
  have hq':q=([],7):=by rw[hq];exact if_pos (by rw[hd];decide)
  rw[hd,hq']
  exact⟨by simp[orE],fun hh=>absurd hh (by decide)⟩
 rw[hd]at hq⊢
 rw[if_neg (by decide)]at hq
 by_cases hz:firstE Prod.snd (A.states.map g)=0
 case neg=>
  have hq':q=([],firstE Prod.snd (A.states.map g)):=by rw[hq];exact if_pos hz
  rw[hq']
  exact⟨by simp only[orE,if_true,if_neg hz],fun hh=>absurd hh hz⟩
 rw[hz]at hq⊢
 rw[if_neg (by decide)]at hq
 have hall:∀x∈A.states,(g x).2=0:=fun x hx=>first_all _ hz (g x) (List.mem_map.2 ⟨x,hx,rfl⟩)
 have hmap:A.states.map f=A.states.map g:=List.map_congr_left fun x hx=>by
  obtain⟨h1,h2⟩:=hst x
  exact Prod.ext (h2 (hall x hx)).1 h1
 have hok:∀r∈A.states.map g,r.1.Nodup/\∀y∈r.1,y ∉ s.inputs/\y ∉ df:=by
  intro r hr
  obtain⟨x,hx,rfl⟩:=List.mem_map.1 hr
  obtain⟨h1,h2⟩:=hst x
  obtain⟨h3,h4⟩:=h2 (hall x hx)
  rw[<-h3];exact h4
 have hfo:(firstOf (A.states.map g)).Nodup/\∀y∈firstOf (A.states.map g),y ∉ s.inputs/\y ∉ df:=by
  unfold firstOf
  generalize A.states.map g=rs at hok
  cases rs with
  | nil=>exact⟨List.nodup_nil,fun y hy=>by cases hy⟩
  | cons r rs=>exact hok r (by simp)
 rw[hmap]
 have hsame:sameAll (A.states.map g)=(A.states.map g).all fun r=>sameB r.1 (firstOf (A.states.map g)):=by
  unfold sameAll
  rw[Bool.eq_iff_iff,List.all_eq_true,List.all_eq_true]
  constructor
  ·intro hh r hr
   rw[<-alike_same (hok r hr).1 hfo.1];exact hh r hr
  ·intro hh r hr
   rw[alike_same (hok r hr).1 hfo.1];exact hh r hr
 rw[hsame]
 by_cases hs:((A.states.map g).all fun r=>sameB r.1 (firstOf (A.states.map g)))=true
 ·rw[if_pos hs]at hq
  rw[if_pos hs,hq]
  exact⟨by simp[orE],fun _=>h.add hfo.1 hfo.2⟩
 ·rw[if_neg hs]at hq
  rw[if_neg hs,hq]
  exact⟨by simp[orE],fun hh=>absurd hh (by decide)⟩
theorem aut_inv{p:Prog}{seen:List (Int×Str×Int)}{node:Int}:∀(k:Nat) {s:Plr} (hE:∀vis left e,exprS p seen node vis left e=exprRf (s.at vis) left e) (ht:∀x,(seenGet seen 0 x).isSome=true ↔ x∈s.tags)
  {vis0 low df0 df:List Str} {a:Lv} (h:Inv s vis0 low df0 df a) (A:Auto),(autoS p seen node k vis0 low a A).2=(autR k s df A).2/\((autR k s df A).2=0->Inv s vis0 low df0 (df++(autR k s df A).1) (autoS p seen node k vis0 low a A).1)
 | 0,s,_,_,vis0,low,df0,df,a,h,A=>by
   refine⟨rfl,fun _=>?_⟩
   show Inv s vis0 low df0 (df++[]) a
   rw[List.append_nil];exact h
 | k+1,s,hE,ht,vis0,low,df0,df,a,h,A=>
   auto_step h A _ (fun x=>stR (autR k) s x df) (fun x=>st_inv hE ht (fun vis low' df0 df a A hi=>aut_inv k (s:=s.at vis) (fun v l e=>hE v l e) ht hi A) h x) _ (by rw[autR])
end Go.Proofs.YtlocalghkiepmaaGreat
