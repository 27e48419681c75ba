import Derived.Test.YtcbhlhmebbkgnaaGreatPk11
import Derived.Test.YtcbhlhmebbkgnaaGreatPk16
import Derived.Test.YtcbhlhmebbkgnaaGreatPk22
import Derived.Test.YtcbhlhmebbkgnaaGreatPk29
set_option linter.unusedSimpArgs false
set_option linter.unusedVariables false
namespace Go.Proofs.YtcbhlhmebbkgnaaGreat
open Go Go.TL
attribute [local irreducible] TR TO Then zaw RetK Sound zab Kf GG zaZ
def zcd(tg:List Str)(s:Str):List Str×Int:=(tg++[s],if s∈tg then 7 else 0)
def zdN(st:List Str×List Str)(u:En):(List Str×List Str)×Int:=((st.1++[u.name],(zad zcd st.2 u.tags).1),if u.name∈st.1 then 7 else(zad zcd st.2 u.tags).2)
def zfI(p:Prog)(tags:List Str):Nat->List Nod->(Int×Int)×Int
 | _,[]=>((0,0),0)
 | i,n::l=>if(nodR p i tags n).2=0 then zfI p tags (i+1) l else(((i:Int),(nodR p i tags n).1),(nodR p i tags n).2)
def zfb(p:Prog):(Int×Int)×Int:=
 if(zaR p).2≠0 then zaR p else
 if(zad zdN ([],[]) p.enums).2≠0 then((-1,-1),(zad zdN ([],[]) p.enums).2) else zfI p (zad zdN ([],[]) p.enums).1.2 0 p.nodes
theorem zq5:∀(l tg:List Str),(zad zcd tg l).2=0\/(zad zcd tg l).2=7
 | [],_=>.inl rfl
 | s::l,tg=>by
   rw[zad]
   split
   ·exact zq5 l _
   ·rename_i h
    by_cases hs:s∈tg
    ·exact .inr (by simp[zcd,hs])
    ·exact absurd (by simp[zcd,hs]) h
theorem zqr:∀(l tg:List Str),(zad zcd tg l).1.length≤tg.length+l.length:=fun l tg=>zc9 (F:=zcd) (fun d x=>by simp[zcd]) l tg
theorem zot:∀(l:List En) (st:List Str×List Str),(zad zdN st l).2=0->(zad zdN st l).1.1=st.1++l.map En.name
 | [],st,_=>by simp[zad]
 | u::l,st,h=>by
   rw[zad]at h⊢
   split at h
   ·rename_i h0
    rw[if_pos h0,zot l _ h]
    simp[zdN]
   ·rename_i h0;exact absurd h h0
theorem zsQ:∀(l:List En) (st:List Str×List Str),(zad zdN st l).2=0->(zad zdN st l).1.2.length≤st.2.length+(l.map fun u=>u.tags.length).sum
 | [],st,_=>by simp[zad]
 | u::l,st,h=>by
   rw[zad]at h⊢
   split at h
   ·rename_i h0
    rw[if_pos h0]
    have h1:=zsQ l _ h
    have h2:=zqr u.tags st.2
    simp only[zdN,List.map_cons,List.sum_cons]at h1⊢
    omega
   ·rename_i h0;exact absurd h h0
theorem zmH(p:Prog)(tags:List Str):∀ {l:List Nod} {b j:Nat} (hj:j<l.length),(∀k (hk:k<j),(nodR p (b+k) tags (l[k]'(by omega))).2=0)->(nodR p (b+j) tags l[j]).2≠0->zfI p tags b l=((((b+j:Nat):Int),(nodR p (b+j) tags l[j]).1),(nodR p (b+j) tags l[j]).2)
 | n::l,b,0,hj,h,hn=>by
   simp only[Nat.add_zero,List.getElem_cons_zero]at hn⊢
   rw[zfI,if_neg hn]
 | n::l,b,j+1,hj,h,hn=>by
   have h0:=h 0 (by omega)
   simp only[Nat.add_zero,List.getElem_cons_zero]at h0
   simp only[List.getElem_cons_succ]at hn⊢
   rw[zfI,if_pos h0,zmH p tags (b:=b+1) (j:=j) (by simpa using hj) (fun k hk=>by
    have:=h (k+1) (by omega)
    simp only[List.getElem_cons_succ]at this
    rw[show b+1+k=b+(k+1) from by omega];exact this) (by rw[show b+1+j=b+(j+1) from by omega];exact hn)]
   rw[show b+1+j=b+(j+1) from by omega]
theorem ziL(p:Prog)(tags:List Str):∀ {l:List Nod} {b:Nat},(∀k (hk:k<l.length),(nodR p (b+k) tags l[k]).2=0)->zfI p tags b l=((0,0),0)
 | [],_,_=>rfl
 | n::l,b,h=>by
   have h0:=h 0 (by simp)
   simp only[Nat.add_zero,List.getElem_cons_zero]at h0
   rw[zfI,if_pos h0,ziL p tags (b:=b+1) fun k hk=>by
    have:=h (k+1) (by simpa using hk)
    simp only[List.getElem_cons_succ]at this
    rw[show b+1+k=b+(k+1) from by omega];exact this]
set_option maxHeartbeats 4000000 in
theorem zko (p:Prog) (hw:(T.ag (zav p)).w≤100000000):Pure Tryz.prog 72 [.t (.ag (zav p))] (.tup [.t (.ag [T.i (zfb p).1.1,T.i (zfb p).1.2]),.i (zfb p).2]):=by
 have hsh:=zmz p (by omega)
 obtain⟨hP,hln,hpl⟩:=zbr hw
 have hml:(p.nodes.map nodT).length=p.nodes.length:=List.length_map _
 have hme:(p.enums.map enT).length=p.enums.length:=List.length_map _
 have hw2:(T.sl 2 (p.enums.map enT)).w≤100000000:=by rw[w_ag]at hw;simp only[zav,List.map_cons,List.map_nil,List.sum_cons,List.sum_nil]at hw;omega
 have hel:=zaq enT 2 p.enums
 have hR:zfb p=zfb p:=rfl
 conv at hR=>rhs;unfold zfb
 generalize zfb p=R at hR⊢
 by_cases hs0:(zaR p).2≠0
 ·rw[if_pos hs0]at hR
  generalize zaR p=z at*
  obtain⟨⟨z1,z2⟩,z3⟩:=z
  simp only at hs0 hsh
  unfold zav at*
  refine so Tryz.func72 ?_
  repeat' (first|refine wkb ?_|refine wv hsh ?_|(apply TO.store zam;(iterate 6 exact rfl);exact lb;exact rfl;exact lb;exact rfl)|exact trivial|exact And.intro rfl rfl|refine And.intro (fun H env=>?_) ?_|refine And.intro (fun env=>?_) ?_|refine wk ?_|exact wkc|intro hc|refine wk2 ?_ ?_|fail)
  all_goals first
   | (exfalso;omega)
   | (rw[hR];exact wkr)
 rw[if_neg hs0]at hR
 have hs1:(zaR p).2=0:=Decidable.not_not.1 hs0
 have hno:=fun(n:Nod) (hn:n∈p.nodes)=>zp4 (zbL hs1 n hn) (hln n hn)
 rw[hs1]at hsh
 generalize (zaR p).1=z at*
 obtain⟨w1,w2⟩:=z
 have htags:∀u∈p.enums,u.tags.length≤(enT u).w:=fun u _=>by
  have:=zaq T.s 1 u.tags
  rw[show enT u= .ag [.s u.name,.sl 1 (u.tags.map T.s)] from rfl,w_ag];simp only[List.map_cons,List.map_nil,List.sum_cons,List.sum_nil];omega
 have hts:=zea (m:=fun u:En=>u.tags.length) (f:=enT) 2 p.enums htags
 have hnode:=fun(tags:List Str) (ht:tags.length≤1000000000) (i:Nat) (hi:i<p.nodes.length)=>zmj p hP (by omega) i hi tags ht (hno _ (List.getElem_mem hi))
 have f1:∀st u,zdN st u=((st.1++[u.name],(zad zcd st.2 u.tags).1),if u.name∈st.1 then 7 else(zad zcd st.2 u.tags).2):=fun _ _=>rfl
 have f2:∀d s,zcd d s=(d++[s],if s∈d then 7 else 0):=fun _ _=>rfl
 have hnmA:=fun l=>zot l ([],[])
 have hlA:=fun l=>zsQ l ([],[])
 have htl:=zqr
 have hte:=zq5
 generalize zdN=F at*
 generalize zcd=G at*
 unfold zav at*
 simp only at hsh
 refine so Tryz.func72 ?_
 repeat' (first|refine wkb ?_|refine wv hsh ?_|(apply TO.store zam;(iterate 6 exact rfl);exact lb;exact rfl;exact lb;exact rfl)|exact trivial|exact And.intro rfl rfl|refine And.intro (fun H env=>?_) ?_|refine And.intro (fun env=>?_) ?_|refine wk ?_|exact wkc|intro hc|refine wk2 ?_ ?_|fail)
 all_goals try(exfalso;omega)
 refine TR.tail 1 6 rfl ?_
 refine TR.zal p.enums.length (fun j=>(zad F ([],[]) (p.enums.take j)).2=0) (fun j=>[(1,.cp [.sl 2 (p.enums.map enT),zag p.nodes] 0),(2,.ref 0 0),(6,.sl 1 ((zad F ([],[]) (p.enums.take j)).1.2.map T.s) 2),(7,.i j)]) (fun j=>[.cells [.i 0,.i 0],.cells [.i w1,.i w2],.tail ((zad F ([],[]) (p.enums.take j)).1.2.map T.s).length]) rfl (fun j hlj hj=>?_) (fun hj=>?_)
 ·have hx:=zaX enT hlj
  have hn:=zaN hlj hj
  have hat:=zbl hlj hj
  have hnm:=hnmA _ hj
  have hl1:=hlA _ hj
  have hl2:=zeR (fun u:En=>u.tags.length) p.enums (j+1)
  rw[zaG hlj,List.map_append,List.sum_append]at hl2
  have hxe:enT p.enums[j]= .ag [.s p.enums[j].name,.sl 1 (p.enums[j].tags.map T.s)]:=rfl
  simp only[List.map_cons,List.map_nil,List.sum_cons,List.sum_nil,List.nil_append,List.length_nil]at hl1 hl2 hnm
  generalize zad F ([],[]) (p.enums.take j)=d at*
  obtain⟨⟨pn,D⟩,d2⟩:=d
  simp only at hj hn hat hnm hl1
  subst hj
  subst hnm
  have hkx:∀k (hk:k<p.enums.length),(p.enums.map enT)[k]?=some (.ag [.s p.enums[k].name,.sl 1 (p.enums[k].tags.map T.s)]):=fun k hk=>zaX enT hk
  have htk:∀k (hk:k<p.enums.length),p.enums.take (k+1)=p.enums.take k++[p.enums[k]]:=fun k hk=>zaG hk
  have hmem:∀k (hk:k<j),p.enums[k].name∈(p.enums.take j).map En.name:=fun k hk=>List.mem_map_of_mem (List.mem_take_iff_getElem.2 ⟨k,by omega,rfl⟩)
  generalize hxg:p.enums[j]=x at*
  rw[hxe]at hx
  rw[f1]at hn hat
  simp only at hn hat
  repeat' (first|refine wkb ?_|refine wk ?_|exact wkc|intro hc|refine wk2 ?_ ?_|fail)
  refine TR.zal j (fun k=>x.name ∉ (p.enums.take k).map En.name) (fun k=>[(1,.cp [.sl 2 (p.enums.map enT),zag p.nodes] 0),(2,.ref 0 0),(6,.sl 1 (D.map T.s) 2),(7,.i j),(8,.i k)]) (fun _=>[.cells [.i 0,.i 0],.cells [.i w1,.i w2],.tail (D.map T.s).length]) (by simp) (fun k hlk hk=>?_) (fun hk=>?_)
  ·have hy:=hkx k (by omega)
   have hty:=htk k (by omega)
   have hmy:=hmem k hlk
   generalize p.enums[k]=y at*
   clear hkx htk hmem hnode hsh hno
   by_cases hyx:y.name=x.name
   ·rw[if_pos (show x.name∈_ from hyx ▸ hmy)]at hat
    have hat:=hat (show(7:Int)≠0 by decide)
    rw[hat,if_pos (show(7:Int)≠0 by decide)]at hR
    repeat' (first|refine wkb ?_|refine rg [.cp [.sl 2 (p.enums.map enT),zag p.nodes] 0,.t (.sl 2 (p.enums.map enT)),.i k,.cp [.s y.name,.sl 1 (y.tags.map T.s)] 0,.cp [.s y.name,.sl 1 (y.tags.map T.s)] 0,.t (.s y.name),.cp [.sl 2 (p.enums.map enT),zag p.nodes] 0,.t (.sl 2 (p.enums.map enT)),.i j,.cp [.s x.name,.sl 1 (x.tags.map T.s)] 0,.cp [.s x.name,.sl 1 (x.tags.map T.s)] 0,.t (.s x.name),.b true] ?_ ?_|(apply TO.store zam;(iterate 6 exact rfl);exact lb;exact rfl;exact lb;exact rfl)|exact trivial|exact And.intro rfl rfl|refine And.intro (fun H env=>?_) ?_|refine And.intro (fun env=>?_) ?_|refine wk ?_|exact wkc|intro hc|refine wk2 ?_ ?_|fail)
    all_goals first
     | (exfalso;exact absurd hyx (by assumption))
     | (exfalso;omega)
     | (rw[hR];exact wkr)
   ·repeat' (first|refine wkb ?_|refine rg [.cp [.sl 2 (p.enums.map enT),zag p.nodes] 0,.t (.sl 2 (p.enums.map enT)),.i k,.cp [.s y.name,.sl 1 (y.tags.map T.s)] 0,.cp [.s y.name,.sl 1 (y.tags.map T.s)] 0,.t (.s y.name),.cp [.sl 2 (p.enums.map enT),zag p.nodes] 0,.t (.sl 2 (p.enums.map enT)),.i j,.cp [.s x.name,.sl 1 (x.tags.map T.s)] 0,.cp [.s x.name,.sl 1 (x.tags.map T.s)] 0,.t (.s x.name),.b false] ?_ ?_|(apply TO.store zam;(iterate 6 exact rfl);exact lb;exact rfl;exact lb;exact rfl)|exact trivial|exact And.intro rfl rfl|refine And.intro (fun H env=>?_) ?_|refine And.intro (fun env=>?_) ?_|refine wk ?_|exact wkc|intro hc|refine wk2 ?_ ?_|fail)
    all_goals first
     | (exfalso;exact absurd (by assumption) hyx)
     | (exfalso;omega)
     | exact zab.zak hlk (by rw[hty,List.map_append,List.mem_append];rintro(h|h);exact hk h;exact hyx (List.mem_singleton.1 h).symm)
  clear hkx htk hmem hnode hsh hno
  rw[if_neg hk]at hn hat
  have hmt:(x.tags.map T.s).length=x.tags.length:=List.length_map _
  have hmj:(p.enums.map enT).length=p.enums.length:=List.length_map _
  repeat' (first|refine wkb ?_|refine wk ?_|exact wkc|intro hc|refine wk2 ?_ ?_|fail)
  refine TR.zal x.tags.length (fun k=>(zad G D (x.tags.take k)).2=0) (fun k=>[(1,.cp [.sl 2 (p.enums.map enT),zag p.nodes] 0),(2,.ref 0 0),(6,.sl 1 ((zad G D (x.tags.take k)).1.map T.s) 2),(7,.i j),(9,.i k)]) (fun k=>[.cells [.i 0,.i 0],.cells [.i w1,.i w2],.tail ((zad G D (x.tags.take k)).1.map T.s).length]) rfl (fun k hlk hk2=>?_) (fun hk2=>?_)
  ·have hz:=zfw hlk
   have hn2:=zaN hlk hk2
   have hat2:=zbl hlk hk2
   have hln2:=htl (x.tags.take k) D
   rw[List.length_take]at hln2
   generalize zad G D (x.tags.take k)=d at*
   obtain⟨D2,c2⟩:=d
   simp only at hk2 hn2 hat2 hln2
   subst hk2
   have hwx:=htags x (by rw[<-hxg];exact List.getElem_mem hlj)
   have hih:=zba D2 x.tags[k] (by omega)
   generalize x.tags[k]=y at*
   rw[f2]at hn2 hat2
   have hdm:(D2.map T.s).length=D2.length:=List.length_map _
   by_cases hm:y∈D2
   ·rw[decide_eq_true hm]at hih
    rw[if_pos hm]at hat2
    have hat2:=hat2 (show(7:Int)≠0 by decide)
    rw[hat2]at hat
    have hat:=hat (show(7:Int)≠0 by decide)
    rw[hat,if_pos (show(7:Int)≠0 by decide)]at hR
    repeat' (first|refine wkb ?_|refine wv hih ?_|(apply TO.store zam;(iterate 6 exact rfl);exact lb;exact rfl;exact lb;exact rfl)|exact trivial|exact And.intro rfl rfl|refine And.intro (fun H env=>?_) ?_|refine And.intro (fun env=>?_) ?_|refine wk ?_|exact wkc|intro hc|refine wk2 ?_ ?_|fail)
    all_goals first
     | (exfalso;omega)
     | (rw[hR];exact wkr)
   ·rw[decide_eq_false hm]at hih
    rw[if_neg hm]at hn2
    repeat' (first|refine wkb ?_|refine wv hih ?_|(apply TO.store zam;(iterate 6 exact rfl);exact lb;exact rfl;exact lb;exact rfl)|exact trivial|exact And.intro rfl rfl|refine And.intro (fun H env=>?_) ?_|refine And.intro (fun env=>?_) ?_|refine wk ?_|exact wkc|intro hc|refine wk2 ?_ ?_|fail)
    exact zab.zak hlk (by rw[hn2]) (by(try dsimp only);rw[hn2,List.map_append];exact⟨rfl,rfl,rfl,rfl,rfl,trivial⟩) (by(try dsimp only);rw[hn2,List.map_append,List.length_append];rfl)
  ·rw[List.take_length]at hk2⊢
   rw[hk2]at hn
   repeat' (first|refine wkb ?_|refine wk ?_|exact wkc|intro hc|refine wk2 ?_ ?_|fail)
   exact zab.zak hlj (by rw[hn]) (by(try dsimp only);rw[hn];exact⟨rfl,rfl,rfl,rfl,trivial⟩) (by(try dsimp only);rw[hn])
 rw[List.take_length]at hj⊢
 rw[if_neg (by simp[hj])]at hR
 have hl1:=hlA _ hj
 simp only[List.length_nil]at hl1
 generalize zad F ([],[]) p.enums=d at*
 obtain⟨⟨pn,D⟩,d2⟩:=d
 simp only at hj hl1 hR
 subst hj
 have hnode:=hnode D (by omega)
 have hnat:=fun{j:Nat} (hj:j<p.nodes.length)=>zmH p D (l:=p.nodes) (b:=0) hj
 have hnz:=ziL p D (l:=p.nodes) (b:=0)
 simp only[Nat.zero_add]at hnat hnz
 clear hsh hno
 repeat' (first|refine wkb ?_|refine wk ?_|exact wkc|intro hc|refine wk2 ?_ ?_|fail)
 refine TR.zal p.nodes.length (fun j=>∀k (hk:k<j) (hk2:k<p.nodes.length),(nodR p k D p.nodes[k]).2=0) (fun j=>[(1,.cp [.sl 2 (p.enums.map enT),zag p.nodes] 0),(2,.ref 0 0),(6,.sl 1 (D.map T.s) 2),(10,.i j)]) (fun j=>[.cells [.i 0,.i 0],.cells [.i w1,.i w2],.tail (D.map T.s).length]) (fun k hk=>absurd hk (Nat.not_lt_zero k)) (fun j hlj hj=>?_) (fun hj=>?_)
 ·have hi:=hnode j hlj
  have hat:=hnat hlj (fun k hk=>hj k hk (by omega))
  have hnx:(nodR p j D p.nodes[j]).2=0->∀k (hk:k<j+1) (hk2:k<p.nodes.length),(nodR p k D p.nodes[k]).2=0:=fun h k hk hk2=>by
   by_cases hkj:k=j
   ·subst hkj;exact h
   ·exact hj k (by omega) hk2
  generalize nodR p j D p.nodes[j]=r at*
  obtain⟨r1,r2⟩:=r
  simp only at hi hat hnx
  clear hnode hnat hnz hj
  repeat' (first|refine wkb ?_|refine wv hi ?_|(apply TO.store zam;(iterate 6 exact rfl);exact lb;exact rfl;exact lb;exact rfl)|exact trivial|exact And.intro rfl rfl|refine And.intro (fun H env=>?_) ?_|refine And.intro (fun env=>?_) ?_|refine wk ?_|exact wkc|intro hc|refine wk2 ?_ ?_|fail)
  ·rw[hat hc]at hR
   rw[hR];exact wkr
  ·exact zab.zak hlj (hnx (Decidable.not_not.1 hc))
 ·rw[hnz fun k hk=>hj k hk hk]at hR
  clear hnode hnat hnz hj
  repeat' (first|refine wkb ?_|(apply TO.store zam;(iterate 6 exact rfl);exact lb;exact rfl;exact lb;exact rfl)|exact trivial|exact And.intro rfl rfl|refine And.intro (fun H env=>?_) ?_|refine And.intro (fun env=>?_) ?_|refine wk ?_|exact wkc|intro hc|refine wk2 ?_ ?_|fail)
  all_goals first
   | (exfalso;omega)
   | (rw[hR];exact wkr)
structure Inv (s:Plr) (vis0 low df0 df:List Str) (a:Lv):Prop where
 vis:s.vis=vis0++a.own
 low:∀x,(x∈low\/x∈a.done) ↔ (x∈s.inputs\/x∈df)
 dfs:df=df0++a.defs
 dd:∀x,x∈a.done ↔ x∈a.defs
 nd:a.defs.Nodup
 new:∀x∈a.defs,x ∉ s.inputs/\x ∉ df0
theorem zkA{l:List Str}{s x:Str}:x∈ins l s ↔ x∈l\/x=s:=by
 unfold ins
 split
 ·rename_i h
  constructor
  ·exact .inl
  ·rintro(h1|rfl)
   ·exact h1
   ·exact h
 ·simp
theorem zdj{A B X:Type}{f:A->X->A×Int}{g:B->X->B×Int}(R:A->B->Prop):∀(l:List X),(∀x∈l,∀a b,R a b->(f a x).2=(g b x).2/\((g b x).2=0->R (f a x).1 (g b x).1))->∀a b,R a b->(zad f a l).2=(zad g b l).2/\((zad g b l).2=0->R (zad f a l).1 (zad g b l).1)
 | [],_,a,b,h=>⟨rfl,fun _=>h⟩
 | x::l,hs,a,b,h=>by
   obtain⟨h1,h2⟩:=hs x (by simp) a b h
   simp only[zad]
   by_cases h0:(g b x).2=0
   ·rw[if_pos h0,if_pos (h1.trans h0)]
    exact zdj R l (fun y hy=>hs y (by simp[hy])) _ _ (h2 h0)
   ·rw[if_neg h0,if_neg (by rw[h1];exact h0)]
    exact⟨h1,fun h=>absurd h h0⟩
theorem zrR{s:Plr}{vis0 low df0 df:List Str}{a:Lv}(h:Inv s vis0 low df0 df a)(l:List Str):
  (zad (zcs s.vis low) a l).2=(zad (zbB s) df l).2/\((zad (zbB s) df l).2=0->Inv s vis0 low df0 (zad (zbB s) df l).1 (zad (zcs s.vis low) a l).1):=by
 refine zdj (fun(a:Lv) (df:List Str)=>Inv s vis0 low df0 df a) l (fun x _ a df h=>?_) a df h
 have hl:=h.low x
 by_cases hv:x∈s.vis
 ·by_cases hd:x∈s.inputs\/x∈df
  ·have e1:(zcs s.vis low a x).2=7:=by simp only[zcs];rw[if_pos hv,if_pos (hl.2 hd)]
   have e2:(zbB s df x).2=7:=by simp only[zbB];rw[if_neg (by simpa using hv),if_pos hd]
   exact⟨e1.trans e2.symm,fun h0=>by rw[e2]at h0;cases h0⟩
  ·have e1:(zcs s.vis low a x).2=0:=by simp only[zcs];rw[if_pos hv,if_neg (fun hh=>hd (hl.1 hh))]
   have e2:(zbB s df x).2=0:=by simp only[zbB];rw[if_neg (by simpa using hv),if_neg hd]
   refine⟨e1.trans e2.symm,fun _=>⟨h.vis,fun y=>?_,?_,fun y=>?_,?_,fun y hy=>?_⟩⟩
   ·have:=h.low y
    show(y∈low\/y∈ins a.done x) ↔ (y∈s.inputs\/y∈df++[x])
    rw[zkA];simp only[List.mem_append,List.mem_singleton]
    constructor
    ·rintro(h1|h1|h1)
     ·rcases this.1 (.inl h1)with h2|h2
      ·exact .inl h2
      ·exact .inr (.inl h2)
     ·rcases this.1 (.inr h1)with h2|h2
      ·exact .inl h2
      ·exact .inr (.inl h2)
     ·exact .inr (.inr h1)
    ·rintro(h1|h1|h1)
     ·rcases this.2 (.inl h1)with h2|h2
      ·exact .inl h2
      ·exact .inr (.inl h2)
     ·rcases this.2 (.inr h1)with h2|h2
      ·exact .inl h2
      ·exact .inr (.inl h2)
     ·exact .inr (.inr h1)
   ·show df++[x]=df0++(a.defs++[x])
    rw[h.dfs,List.append_assoc]
   ·show y∈ins a.done x ↔ y∈a.defs++[x]
    rw[zkA,h.dd y];simp
   ·show(a.defs++[x]).Nodup
    refine List.nodup_append.2 ⟨h.nd,by simp,fun p hp q hq e=>?_⟩
    have hq':q=x:=by simpa using hq
    subst hq';subst e
    exact hd (.inr (by rw[h.dfs];simp[hp]))
   ·have hy':y∈a.defs\/y=x:=by
     have:y∈a.defs++[x]:=hy
     simpa using this
    rcases hy' with hy'|rfl
    ·exact h.new y hy'
    ·exact⟨fun hh=>hd (.inl hh),fun hh=>hd (.inr (by rw[h.dfs];simp[hh]))⟩
 ·have e1:(zcs s.vis low a x).2=6:=by simp only[zcs];rw[if_neg hv]
  have e2:(zbB s df x).2=6:=by simp only[zbB];rw[if_pos hv]
  exact⟨e1.trans e2.symm,fun h0=>by rw[e2]at h0;cases h0⟩
theorem zrn{p:Prog}{seen:List (Int×Str×Int)}{node:Int}{s:Plr}(hE:∀vis left e,zc1 p seen node vis left e=zbf (s.at vis) left e){vis0 low df0 df:List Str}{a:Lv}(h:Inv s vis0 low df0 df a)(u:Equ):
  (equS p seen node vis0 low a u).2=(equR s df u).2/\((equR s df u).2=0->Inv s vis0 low df0 (equR s df u).1 (equS p seen node vis0 low a u).1):=by
 obtain⟨h1,h2⟩:=zrR h u.left
 have he:=hE s.vis u.left.length u.right
 rw[show s.at s.vis=s from rfl]at he
 unfold equS equR
 rw[<-h.vis,h1,he]
 by_cases h0:(zad (zbB s) df u.left).2=0
 ·rw[if_neg (by simp[h0]),h0]
  exact⟨rfl,fun _=>h2 h0⟩
 ·rw[if_pos h0]
  refine⟨?_,fun hh=>absurd hh h0⟩
  simp only[orE,if_neg h0]
theorem zoG{seen:List (Int×Str×Int)}{tags:List Str}(ht:∀x,(zay seen 0 x).isSome=true ↔ x∈tags)(vis0:List Str)(l:List Decl):
  (zad (zbz seen vis0) lv0 l).2=(zad (za1 tags) vis0 l).2/\((zad (za1 tags) vis0 l).2=0->(zad (za1 tags) vis0 l).1=vis0++(zad (zbz seen vis0) lv0 l).1.own/\(zad (zbz seen vis0) lv0 l).1.done=[]/\(zad (zbz seen vis0) lv0 l).1.defs=[]):=by
 refine zdj (fun(a:Lv) (vis:List Str)=>vis=vis0++a.own/\a.done=[]/\a.defs=[]) l (fun x _ a vis h=>?_) lv0 vis0 ⟨by simp[lv0],rfl,rfl⟩
 obtain⟨rfl,h2,h3⟩:=h
 have:=ht x.name
 by_cases hc:x.name∈vis0++a.own\/x.name∈tags
 ·have e1:(zbz seen vis0 a x).2=7:=by
   simp only[zbz];rw[if_pos]
   rcases hc with hc|hc
   ·exact .inr hc
   ·exact .inl (this.2 hc)
  have e2:(za1 tags (vis0++a.own) x).2=7:=by simp only[za1];rw[if_pos hc]
  exact⟨e1.trans e2.symm,fun h0=>by rw[e2]at h0;cases h0⟩
 ·have e1:(zbz seen vis0 a x).2=0:=by
   simp only[zbz];rw[if_neg]
   rintro(h|h)
   ·exact hc (.inr (this.1 h))
   ·exact hc (.inl h)
  have e2:(za1 tags (vis0++a.own) x).2=0:=by simp only[za1];rw[if_neg hc]
  refine⟨e1.trans e2.symm,fun _=>⟨?_,h2,h3⟩⟩
  show vis0++a.own++[x.name]=vis0++ins a.own x.name
  unfold ins
  rw[if_neg (fun hh=>hc (.inl (by simp[hh]))),List.append_assoc]
theorem zg5(tags:List Str):∀(l:List Decl) (vis:List Str),(zad (za1 tags) vis l).2=0->(zad (za1 tags) vis l).1=vis++l.map Decl.name
 | [],vis,_=>by simp[zad]
 | x::l,vis,h=>by
   rw[zad]at h⊢
   split at h
   ·rename_i h0
    rw[if_pos h0,zg5 tags l _ h]
    simp[za1]
   ·rename_i h0;exact absurd h h0
theorem ziC{l:List Decl}{done:List Str}:zaa (fun d:Decl=>if d.name∈done then(0:Int) else 8) l=if wo (l.map Decl.name) done=[] then 0 else 8:=by
 induction l with
 | nil=>rfl
 | cons d l ih=>
   rw[zaa]
   by_cases hd:d.name∈done
   ·rw[if_pos hd,if_pos rfl,ih]
    have:wo ((d::l).map Decl.name) done=wo (l.map Decl.name) done:=by simp[wo,hd]
    rw[this]
   ·rw[if_neg hd,if_neg (by decide)]
    have:wo ((d::l).map Decl.name) done≠ []:=by simp[wo,hd]
    rw[if_neg this]
theorem zov{a b c:List Str}(h:∀x,x∈b ↔ x∈c):wo a b=wo a c:=by
 unfold wo
 congr 1
 funext x
 simp[h x]
theorem zfQ:∀(a b:List Str),a.Nodup->(∀x∈a,x∈b)->a.length≤b.length/\(a.length=b.length->∀x∈b,x∈a)
 | [],b,_,_=>⟨by simp,fun h x hx=>by
   have:b=[]:=List.eq_nil_of_length_eq_zero h.symm
   rw[this]at hx;cases hx⟩
 | x::a,b,hn,hs=>by
   obtain⟨hx,hn'⟩:=List.nodup_cons.1 hn
   have hxb:=hs x (by simp)
   have hl:(b.erase x).length=b.length-1:=List.length_erase_of_mem hxb
   have hp:0<b.length:=List.length_pos_of_mem hxb
   obtain⟨h1,h2⟩:=zfQ a (b.erase x) hn' (fun y hy=>(List.mem_erase_of_ne (fun e=>hx (by rw[<-e];exact hy))).2 (hs y (by simp[hy])))
   simp only[List.length_cons]
   refine⟨by omega,fun h y hy=>?_⟩
   by_cases e:y=x
   ·subst e;simp
   ·have:=h2 (by omega) y ((List.mem_erase_of_ne e).2 hy)
    simp[this]
theorem zjV{a b:List Str}(ha:a.Nodup)(hb:b.Nodup):zj6 a b=zf0 a b:=by
 have hsub:wo a b=[] ↔ ∀x∈a,x∈b:=by
  unfold wo;rw[List.filter_eq_nil_iff];simp
 have hsub2:wo b a=[] ↔ ∀x∈b,x∈a:=by
  unfold wo;rw[List.filter_eq_nil_iff];simp
 have h1:(!(a.any fun x=>!decide (x∈b)))=decide (wo a b=[]):=by
  rw[Bool.eq_iff_iff,decide_eq_true_iff,hsub]
  simp
 unfold zj6 zf0
 rw[h1,Bool.and_comm,Bool.eq_iff_iff]
 simp only[Bool.and_eq_true,decide_eq_true_eq]
 constructor
 ·rintro⟨h2,h3⟩
  exact⟨h2,hsub2.2 ((zfQ a b ha (hsub.1 h2)).2 h3)⟩
 ·rintro⟨h2,h3⟩
  have g1:=(zfQ a b ha (hsub.1 h2)).1
  have g2:=(zfQ b a hb (hsub2.1 h3)).1
  exact⟨h2,by omega⟩
theorem zq8:∀(l pre:List Str),dupE pre l=0\/dupE pre l=7
 | [],_=>.inl rfl
 | s::l,pre=>by
   rw[dupE]
   split
   ·exact .inr rfl
   ·exact zq8 l _
def StOk(s:Plr)(df:List Str)(r r':List Str×Int):Prop:=r.2=r'.2/\(r'.2=0->r.1=r'.1/\r.1.Nodup/\∀y∈r.1,y ∉ s.inputs/\y ∉ df)
theorem zud{p:Prog}{seen:List (Int×Str×Int)}{node:Int}{F:List Str->List Str->Lv->Auto->Lv×Int}{G:Plr->List Str->Auto->List Str×Int}{s:Plr}(hE:∀vis left e,zc1 p seen node vis left e=zbf (s.at vis) left e)(ht:∀x,(zay seen 0 x).isSome=true ↔ x∈s.tags)
  (hF:∀vis low' df0 df a A,Inv (s.at vis) s.vis low' df0 df a->(F s.vis low' a A).2=(G (s.at vis) df A).2/\((G (s.at vis) df A).2=0->Inv (s.at vis) s.vis low' df0 (df++(G (s.at vis) df A).1) (F s.vis low' a A).1))
  {vis0 low df0 df:List Str}{a:Lv}(h:Inv s vis0 low df0 df a)(x:Sta):StOk s df (stS p seen node F (vis0++a.own) (low++a.done) x) (stR G s x df):=by
 rw[<-h.vis]
 unfold stS stR StOk
 simp only[]
 obtain⟨d1,d2⟩:=zoG ht s.vis x.locals
 have dn:=zg5 s.tags x.locals s.vis
 have hdR:(zbq s.vis s.tags x.locals).2=orE (zad (za1 s.tags) s.vis x.locals).2 (zbn (zad (za1 s.tags) s.vis x.locals).1 x.locals)/\((zbq s.vis s.tags x.locals).2=0->(zbq s.vis s.tags x.locals).1=(zad (za1 s.tags) s.vis x.locals).1):=by
  unfold zbq
  split
  ·rename_i h0;exact⟨by simp only[orE,if_neg h0],fun hh=>absurd hh h0⟩
  ·rename_i h0
   have h0':=Decidable.not_not.1 h0
   split
   ·rename_i h1;exact⟨by simp only[orE,h0',if_true],fun hh=>absurd hh h1⟩
   ·rename_i h1;exact⟨by simp only[orE,h0',if_true];exact(Decidable.not_not.1 h1).symm,fun _=>rfl⟩
 generalize zad (zbz seen s.vis) lv0 x.locals=r1 at*
 generalize zad (za1 s.tags) s.vis x.locals=q1 at*
 generalize zbq s.vis s.tags x.locals=Q1 at*
 obtain⟨hd1,hd2⟩:=hdR
 by_cases z1:q1.2=0
 case neg=>
  have e1:r1.2≠0:=by rw[d1];exact z1
  have e2:Q1.2=q1.2:=by rw[hd1];simp only[orE,if_neg z1]
  rw[if_pos (by rw[e2];exact z1)]
  exact⟨by simp only[orE,if_neg e1];rw[d1,e2],fun hh=>absurd hh (by rw[e2];exact z1)⟩
 obtain⟨v1,v2,v3⟩:=d2 z1
 have dn:=dn z1
 have e1:r1.2=0:=d1.trans z1
 have hown:r1.1.own=x.locals.map Decl.name:=by
  rw[v1]at dn;exact List.append_cancel_left dn
 rw[<-v1]
 by_cases z2:zbn q1.1 x.locals=0
 case neg=>
  have e2:Q1.2=zbn q1.1 x.locals:=by rw[hd1];simp only[orE,z1,if_true]
  rw[if_pos (by rw[e2];exact z2)]
  exact⟨by simp only[orE,e1,if_true,if_neg z2];rw[e2],fun hh=>absurd hh (by rw[e2];exact z2)⟩
 have eQ:Q1.2=0:=by rw[hd1];simp only[orE,z1,if_true];exact z2
 have hQ1:=hd2 eQ
 rw[if_neg (by simp[eQ]),hQ1]
 have hI:Inv (s.at q1.1) s.vis (low++a.done) df df r1.1:=⟨v1,fun y=>by
  rw[v2,List.mem_append]
  show _ ↔ (y∈s.inputs\/y∈df)
  have:=h.low y
  constructor
  ·rintro(h1|h1)
   ·exact this.1 h1
   ·cases h1
  ·intro h1;exact .inl (this.2 h1),by rw[v3,List.append_nil],fun y=>by rw[v2,v3],by rw[v3];simp,fun y hy=>by rw[v3]at hy;cases hy⟩
 obtain⟨f1,f2⟩:=zdj (fun(a':Lv) (d:List Str)=>Inv (s.at q1.1) s.vis (low++a.done) df d a'/\a'.own=r1.1.own) x.eqs (f:=equS p seen node s.vis (low++a.done)) (g:=equR (s.at q1.1)) (fun u _ b d hb=>by
  obtain⟨g1,g2⟩:=zrn (s:=s.at q1.1) (fun vis left e=>hE vis left e) hb.1 u
  refine⟨g1,fun h0=>?_⟩
  have g2:=g2 h0
  refine⟨g2,?_⟩
  have e1:=g2.vis
  have e2:=hb.1.vis
  rw[e2]at e1
  exact(List.append_cancel_left e1).symm.trans hb.2) r1.1 df ⟨hI,rfl⟩
 generalize zad (equS p seen node s.vis (low++a.done)) r1.1 x.eqs=r2 at*
 generalize zad (equR (s.at q1.1)) df x.eqs=q2 at*
 by_cases z3:q2.2=0
 case neg=>
  rw[if_pos z3]
  exact⟨by simp only[orE,e1,z2,if_true,if_neg (show ¬r2.2=0 from fun hh=>z3 (f1.symm.trans hh))];exact f1,fun hh=>absurd hh z3⟩
 rw[if_neg (by simp[z3])]
 have e3:r2.2=0:=f1.trans z3
 obtain⟨hI2,hO2⟩:=f2 z3
 obtain⟨k1,k2⟩:=zdj (fun(a':Lv) (d:List Str)=>Inv (s.at q1.1) s.vis (low++a.done) df d a'/\a'.own=r1.1.own) x.autos (f:=F s.vis (low++a.done)) (g:=autF G (s.at q1.1)) (fun A _ b d hb=>by
  obtain⟨g1,g2⟩:=hF q1.1 _ _ _ _ A hb.1
  refine⟨g1,fun h0=>?_⟩
  have g2:=g2 h0
  refine⟨g2,?_⟩
  have e1:=g2.vis
  have e2:=hb.1.vis
  rw[e2]at e1
  exact(List.append_cancel_left e1).symm.trans hb.2) r2.1 q2.1 ⟨hI2,hO2⟩
 generalize zad (F s.vis (low++a.done)) r2.1 x.autos=r3 at*
 generalize zad (autF G (s.at q1.1)) q2.1 x.autos=q3 at*
 by_cases z4:q3.2=0
 case neg=>
  rw[if_pos z4]
  exact⟨by simp only[orE,e1,z2,e3,if_true,if_neg (show ¬r3.2=0 from fun hh=>z4 (k1.symm.trans hh))];exact k1,fun hh=>absurd hh z4⟩
 rw[if_neg (by simp[z4])]
 have e4:r3.2=0:=k1.trans z4
 obtain⟨hI3,hO3⟩:=k2 z4
 have c1:zlr p seen node s.vis x.unl=zf9 s x.unl:=by
  unfold zlr zf9
  congr 1;funext t;exact hE s.vis 1 t.cond
 have c2:zlr p seen node (s.vis++r3.1.own) x.unt=zf9 (s.at q1.1) x.unt:=by
  rw[hO3,<-v1]
  unfold zlr zf9
  congr 1;funext t;exact hE q1.1 1 t.cond
 rw[c1,c2]
 by_cases z5:zf9 s x.unl=0
 case neg=>
  rw[if_pos z5]
  exact⟨by simp only[orE,e1,z2,e3,e4,if_true,if_neg z5],fun hh=>absurd hh z5⟩
 rw[if_neg (by simp[z5])]
 by_cases z6:zf9 (s.at q1.1) x.unt=0
 case neg=>
  rw[if_pos z6]
  exact⟨by simp only[orE,e1,z2,e3,e4,z5,if_true,if_neg z6],fun hh=>absurd hh z6⟩
 rw[if_neg (by simp[z6])]
 have hw:wo q3.1 df=r3.1.defs:=by
  rw[hI3.dfs]
  unfold wo
  rw[List.filter_append]
  have t1:(df.filter fun y=>!decide (y∈df))=[]:=by
   rw[List.filter_eq_nil_iff];intro y hy;simp[hy]
  rw[t1,List.nil_append]
  exact List.filter_eq_self.2 fun y hy=>by simpa using (hI3.new y hy).2
 have hld:zaa (fun d:Decl=>if d.name∈r3.1.done then(0:Int) else 8) x.locals=if wo (x.locals.map Decl.name) (wo q3.1 df)=[] then 0 else 8:=by
  rw[ziC,hw,zov hI3.dd]
 rw[hld]
 by_cases z7:wo (x.locals.map Decl.name) (wo q3.1 df)=[]
 case neg=>
  simp only[ne_eq,z7,not_false_eq_true,if_true,if_false]
  exact⟨by simp only[orE,e1,z2,e3,e4,z5,z6,if_true],fun hh=>absurd hh (by decide)⟩
 simp only[ne_eq,z7,not_true_eq_false,if_true,if_false]
 refine⟨by simp only[orE,e1,z2,e3,e4,z5,z6,if_true],fun _=>?_⟩
 rw[hw]
 have hk:zbT r3.1.own r3.1.defs=wo r3.1.defs (x.locals.map Decl.name):=by
  rw[hO3,hown];rfl
 refine⟨hk,?_,?_⟩
 ·show(zbT r3.1.own r3.1.defs).Nodup
  exact List.Pairwise.filter _ hI3.nd
 ·intro y hy
  exact hI3.new y (List.mem_filter.1 hy).1
theorem zeZ:∀(l d:List Str) (x:Str),x∈l.foldl ins d ↔ x∈d\/x∈l
 | [],d,x=>by simp
 | s::l,d,x=>by
   rw[List.foldl_cons,zeZ l,zkA]
   simp only[List.mem_cons]
   constructor
   ·rintro((h|h)|h)
    ·exact .inl h
    ·exact .inr (.inl h)
    ·exact .inr (.inr h)
   ·rintro(h|h|h)
    ·exact .inl (.inl h)
    ·exact .inl (.inr h)
    ·exact .inr h
theorem Inv.add{s:Plr}{vis0 low df0 df:List Str}{a:Lv}(h:Inv s vis0 low df0 df a){l:List Str}(hn:l.Nodup)(hl:∀y∈l,y ∉ s.inputs/\y ∉ df):Inv s vis0 low df0 (df++l) ⟨a.own,l.foldl ins a.done,a.defs++l⟩:=by
 refine⟨h.vis,fun x=>?_,?_,fun x=>?_,?_,fun y hy=>?_⟩
 ·show(x∈low\/x∈l.foldl ins a.done) ↔ _
  have:=h.low x
  rw[zeZ,List.mem_append]
  constructor
  ·rintro(h1|h1|h1)
   ·rcases this.1 (.inl h1)with h2|h2
    ·exact .inl h2
    ·exact .inr (.inl h2)
   ·rcases this.1 (.inr h1)with h2|h2
    ·exact .inl h2
    ·exact .inr (.inl h2)
   ·exact .inr (.inr h1)
  ·rintro(h1|h1|h1)
   ·rcases this.2 (.inl h1)with h2|h2
    ·exact .inl h2
    ·exact .inr (.inl h2)
   ·rcases this.2 (.inr h1)with h2|h2
    ·exact .inl h2
    ·exact .inr (.inl h2)
   ·exact .inr (.inr h1)
 ·show df++l=df0++(a.defs++l)
  rw[h.dfs,List.append_assoc]
 ·show x∈l.foldl ins a.done ↔ x∈a.defs++l
  rw[zeZ,h.dd x,List.mem_append]
 ·show(a.defs++l).Nodup
  refine List.nodup_append.2 ⟨h.nd,hn,fun p hp q hq e=>?_⟩
  subst e
  exact(hl p hq).2 (by rw[h.dfs];simp[hp])
 ·have hy':y∈a.defs\/y∈l:=List.mem_append.1 hy
  rcases hy' with hy'|hy'
  ·exact h.new y hy'
  ·exact⟨(hl y hy').1,fun hh=>(hl y hy').2 (by rw[h.dfs];simp[hh])⟩
theorem zlv{α:Type}{f g:α->List Str×Int}(h:∀x,(f x).2=(g x).2):∀l:List α,zaa Prod.snd (l.map f)=zaa Prod.snd (l.map g)
 | []=>rfl
 | x::l=>by simp only[List.map_cons,zaa,h x,zlv h l]
theorem zlq{α:Type}{h:α->Int}:∀l:List α,zaa h l=0->∀x∈l,h x=0
 | [],_,x,hx=>by cases hx
 | y::l,h0,x,hx=>by
   rw[zaa]at h0
   split at h0
   ·rename_i hy
    rcases List.mem_cons.1 hx with rfl|hx
    ·exact hy
    ·exact zlq l h0 x hx
   ·rename_i hy;exact absurd h0 hy
theorem zq1{s:Plr}{vis0 low df0 df:List Str}{a:Lv}(h:Inv s vis0 low df0 df a)(A:Auto)(f g:Sta->List Str×Int)(hst:∀x,StOk s df (f x) (g x))(q:List Str×Int)
  (hq:q=if dupE [] (A.states.map Sta.name)≠0 then([],7) else
  if zaa Prod.snd (A.states.map g)≠0 then([],zaa Prod.snd (A.states.map g)) else
  if((A.states.map g).all fun r=>zf0 r.1 (zaD (A.states.map g)))=true then(zaD (A.states.map g),0) else([],8)):
  orE (dupE [] (A.states.map Sta.name)) (orE (zaa Prod.snd (A.states.map f)) (if zcr (A.states.map f)=true then 0 else 8))=q.2/\(q.2=0->Inv s vis0 low df0 (df++q.1) ⟨a.own,(zaD (A.states.map f)).foldl ins a.done,a.defs++zaD (A.states.map f)⟩):=by
 have hfR:=zlv (fun x=>(hst x).1) A.states
 rw[hfR]
 rcases zq8 (A.states.map Sta.name) []with hd|hd
 case inr=>
  have hq':q=([],7):=by rw[hq];exact if_pos (by rw[hd];decide)
  rw[hd,hq']
  exact⟨by simp[orE],fun hh=>absurd hh (by decide)⟩
 rw[hd]at hq⊢
 rw[if_neg (by decide)]at hq
 by_cases hz:zaa Prod.snd (A.states.map g)=0
 case neg=>
  have hq':q=([],zaa Prod.snd (A.states.map g)):=by rw[hq];exact if_pos hz
  rw[hq']
  exact⟨by simp only[orE,if_true,if_neg hz],fun hh=>absurd hh hz⟩
 rw[hz]at hq⊢
 rw[if_neg (by decide)]at hq
 have hall:∀x∈A.states,(g x).2=0:=fun x hx=>zlq _ hz (g x) (List.mem_map.2 ⟨x,hx,rfl⟩)
 have hmap:A.states.map f=A.states.map g:=List.map_congr_left fun x hx=>by
  obtain⟨h1,h2⟩:=hst x
  exact Prod.ext (h2 (hall x hx)).1 h1
 have hok:∀r∈A.states.map g,r.1.Nodup/\∀y∈r.1,y ∉ s.inputs/\y ∉ df:=by
  intro r hr
  obtain⟨x,hx,rfl⟩:=List.mem_map.1 hr
  obtain⟨h1,h2⟩:=hst x
  obtain⟨h3,h4⟩:=h2 (hall x hx)
  rw[<-h3];exact h4
 have hfo:(zaD (A.states.map g)).Nodup/\∀y∈zaD (A.states.map g),y ∉ s.inputs/\y ∉ df:=by
  unfold zaD
  generalize A.states.map g=rs at hok
  cases rs with
  | nil=>exact⟨List.nodup_nil,fun y hy=>by cases hy⟩
  | cons r rs=>exact hok r (by simp)
 rw[hmap]
 have hsame:zcr (A.states.map g)=(A.states.map g).all fun r=>zf0 r.1 (zaD (A.states.map g)):=by
  unfold zcr
  rw[Bool.eq_iff_iff,List.all_eq_true,List.all_eq_true]
  constructor
  ·intro hh r hr
   rw[<-zjV (hok r hr).1 hfo.1];exact hh r hr
  ·intro hh r hr
   rw[zjV (hok r hr).1 hfo.1];exact hh r hr
 rw[hsame]
 by_cases hs:((A.states.map g).all fun r=>zf0 r.1 (zaD (A.states.map g)))=true
 ·rw[if_pos hs]at hq
  rw[if_pos hs,hq]
  exact⟨by simp[orE],fun _=>h.add hfo.1 hfo.2⟩
 ·rw[if_neg hs]at hq
  rw[if_neg hs,hq]
  exact⟨by simp[orE],fun hh=>absurd hh (by decide)⟩
theorem zqc{p:Prog}{seen:List (Int×Str×Int)}{node:Int}:∀(k:Nat) {s:Plr} (hE:∀vis left e,zc1 p seen node vis left e=zbf (s.at vis) left e) (ht:∀x,(zay seen 0 x).isSome=true ↔ x∈s.tags)
  {vis0 low df0 df:List Str} {a:Lv} (h:Inv s vis0 low df0 df a) (A:Auto),(zcx p seen node k vis0 low a A).2=(autR k s df A).2/\((autR k s df A).2=0->Inv s vis0 low df0 (df++(autR k s df A).1) (zcx p seen node k vis0 low a A).1)
 | 0,s,_,_,vis0,low,df0,df,a,h,A=>by
   refine⟨rfl,fun _=>?_⟩
   show Inv s vis0 low df0 (df++[]) a
   rw[List.append_nil];exact h
 | k+1,s,hE,ht,vis0,low,df0,df,a,h,A=>
   zq1 h A _ (fun x=>stR (autR k) s x df) (fun x=>zud hE ht (fun vis low' df0 df a A hi=>zqc k (s:=s.at vis) (fun v l e=>hE v l e) ht hi A) h x) _ (by rw[autR])
theorem zlG(o:Int):zby o=0/\opN o=0\/(zby o=1\/zby o=2\/zby o=3\/zby o=4)/\1≤opN o/\opN o≤2:=by
 have h1:=zco o
 have h2:=zfF o
 omega
theorem zkv(o:Int)(ts:List Int):Pure Tryz.prog 91 [.i o,.t (za5 ts)] (.tup [.i (zaK o ts).1,.i (zaK o ts).2]):=by
 have hl:(ts.map T.i).length=ts.length:=List.length_map _
 have hop:=zjl o
 rcases zlG o with ⟨hk,hn⟩|⟨hk,hn⟩
 ·rw[show zaK o ts=(0,2) from if_pos hk]
  rw[hn]at hop
  refine so Tryz.func91 ?_
  repeat' (first|refine wu ?_|exact wkc|intro hc|refine wk2 ?_ ?_|refine wv hop ?_|fail)
  exact wkr
 by_cases h9:(ts.length:Int)≠opN o
 ·rw[show zaK o ts=(0,9) from by simp only[zaK];rw[if_neg (by omega),if_pos h9]]
  generalize opN o=n at*
  refine so Tryz.func91 ?_
  repeat' (first|refine wu ?_|exact wkc|intro hc|refine wk2 ?_ ?_|refine wv hop ?_|fail)
  all_goals first
   | exact wkr
   | (exfalso;omega)
 have hr:zaK o ts=if ts.all (okTy (zby o) (ts.headD 0)) then(if zby o=2 then 2 else 1,0) else(0,10):=by
  simp only[zaK,if_neg (show ¬zby o=0 from by omega)];exact if_neg h9
 have hlen:(ts.length:Int)=opN o:=by omega
 rw[hr]
 clear hr
 have hx0:(ts.map T.i)[(0:Int).toNat]?=some (T.i (ts.headD 0)):=by
  cases ts with
  | nil=>simp at hlen;omega
  | cons a l=>rfl
 have hm0:ts.headD 0∈ts:=by
  cases ts with
  | nil=>simp at hlen;omega
  | cons a l=>simp
 have hb1:=zkE o
 have hb2:=zjh o
 have hb3:=zhw o
 generalize ts.headD 0=t0 at hx0 hm0⊢
 generalize opN o=n at*
 clear h9
 rcases hk with hk|hk|hk|hk
 all_goals
  rw[hk]at hb1 hb2 hb3⊢
  simp only[Int.reduceEq,decide_true,decide_false,if_true,if_false]at hb1 hb2 hb3⊢
  refine so Tryz.func91 ?_
  repeat' (first|refine wu ?_|exact wkc|intro hc|refine wk2 ?_ ?_|refine wv hop ?_|refine wv hb1 ?_|refine wv hb2 ?_|refine wv hb3 ?_|fail)
 all_goals first
  | (exfalso;omega)
  | skip
 ·refine TR.zal ts.length (fun j=>(ts.take j).all (okTy 1 t0)=true) (fun j=>[(0,.i o),(1,.t (za5 ts)),(6,.i 1),(7,.i j)]) (fun _=>[]) rfl (fun j hlt ha=>?_) (fun ha=>?_)
  ·have hx:=zdM hlt
   have htk:=List.take_succ_eq_append_getElem hlt
   have hm:=List.getElem_mem hlt
   generalize ts[j]=t at hx htk hm
   repeat' (first|refine wu ?_|exact wkc|intro hc|refine wk2 ?_ ?_|fail)
   ·have:ts.all (okTy 1 t0)=false:=List.all_eq_false.2 ⟨t,hm,by simpa [okTy]using hc⟩
    simp only[this];exact wkr
   ·skip
    refine zab.zak hlt ?_;rw[htk,List.all_append,ha];simpa [okTy]using hc
  ·rw[List.take_length]at ha
   rw[ha]
   repeat' (first|refine wu ?_|exact wkc|intro hc|refine wk2 ?_ ?_|refine wv hb3 ?_|fail)
   exact wkr
 ·refine TR.zal ts.length (fun j=>(ts.take j).all (okTy 2 t0)=true) (fun j=>[(0,.i o),(1,.t (za5 ts)),(6,.i 2),(7,.i j)]) (fun _=>[]) rfl (fun j hlt ha=>?_) (fun ha=>?_)
  ·have hx:=zdM hlt
   have htk:=List.take_succ_eq_append_getElem hlt
   have hm:=List.getElem_mem hlt
   generalize ts[j]=t at hx htk hm
   repeat' (first|refine wu ?_|exact wkc|intro hc|refine wk2 ?_ ?_|fail)
   ·have:ts.all (okTy 2 t0)=false:=List.all_eq_false.2 ⟨t,hm,by simpa [okTy]using hc⟩
    simp only[this];exact wkr
   ·refine zab.zak hlt ?_;rw[htk,List.all_append,ha];simpa [okTy]using hc
  ·rw[List.take_length]at ha
   rw[ha]
   repeat' (first|refine wu ?_|exact wkc|intro hc|refine wk2 ?_ ?_|refine wv hb3 ?_|fail)
   exact wkr
 ·have:ts.all (okTy 3 t0)=false:=List.all_eq_false.2 ⟨t0,hm0,by simp[okTy];omega⟩
  simp only[this];exact wkr
 ·refine TR.zal ts.length (fun j=>(ts.take j).all (okTy 3 t0)=true) (fun j=>[(0,.i o),(1,.t (za5 ts)),(6,.i t0),(7,.i j)]) (fun _=>[]) rfl (fun j hlt ha=>?_) (fun ha=>?_)
  ·have hx:=zdM hlt
   have htk:=List.take_succ_eq_append_getElem hlt
   have hm:=List.getElem_mem hlt
   generalize ts[j]=t at hx htk hm
   repeat' (first|refine wu ?_|exact wkc|intro hc|refine wk2 ?_ ?_|fail)
   ·have:ts.all (okTy 3 t0)=false:=List.all_eq_false.2 ⟨t,hm,by simp[okTy];omega⟩
    simp only[this];exact wkr
   ·refine zab.zak hlt ?_;rw[htk,List.all_append,ha];simp[okTy];omega
  ·rw[List.take_length]at ha
   rw[ha]
   repeat' (first|refine wu ?_|exact wkc|intro hc|refine wk2 ?_ ?_|refine wv hb3 ?_|fail)
   exact wkr
 ·refine TR.zal ts.length (fun j=>(ts.take j).all (okTy 4 t0)=true) (fun j=>[(0,.i o),(1,.t (za5 ts)),(6,.i 2),(7,.i j)]) (fun _=>[]) rfl (fun j hlt ha=>?_) (fun ha=>?_)
  ·have hx:=zdM hlt
   have htk:=List.take_succ_eq_append_getElem hlt
   have hm:=List.getElem_mem hlt
   generalize ts[j]=t at hx htk hm
   repeat' (first|refine wu ?_|exact wkc|intro hc|refine wk2 ?_ ?_|fail)
   ·have:ts.all (okTy 4 t0)=false:=List.all_eq_false.2 ⟨t,hm,by simpa [okTy]using hc⟩
    simp only[this];exact wkr
   ·refine zab.zak hlt ?_;rw[htk,List.all_append,ha];simpa [okTy]using hc
  ·rw[List.take_length]at ha
   rw[ha]
   repeat' (first|refine wu ?_|exact wkc|intro hc|refine wk2 ?_ ?_|refine wv hb3 ?_|fail)
   exact wkr
end Go.Proofs.YtcbhlhmebbkgnaaGreat
