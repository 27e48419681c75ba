import Derived.Test.YthmbhfgflijapaaGreatDoorPk19
import Derived.Test.YthmbhfgflijapaaGreatDoorPk32
set_option linter.all false
namespace Go.Proofs.YthmbhfgflijapaaGreatDoor
open Go Go.TL
attribute [local irreducible] TR TO Then zag RetK Sound zab Kf GG zaK
theorem ze0{α:Type}{g:α->Int}:∀ {l:List α},zac g l=0->∀x∈l,g x=0
 | [],_,x,hx=>by cases hx
 | y::l,h,x,hx=>by
   rw[zac]at h
   split at h
   ·rename_i hy
    rcases qa2.1 hx with rfl|hx
    ·exact hy
    ·exact ze0 h x hx
   ·rename_i hy;exact absurd h hy
theorem zsb{es:List En}{e:Ex}(hE:EnW es)(hX:za4 es e=0)(hv:∀x∈flat e,x.kind.1=2->zbi x.name 0 es=none)(hs:(shF es 400 e).length≤65536):zfX es (shF es 400 e)=(e,0,0):=by
 have h1:∀x∈flat e,oneX x=0/\insX es x=0:=by
  have h:=hX
  unfold za4 at h
  split at h
  ·rename_i hc
   intro x hx
   refine⟨?_,ze0 h x hx⟩
   unfold zd5 at hc
   split at hc
   ·exact absurd hc (by decide)
   ·exact ze0 hc x hx
  ·contradiction
 exact zqo hX (fun x hx=>(zvv hE (K:=[]) (h1 x hx).1 (h1 x hx).2 (hv x hx)).1) (fun K x hx=>(zvv hE (h1 x hx).1 (h1 x hx).2 (hv x hx)).2) hs
theorem zjn{α β:Type}{f:β->α->β×Int}{a:β}{x:α}{l:List α}(h:(zai f a (x::l)).2=0):(f a x).2=0/\zai f a (x::l)=zai f (f a x).1 l:=by
 by_cases h0:(f a x).2=0
 ·exact⟨h0,by rw[zai,if_pos h0]⟩
 ·rw[zai,if_neg h0]at h;exact absurd h h0
theorem zfr{α β:Type}{f:β->α->β×Int}(I:β->Prop):∀(l:List α) (a:β),(∀a,∀x∈l,I a->(f a x).2=0->I (f a x).1)->I a->(zai f a l).2=0->I (zai f a l).1/\∀x∈l,∃b,I b/\(f b x).2=0
 | [],a,_,ha,_=>⟨ha,fun x hx=>by cases hx⟩
 | y::l,a,hs,ha,h=>by
   obtain⟨h0,h1⟩:=zjn h
   rw[h1]at h⊢
   obtain⟨h2,h3⟩:=zfr I l _ (fun b x hx=>hs b x (qan _ hx)) (hs a y qak ha h0) h
   refine⟨h2,fun x hx=>?_⟩
   rcases qa2.1 hx with rfl|hx
   ·exact⟨a,ha,h0⟩
   ·exact h3 x hx
abbrev keyQ (e:Int×Str×Int):Int×Str:=(e.1,e.2.1)
theorem zeE{l:List (Int×Str×Int)}{k:Int}{s:Str}:(zaD l k s).isSome=true ↔ (k,s)∈l.map keyQ:=by
 unfold zaD
 rw[Option.isSome_map,List.find?_isSome]
 constructor
 ·rintro⟨x,hx,h⟩
  obtain⟨h1,h2⟩:=of_decide_eq_true h
  exact qaP.2 ⟨x,hx,by unfold keyQ;rw[h1,h2]⟩
 ·intro h
  obtain⟨x,hx,h⟩:=qaP.1 h
  unfold keyQ at h
  injection h with h1 h2
  exact⟨x,hx,decide_eq_true ⟨h1,h2⟩⟩
theorem zkx:∀(l seen:List (Int×Str×Int)),(seen.map keyQ).Nodup->(zai addF seen l).2=0->(zai addF seen l).1=seen++l/\((seen++l).map keyQ).Nodup
 | [],seen,hn,_=>by rw[qaG];exact⟨rfl,hn⟩
 | x::l,seen,hn,h=>by
   obtain⟨h0,h1⟩:=zjn h
   rw[h1]at h⊢
   have h2:keyQ x ∉ seen.map keyQ:=fun hm=>by
    unfold addF at h0
    rw[if_pos (zeE.2 hm)]at h0
    exact absurd (show(7:Int)=0 from h0) (by decide)
   have h3:((seen++[x]).map keyQ).Nodup:=by
    rw[qaH,qbt]
    refine⟨hn,by simp,fun a ha b hb=>?_⟩
    rw[qcn,qbg]at hb
    subst hb;rintro rfl;exact h2 ha
   have h4:=zkx l (seen++[x]) h3 h
   rw[qaO]at h4
   exact h4
def entQ(x:En×Nat):List (Int×Str×Int):=(2,x.1.name,(x.2:Int))::zes x.1 x.2
theorem zna:∀(l:List (En×Nat)) (seen:List (Int×Str×Int)),(seen.map keyQ).Nodup->(zai enF seen l).2=0->(zai enF seen l).1=seen++(l.map entQ).flatten/\((seen++(l.map entQ).flatten).map keyQ).Nodup
 | [],seen,hn,_=>by simp only[qaC,qb3,qaG];exact⟨rfl,hn⟩
 | x::l,seen,hn,h=>by
   obtain⟨h0,h1⟩:=zjn h
   rw[h1]at h⊢
   obtain⟨h2,h3⟩:=zkx (entQ x) seen hn h0
   have h4:(enF seen x).1=seen++entQ x:=h2
   rw[h4]at h⊢
   have h5:=zna l (seen++entQ x) h3 h
   rw[qaO]at h5
   exact h5
theorem zf0{s:Str}:∀ {l:List Str} {k:Nat},s ∉ l->idxOf s k l=none
 | [],k,_=>rfl
 | t::l,k,h=>by
   rw[idxOf,if_neg (show ¬t=s from fun e=>h (by rw[e];exact qak)),zf0 (fun hm=>h (qan _ hm))]
theorem znd{s:Str}:∀ {l:List Str} {k j:Nat},l.Nodup->l[j]?=some s->idxOf s k l=some (k+j)
 | t::l,k,0,_,h=>by
   rw[qcx]at h
   injection h with h
   rw[idxOf,if_pos h];rfl
 | t::l,k,j+1,hn,h=>by
   rw[qbK]at h
   have hm:=qas h
   rw[idxOf,if_neg (show ¬t=s from fun e=>(qbI.1 hn).1 (by rw[e];exact hm)),znd (qbI.1 hn).2 h]
   congr 1;omega
theorem ztj{s:Str}:∀ {es:List En} {k i j:Nat} {u:En},((es.map En.tags).flatten).Nodup->es[i]?=some u->u.tags[j]?=some s->zbi s k es=some (3+k+i,j)
 | x::es,k,0,j,u,hn,h,hj=>by
   rw[qcx]at h
   injection h with h
   subst h
   rw[qah,qa3,qbt]at hn
   rw[zbi,znd hn.1 hj]
   simp
 | x::es,k,i+1,j,u,hn,h,hj=>by
   rw[qbK]at h
   rw[qah,qa3,qbt]at hn
   have hm:s∈(es.map En.tags).flatten:=qbx.2 ⟨u.tags,qaP.2 ⟨u,qas h,rfl⟩,qas hj⟩
   rw[zbi,zf0 (fun hs=>hn.2.2 s hs s hm rfl),ztj hn.2.1 h hj]
   simp only[qaE,qbo,and_true]
   omega
theorem zh3{s:Str}:∀ {es:List En} {k:Nat},(∀u∈es,s ∉ u.tags)->zbi s k es=none
 | [],_,_=>rfl
 | x::es,k,h=>by
   rw[zbi,zf0 (h x qak)]
   exact zh3 fun u hu=>h u (qan _ hu)
theorem zkv:∀(es:List En) (k:Nat),((((es.zipIdx k).map entQ).flatten.map keyQ).Nodup->((es.map En.tags).flatten).Nodup)/\∀s,s∈(es.map En.tags).flatten->((0:Int),s)∈((es.zipIdx k).map entQ).flatten.map keyQ
 | [],k=>⟨fun _=>by simp,fun s hs=>by simp at hs⟩
 | x::es,k=>by
   obtain⟨h1,h2⟩:=zkv es (k+1)
   have ht:(zes x (k:Int)).map keyQ=x.tags.map fun s=>((0:Int),s):=by simp[zes,keyQ]
   rw[List.zipIdx_cons,qah,qa3,qaH,qah,qa3]
   constructor
   ·intro hn
    rw[qbt]at hn⊢
    obtain⟨n1,n2,n3⟩:=hn
    unfold entQ at n1 n3
    simp only[qah,ht]at n1 n3
    refine⟨?_,h1 n2,fun a ha b hb hab=>?_⟩
    ·exact List.Pairwise.of_map (fun s=>((0:Int),s)) (fun a b hh e=>hh (by rw[e])) (qbI.1 n1).2
    ·subst hab
     exact n3 (0,a) (qan _ (qaP.2 ⟨a,ha,rfl⟩)) (0,a) (h2 a hb) rfl
   ·intro s hs
    rw[qbw]at hs⊢
    rcases hs with hs|hs
    ·left;unfold entQ
     simp only[qah,ht]
     exact qan _ (qaP.2 ⟨s,hs,rfl⟩)
    ·exact .inr (h2 s hs)
theorem zf8{p:Prog}(h:(zdE p).2=0):(za7 p).2=0/\(zai enF [] p.enums.zipIdx).2=0/\(zai (nodF p) (zai enF [] p.enums.zipIdx).1 p.nodes.zipIdx).2=0:=by
 unfold zdE at h
 have h1:(za7 p).2=0:=qaB fun hh=>by rw[if_pos hh]at h;exact hh h
 rw[if_neg (by simp[h1])]at h
 have h2:(zai enF [] p.enums.zipIdx).2=0:=qaB fun hh=>by rw[if_pos hh]at h;exact hh h
 rw[if_neg (by simp[h2])]at h
 exact⟨h1,h2,qaB fun hh=>by rw[if_neg hh]at h;exact hh h⟩
theorem zpI{s:Str}(h:zcb s=0):ident s=true:=by
 unfold zcb at h
 split at h
 ·assumption
 ·cases h
theorem zmv{p:Prog}(h:(za7 p).2=0):∀u∈p.enums,∀s∈u.tags,ident s=true:=by
 unfold za7 at h
 have h1:limE p=0:=qaB fun hh=>by rw[if_pos hh]at h;exact hh h
 rw[if_neg (by simp[h1])]at h
 have h2:zac zeK p.enums=0:=qaB fun hh=>by rw[if_pos hh]at h;exact hh h
 intro u hu s hs
 have h3:=zah h2 u hu
 unfold zeK at h3
 exact zpI (zah (zaH (zaH (zaH h3).2).2).2 s hs)
structure EnS (es:List En) (seen:List (Int×Str×Int)):Prop where
 tag:∀u∈es,∀s∈u.tags,(zaD seen 0 s).isSome=true
theorem EnS.add{es:List En}{seen:List (Int×Str×Int)}(h:EnS es seen)(e:Int×Str×Int):EnS es (seen++[e]):=
 ⟨fun u hu s hs=>zeE.2 (by rw[qaH,qbw];exact .inl (zeE.1 (h.tag u hu s hs)))⟩
theorem zhQ{p:Prog}(h:(zdE p).2=0):EnW p.enums/\EnS p.enums (zai enF [] p.enums.zipIdx).1:=by
 obtain⟨h1,h2,_⟩:=zf8 h
 obtain⟨h3,h4⟩:=zna p.enums.zipIdx [] (by simp) h2
 rw[qa9]at h3 h4
 obtain⟨h5,h6⟩:=zkv p.enums 0
 refine⟨⟨zmv h1,fun i j u s hi hj=>by have:=ztj (k:=0) (h5 h4) hi hj;simpa using this⟩,⟨fun u hu s hs=>zeE.2 ?_⟩⟩
 rw[h3]
 exact h6 s (qbx.2 ⟨u.tags,qaP.2 ⟨u,hu,rfl⟩,hs⟩)
theorem ztT{p:Prog}{seen:List (Int×Str×Int)}{i:Int}{v l:List Str}{a:Lv}{u:Equ}:(equS p seen i v l a u).1.own=a.own:=by
 show(zai (zc9 (v++a.own) l) a u.left).1.own=a.own
 have key:∀(w:List Str) (L:List Str) (b:Lv),(zai (zc9 w l) b L).1.own=b.own:=by
  intro w L
  induction L with
  | nil=>intro b;rfl
  | cons x L ih=>
    intro b
    rw[zai]
    split
    ·rw[ih];rfl
    ·rfl
 exact key _ _ _
theorem zt3{l:List Str}{s x:Str}(h:x∈ins l s):x∈l\/x=s:=by
 unfold ins at h
 split at h
 ·exact .inl h
 ·rw[qbw,qbg]at h;exact h
theorem zrB{seen:List (Int×Str×Int)}{l:List Decl}(h:(zfS seen [] lv0 l).2=0):∀s∈(zfS seen [] lv0 l).1.own,(zaD seen 0 s).isSome=false:=by
 refine(zfr (fun a:Lv=>∀s∈a.own,(zaD seen 0 s).isSome=false) l lv0 (fun a x hx ha h0 s hs=>?_) (fun s hs=>by cases hs) h).1
 rcases zt3 hs with hs|rfl
 ·exact ha s hs
 ·cases hh:(zaD seen 0 x.name).isSome with
  | false=>rfl
  | true=>
    unfold zbY at h0
    rw[if_pos (.inl hh)]at h0
    exact absurd (show(7:Int)=0 from h0) (by decide)
theorem zpZ{p:Prog}{seen:List (Int×Str×Int)}{i:Int}{n:Nod}(hs:EnS p.enums seen)(h:(zcZ p seen i n).2=0):∀u∈n.eqs,∀x∈flat u.right,x.kind.1=2->zbi x.name 0 p.enums=none:=by
 unfold zcZ at h
 split at h
 ·exact absurd h (by decide)
 unfold zuf at h
 simp only at h
 have hd:(zfS (seen++[(1,n.name,i)]) [] lv0 (zc5 n)).2=0:=qaB fun hh=>by rw[if_pos hh]at h;exact hh h
 rw[if_neg (by simp[hd])]at h
 generalize hsa:ziW (zfS (seen++[(1,n.name,i)]) [] lv0 (zc5 n)).1.own n.locals=sa at h
 have h1:sa=0:=qaB fun hh=>by rw[if_pos hh]at h;exact hh h
 rw[if_neg (by simp[h1])]at h
 have he:(zai (equS p (seen++[(1,n.name,i)]) i [] ((n.ins.map Decl.name).foldl ins [])) (zfS (seen++[(1,n.name,i)]) [] lv0 (zc5 n)).1 n.eqs).2=0:=qaB fun hh=>by rw[if_pos hh]at h;exact hh h
 have ho:=zrB hd
 generalize (zfS (seen++[(1,n.name,i)]) [] lv0 (zc5 n)).1=A at*
 intro u hu x hx hk
 obtain⟨b,hb,h2⟩:=(zfr (fun a:Lv=>a.own=A.own) n.eqs A (fun a v hv ha _=>ztT.trans ha) rfl he).2 u hu
 unfold equS at h2
 have h3:=(zaH h2).2
 rw[hb,qa9]at h3
 have h4:x.name∈A.own:=by
  unfold zd8 at h3
  obtain⟨h5,h6⟩:=zaH h3
  have key:∀left,ze7 p (seen++[(1,n.name,i)]) i A.own left x=0->x.name∈A.own:=fun left h7=>by
   unfold ze7 at h7
   rw[if_pos (.inl hk)]at h7
   split at h7
   ·assumption
   ·cases h7
  rw[zbJ]at hx
  rcases qa2.1 hx with rfl|hx
  ·exact key _ h5
  ·exact key _ (zah h6 x hx)
 refine zh3 fun w hw hm=>?_
 have h5:=(hs.add (1,n.name,i)).tag w hw _ hm
 rw[ho _ h4]at h5
 cases h5
theorem zms{p:Prog}(h:(zdE p).2=0){n:Nod}(hn:n∈p.nodes){u:Equ}(hu:u∈n.eqs):za4 p.enums u.right=0/\∀x∈flat u.right,x.kind.1=2->zbi x.name 0 p.enums=none:=by
 obtain⟨h1,h2,h3⟩:=zf8 h
 constructor
 ·have h4:=zhT h1 n hn
  unfold zcu at h4
  have h5:zl8 p.enums n=0:=qaB fun hh=>by rw[if_pos hh]at h4;exact hh h4
  rw[if_neg (by simp[h5])]at h4
  have h6:zac (equE p.enums) n.eqs=0:=qaB fun hh=>by rw[if_pos hh,zcq]at h4;exact hh h4
  exact zlZ (zah h6 u hu)
 ·obtain⟨i,hi⟩:∃i,(n,i)∈p.nodes.zipIdx:=by
   obtain⟨i,hi,e⟩:=List.getElem_of_mem hn
   refine⟨i,?_⟩
   rw[List.mem_iff_getElem?]
   exact⟨i,by simp[qac hi,e]⟩
  obtain⟨b,hb,h4⟩:=(zfr (EnS p.enums) p.nodes.zipIdx _ (fun a x hx ha _=>ha.add _) (zhQ h).2 h3).2 _ hi
  exact zpZ hb h4 u hu
section
variable {R:Rd}
end
theorem zoN(k:Int)(x:Str)(p:Int):x.length≤(zax (k,x,p)).length:=by
 unfold zax
 split
 ·exact zwfh
 ·exact qae _
theorem zoq{w x:Str}(h:zc0 w=(2,x,0)):w.length≤5:=by
 refine qby fun hl=>?_
 have h5:decide (5<(w.length:Int))=true:=by simp only[decide_eq_true_eq];omega
 unfold zc0 at h
 rw[h5,Bool.true_or,if_pos rfl]at h
 have h1:=congrArg Prod.fst h
 rw[apply_ite Prod.fst]at h1
 simp only[ite_self]at h1
 exact absurd h1 (by omega)
theorem zqT{x:Str}(h:zeI 2 x):x.length≤5/\∀c∈x,48≤c.toNat/\c.toNat≤57:=by
 rcases h with ⟨c,w,h1,h2,h3,h4⟩|⟨c,w,h1,h2,h3⟩|⟨h1,_⟩|⟨h1,_⟩
 ·rcases(zjA h4).1 with h|h <;> exact absurd h (by decide)
 ·refine⟨zoq h3,fun d hd=>?_⟩
  have:=h2 d hd
  unfold digit at this
  simp only[qau,decide_eq_true_eq]at this
  omega
 ·exact absurd h1 (by decide)
 ·exact absurd h1 (by decide)
theorem zuu(s:Str):TkOk (scan s).1:=by
 refine⟨by have:=zoF s;omega,fun t ht=>?_,fun t ht h2=>?_⟩
 all_goals
  by_cases hs:65536<s.length
  ·rw[scan,if_pos hs]at ht;cases ht
  rw[zk9 (by omega)]at ht
  obtain⟨a,ha,rfl⟩:=qaP.1 ht
  obtain⟨h3,h4,h5,h6⟩:=zt8 (s.length+1) s
 ·have h7:(zax (a.1,a.2.1,0)).length≤((lexF (s.length+1) s).1.map fun a=>(zax (a.1,a.2.1,0)).length).sum:=by
   have:∀(l:List (Int×Str×Nat)),a∈l->(zax (a.1,a.2.1,0)).length≤(l.map fun a=>(zax (a.1,a.2.1,0)).length).sum:=by
    intro l
    induction l with
    | nil=>intro h;cases h
    | cons b l ih=>
      intro h
      rw[qah,qay]
      rcases qa2.1 h with rfl|h
      ·omega
      ·have:=ih h;omega
   exact this _ ha
  have h8:=zoN a.1 a.2.1 0
  show a.2.1.length≤_
  omega
 ·have:=(h3 a ha).1
  replace h2:a.1=2:=h2
  rw[h2]at this
  exact zqT this
theorem znE(o:Int):(symS o).length≤3:=by
 unfold symS
 cases h:symL.find? fun e=>decide (e.1=o) with
 | none=>exact leB
 | some e=>
   have:=qb1 h
   have hh:∀e∈symL,e.2.length≤3:=by decide
   exact hh e this
theorem zbA(k o t v:I64)(n:Str)(l:List Ex):exC (.mk k o t v n l)=[T.n k,T.n o,T.n t,T.n v,.s n,.sl 6 (l.map exT)]:=rfl
theorem len2{α:Type}{l:List α}(h:l.length=2):∃a b,l=[a,b]:=by
 match l,h with
 | [a,b],_=>exact⟨a,b,rfl⟩
theorem len3{α:Type}{l:List α}(h:l.length=3):∃a b c,l=[a,b,c]:=by
 match l,h with
 | [a,b,c],_=>exact⟨a,b,c,rfl⟩
theorem zkW(f:Ex->Str)(o:Int)(a:Ex):zgE f o [a]=if o=1 then[110,111,116,32]++grS f a else if a.kind.1=1/\a.t.1=2 then[45,40]++f a++[41] else[45]++grS f a:=rfl
theorem zkX(f:Ex->Str)(o:Int)(a b:Ex):zgE f o [a,b]=grS f a++[32]++symS o++[32]++grS f b:=rfl
set_option maxHeartbeats 8000000 in
theorem zin {es:List En} {f:Ex->Str} {e:Ex} (hA:ShA e) (h3:e.kind.1=3) (hf:∀x∈e.args,ShC 18 es x (f x)) (hl:∀x∈e.args,(f x).length≤100000000000000):
  ShC 42 es e (zgE f e.op.1 e.args):=by
 obtain⟨ho1,ho2,hn⟩:=hA.o3 h3
 have hg:∀x∈e.args,ShC 43 es x (grS f x):=fun x hx=>zdW (hf x hx) (qaq (hl x hx) (by decide))
 have hgl:∀x∈e.args,(grS f x).length≤100000000000002:=fun x hx=>by
  exact zwdf
 obtain⟨k,o,t,v,nm,args⟩:=e
 clear hA
 dsimp only[Ex.kind,Ex.op,Ex.args]at*
 unfold opdI at hn
 by_cases h12:o.1=1\/o.1=2
 ·rw[if_pos h12]at hn
  obtain⟨a,rfl⟩:∃a,args=[a]:=qbC.1 (by omega)
  have hf:=hf a (qbg.2 rfl)
  have hg:=hg a (qbg.2 rfl)
  have hl:=hl a (qbg.2 rfl)
  have hgl:=hgl a (qbg.2 rfl)
  generalize hz:zgE f o.1 [a]=z
  rw[zkW]at hz
  by_cases h1:o.1=1
  ·rw[if_pos h1]at hz
   unfold ShC at*
   rw[zbA]
   dsimp only[List.map]
   rw[zae]
   generalize f a=s at*
   generalize grS f a=g at*
   subst hz
   obtain⟨⟨k',kk1,kk2⟩,o',⟨t',tt1,tt2⟩,v',n',l'⟩:=a
   obtain⟨o,oo1,oo2⟩:=o
   rw[zbA]at*
   dsimp only[Ex.kind,Ex.t]at*
   generalize l'.map exT=la at*
   subst h1
   exact zwz
  have h2:o.1=2:=by omega
  rw[if_neg h1]at hz
  by_cases hc:a.kind.1=1/\a.t.1=2
  ·rw[if_pos hc]at hz
   unfold ShC at*
   rw[zbA]
   dsimp only[List.map]
   rw[zae]
   generalize f a=s at*
   generalize grS f a=g at*
   subst hz
   obtain⟨⟨k',kk1,kk2⟩,o',⟨t',tt1,tt2⟩,v',n',l'⟩:=a
   obtain⟨o,oo1,oo2⟩:=o
   rw[zbA]at*
   dsimp only[Ex.kind,Ex.t]at*
   generalize l'.map exT=la at*
   subst h2
   obtain⟨rfl,rfl⟩:=hc
   exact zwz
  ·rw[if_neg hc]at hz
   unfold ShC at*
   rw[zbA]
   dsimp only[List.map]
   rw[zae]
   generalize f a=s at*
   generalize grS f a=g at*
   subst hz
   obtain⟨⟨k',kk1,kk2⟩,o',⟨t',tt1,tt2⟩,v',n',l'⟩:=a
   obtain⟨o,oo1,oo2⟩:=o
   rw[zbA]at*
   dsimp only[Ex.kind,Ex.t]at*
   generalize l'.map exT=la at*
   subst h2
   by_cases hk:k'=1
   ·subst hk
    have ht:t'≠2:=fun h=>hc ⟨rfl,h⟩
    exact zwz
   ·exact zwz
 ·rw[if_neg h12]at hn
  obtain⟨a,b,rfl⟩:∃a b,args=[a,b]:=len2 (by omega)
  have hga:=hg a (qak ..)
  have hgb:=hg b (qan _ (qak ..))
  have hla:=hgl a (qak ..)
  have hlb:=hgl b (qan _ (qak ..))
  have hs:=znE o.1
  clear hf hl hg hgl hn h3
  rw[zkX]
  unfold ShC at*
  rw[zbA]
  dsimp only[List.map]
  rw[zae,zae]
  generalize grS f a=ga at*
  generalize grS f b=gb at*
  obtain⟨k',o',t',v',n',l'⟩:=a
  obtain⟨k2,o2,t2,v2,n2,l2⟩:=b
  simp only[zbA]at*
  generalize l'.map exT=la at*
  generalize l2.map exT=lb at*
  have h1:o.1≠1:=fun h=>h12 (.inl h)
  have h2:o.1≠2:=fun h=>h12 (.inr h)
  have ho:3≤o.1/\o.1≤16:=by omega
  clear h12
  refine so Tryz.func42 ?_
  refine wkt ?_
  refine zqj ?_
  repeat' (first|refine wkt ?_|refine zqe ?_|exact wkc|intro hc|refine wk2 ?_ ?_|fail)
  refine rgS [wr es,.t (.ag [T.n k',T.n o',T.n t',T.n v',.s n',.sl 6 la]),.s ga,.s (ga++[32]),.ref 1 1,.mp 0,.cp [T.n k,T.n o,T.n t,T.n v,.s nm,.sl 6 [.ag [T.n k',T.n o',T.n t',T.n v',.s n',.sl 6 la],.ag [T.n k2,T.n o2,T.n t2,T.n v2,.s n2,.sl 6 lb]]] 1,.n o,.s (symS o.1),.s (ga++[32]++symS o.1),.s (ga++[32]++symS o.1++[32]),wr es,.cp [T.n k,T.n o,T.n t,T.n v,.s nm,.sl 6 [.ag [T.n k',T.n o',T.n t',T.n v',.s n',.sl 6 la],.ag [T.n k2,T.n o2,T.n t2,T.n v2,.s n2,.sl 6 lb]]] 5,.t (.sl 6 [.ag [T.n k',T.n o',T.n t',T.n v',.s n',.sl 6 la],.ag [T.n k2,T.n o2,T.n t2,T.n v2,.s n2,.sl 6 lb]]),.cp [T.n k2,T.n o2,T.n t2,T.n v2,.s n2,.sl 6 lb] 0,.t (.ag [T.n k2,T.n o2,T.n t2,T.n v2,.s n2,.sl 6 lb]),.s gb,.s (ga++[32]++symS o.1++[32]++gb),.s (ga++[32]++symS o.1++[32]++gb)] ?_ ?_
  ·repeat' (first|refine wkt ?_|refine wd hga ?_|refine wd hgb ?_|refine TO.zvS rfl rfl rfl rfl ho ?_|refine zqe ?_|refine zqc ?_|exact trivial|exact⟨⟨rfl,rfl⟩,trivial⟩|refine qai (fun env=>?_) ?_|refine wk ?_|exact wkc|intro hc|refine wk2 ?_ ?_|fail)
   done
  ·repeat' (first|refine wu ?_|exact wkc|intro hc|refine wk2 ?_ ?_|fail)
   exact zwfr
theorem zcF(sep:Str)(B:Nat):∀l:List Str,(∀x∈l,x.length≤B)->(Go.Lib.join l sep).length≤l.length*(B+sep.length)
 | [],_=>by simp[Go.Lib.join]
 | [x],h=>by
   have:=h x (qbg.2 rfl)
   simp[Go.Lib.join]
   omega
 | x::y::l,h=>by
   have h1:=h x (qak ..)
   have h2:=zcF sep B (y::l) fun z hz=>h z (qan _ hz)
   have e:(Go.Lib.join (x::y::l) sep).length=x.length+sep.length+(Go.Lib.join (y::l) sep).length:=by
    simp[Go.Lib.join]
    try omega
   rw[e,qal,qbZ]
   omega
def zfj(es:List En)(ck:List OnC):Str:=Go.Lib.join (ck.map (smpS es)) [32]
set_option maxHeartbeats 4000000 in
theorem zgm {es:List En} (h:ShE es) (ck:List OnC) (hn:∀o∈ck,o.name.length≤3000000) (hl:ck.length≤1000000):Sound Tryz.prog 34 [wr es,.t (.sl 3 (ck.map onT))] [symB] (fun r H'=>r= .ret (.s (zfj es ck))/\H'=[symB]):=by
 have hml:(ck.map onT).length=ck.length:=qab _
 have hj:=zcs (ck.map (smpS es)) [32] (by rw[qab];omega) (by
  refine qaq (zcF [32] 6000040 _ fun x hx=>?_) ?_
  ·obtain⟨o,ho,rfl⟩:=qaP.1 hx
   exact zjM h o (hn o ho)
  ·rw[qab]
   exact qaq (qaD _ hl) (by decide))
 unfold zfj
 have hjm:(ck.map (smpS es)).map T.s=ck.map fun o=>T.s (smpS es o):=by rw[qa8];rfl
 rw[hjm]at hj
 generalize Go.Lib.join (ck.map (smpS es)) [32]=z at*
 refine so Tryz.func34 ?_
 refine wkt ?_
 refine zqj ?_
 repeat' (first|refine wkt ?_|fail)
 refine TR.tail 1 5 rfl ?_
 refine TR.zaA ck.length (fun _=>True) (fun j=>[(2,.ref 1 0),(5,.sl 1 ((ck.take j).map fun o=>T.s (smpS es o)) 2),(8,.t (.sl 3 (ck.map onT))),(9,.i ck.length),(10,.i j)]) (fun j=>[symB,.cells [.t (ensT es),.mp 0],.tail ((ck.take j).map fun o=>T.s (smpS es o)).length]) trivial (fun j hlt _=>?_) (fun _=>?_) ⟨rfl,rfl,rfl,by rw[<-hml];rfl,rfl,trivial⟩ rfl
 ·have hx:=zbj onT hlt
  have htk:=zbr hlt
  have hs:=zeT h ck[j] (hn _ (qaf hlt))
  have hlen:((ck.take j).map fun o=>T.s (smpS es o)).length≤1000000:=by rw[qab,qbn];omega
  generalize ck[j]=o at*
  obtain⟨nm,t,v⟩:=o
  dsimp only[onT]at hx hs
  repeat' (first|refine wu ?_|exact wkc|intro hc|refine wk2 ?_ ?_|refine wd hs ?_|fail)
  exact zab.zaI hlt trivial (by(try dsimp only);rw[htk,qaH];exact⟨rfl,rfl,rfl,rfl,rfl,trivial⟩) (by(try dsimp only);rw[htk,qaH];simp)
 ·exact zwbv
end Go.Proofs.YthmbhfgflijapaaGreatDoor
namespace Go.TL
open Go
section rules
variable {P:Program}{all:Array Oper}
theorem TR.zsj(w:List Nat){g:Prop}{n:Nat}{env0 envF:Env}{H0:Heap}{K:TK}{id':Nat}{l:List Oper}(t:List (SV×Bool))(hm:P.follows .mixedOrders=true)(hw:w.all (fun t=>(env0.look t).isSome)=true)(hB:mixW w l.toArray (t.map (·.2))=true)
  (hp:zjZ P n K g l.toArray (zaM env0 w++zbT l.toArray (t.map (·.1)) env0) H0 l t)(hE:zbK (zbT l.toArray (t.map (·.1)) env0)=some envF)(hne:0<l.length)(hK:g->K .normal envF H0):
  TR P n (.region id' l.toArray true) env0 H0 K:=by
 obtain⟨g1,g2⟩:=hp.get
 intro φ m a h1 h2 h3 h4
 let hs:=List.replicate (((t.map (·.2)).filter id).length+1) H0
 have hsg:∀(c:Nat) H,hs[c]?=some H->H=H0:=by
  exact zweo
 have hsi:∀c:Nat,c≤((t.map (·.2)).filter id).length->hs[c]?=some H0:=by
  intro c hc
  rw[qbL,if_pos (by omega)]
 have s0:Step m ⟨m.A,m.β,m.H,{ m.w with drawn:=m.w.drawn+1 }⟩/\HRel ⟨m.A,m.β,m.H,{ m.w with drawn:=m.w.drawn+1 }⟩:=zcJ h2 ⟨rfl,rfl,rfl,qae _,fun _ _=>rfl⟩
 refine zbs (wpIn_region_any hm ?_)
 refine zfe w (G:=fun i=>zrV g (l.drop (i+1))) (vs:=t.map (·.1)) (fl:=t.map (·.2)) (hs:=hs) (HF:=H0) (m0:=m) (fun t ht=>qaw.1 hw t (by simpa using ht)) hB (by simp[g1]) (by simp[g1]) ?_ ?_ (hsi _ (qae _)) (fun hg=>by rw[zba hE]at hK;exact hK (by have:=hg (l.length-1) (by simp;omega);rw[qaY (by omega)]at this;exact this)) l.toArray.size (Array.replicate l.toArray.size false)
  ⟨m.A,m.β,m.H,{ m.w with drawn:=m.w.drawn+1 }⟩ a (by simp) ?_ ?_ ?_ s0.1 s0.2 ?_ (h4.step h2 s0.1)
 ·exact zwcf
 ·exact zwf
 ·exact zwfd
 ·exact zwcn
 ·exact zwbs
 ·exact zwi
end rules
end Go.TL
namespace Go.Proofs.YthmbhfgflijapaaGreatDoor
open Go Go.TL
attribute [local irreducible] TR TO Then zag RetK Sound zab Kf GG zaK
theorem rgW{n:Nat}{env0 envF:Env}{H0:Heap}{K:TK}{id':Nat}{l:List Oper}(w:List Nat)(t:List SV)
  (hp:zjZ Tryz.prog n K True l.toArray (zaM env0 w++zbT l.toArray t env0) H0 l (t.map fun v=>(v,false)))(hK:K .normal envF H0)
  (hw:w.all (fun t=>(env0.look t).isSome)=true:=by rfl)(hB:mixW w l.toArray (t.map fun _=>false)=true:=by dsimp only[List.map];decide +kernel)(hne:0<l.length:=by decide)(hE:zbK (zbT l.toArray t env0)=some envF:=by exact rfl):
  TR Tryz.prog n (.region id' l.toArray true) env0 H0 K:=by
 have e1:(t.map fun v=>(v,false)).map (·.1)=t:=by rw[qa8];exact qcy t
 have e2:(t.map fun v=>(v,false)).map (·.2)=t.map fun _=>false:=by rw[qa8];rfl
 exact TR.zsj w (t.map fun v=>(v,false)) hmix hw (by rw[e2];exact hB) (by rw[e1];exact hp) (by rw[e1];exact hE) hne fun _=>hK
end Go.Proofs.YthmbhfgflijapaaGreatDoor
namespace Go.Proofs.YthmbhfgflijapaaGreatDoor
open Go Go.TL
attribute [local irreducible] TR TO Then zag RetK Sound zab Kf GG zaK
theorem zf2{es:List En}{f:Ex->Str}{args:List Ex}(h:ShE es)(hl:∀x∈args,(f x).length≤100000000000000)(t:I64)(s:Str):∀i:Nat,i≤64->(zbc es f t.1 args s i).length≤s.length+i*100000003000040
 | 0,_=>by simp[zbc]
 | i+1,hi=>by
   have ih:=zf2 h hl t s i (by omega)
   have hb:-9223372036854775808≤brV t.1 i/\brV t.1 i≤9223372036854775807:=by unfold brV;split <;> omega
   have hv:(valS es t.1 (brV t.1 i)).length≤3000030:=zeH h t ⟨brV t.1 i,hb⟩
   have hg:(((args[(brV t.1 i).toNat]?).map f).getD []).length≤100000000000000:=by
    cases hx:args[(brV t.1 i).toNat]? with
    | none=>exact qaJ _
    | some x=>exact hl x (qas hx)
   rw[zbc]
   exact zwfg
set_option maxHeartbeats 8000000 in
theorem zmg {es:List En} {f:Ex->Str} {e:Ex} (h:ShE es) (hA:ShA e) (h9:e.kind.1=9) (hf:∀x∈e.args,ShC 18 es x (f x)) (hl:∀x∈e.args,(f x).length≤100000000000000):
  ShC 45 es e (zbc es f e.t.1 e.args ([109,101,114,103,101,32]++e.name) e.args.length):=by
 have hn:=hA.k9 h9
 have hnm:=hA.name
 have hfew:=hA.few
 obtain⟨k,o,t,v,nm,args⟩:=e
 clear hA
 dsimp only[Ex.kind,Ex.t,Ex.args,Ex.name]at*
 have hml:(args.map exT).length=args.length:=qab _
 show Sound _ _ _ _ _
 rw[zbA]
 by_cases ht:t.1=1
 ·have hn:=hn ht
  obtain⟨t,tt1,tt2⟩:=t
  dsimp only at ht
  subst ht
  refine so Tryz.func45 ?_
  refine wkt ?_
  refine zqj ?_
  repeat' (first|refine wkt ?_|refine zqc ?_|fail)
  refine TR.zaA args.length (fun _=>True) (fun j=>[(2,.ref 1 0),(3,.cp [T.n k,T.n o,T.i 1,T.n v,.s nm,.sl 6 (args.map exT)] 0),(5,.s (zbc es f (1:Int) args ([109,101,114,103,101,32]++nm) j)),(13,.i args.length),(14,.i j)]) (fun j=>[symB,.cells [.t (ensT es),.mp 0]]) trivial (fun j hlt _=>?_) (fun _=>?_) ⟨rfl,rfl,rfl,by rw[<-hml];rfl,rfl,trivial⟩ rfl
  ·have hlt2:(1-(j:Int)).toNat<args.length:=by omega
   have hx:=zd3 hlt2
   have hs:=hf _ (qaf hlt2)
   have hgl:=hl _ (qaf hlt2)
   have hal:=zf2 h hl ⟨1,by decide⟩ ([109,101,114,103,101,32]++nm) j (by omega)
   have hval:Sound Tryz.prog 41 [wr es,.i 1,.i (1-(j:Int))] [symB] (fun r H'=>r= .ret (.s (valS es (1:Int) (1-(j:Int))))/\H'=[symB]):=zdm h ⟨1,by decide⟩ ⟨1-(j:Int),by omega⟩
   have hzl:(valS es (1:Int) (1-(j:Int))).length≤3000030:=zeH h ⟨1,by decide⟩ ⟨1-(j:Int),by omega⟩
   have hst:zbc es f (1:Int) args ([109,101,114,103,101,32]++nm) (j+1)=zbc es f (1:Int) args ([109,101,114,103,101,32]++nm) j++([32,40]++valS es (1:Int) (1-(j:Int))++[32,45,62,32]++f args[(1-(j:Int)).toNat]++[41]):=by
    rw[zbc,show brV (1:Int) j=1-(j:Int) from rfl,qac hlt2]
    rfl
   have hac:(zbc es f (1:Int) args ([109,101,114,103,101,32]++nm) j).length≤10000000000000000:=by
    exact zwck
   clear hal
   generalize valS es (1:Int) (1-(j:Int))=z at*
   generalize zbc es f (1:Int) args ([109,101,114,103,101,32]++nm) j=acc at*
   generalize args[(1-(j:Int)).toNat]=x at*
   unfold ShC at hs
   generalize f x=g at*
   obtain⟨k',o',t',v',n',l'⟩:=x
   rw[zbA]at hx hs
   generalize l'.map exT=la at*
   repeat' (first|refine wkt ?_|(apply TO.zaV;(iterate 3 exact rfl);omega;omega)|exact wkc|intro hc|refine wk2 ?_ ?_|fail)
   refine rgW [5] [.s acc,wr es,.cp [T.n k,T.n o,T.i 1,T.n v,.s nm,.sl 6 (args.map exT)] 2,.i 1,.i (1-(j:Int)),.s z,.s ([32,40]++z),.s ([32,40]++z++[32,45,62,32]),wr es,.cp [T.n k,T.n o,T.i 1,T.n v,.s nm,.sl 6 (args.map exT)] 5,.t (.sl 6 (args.map exT)),.i (1-(j:Int)),.cp [T.n k',T.n o',T.n t',T.n v',.s n',.sl 6 la] 0,.t (.ag [T.n k',T.n o',T.n t',T.n v',.s n',.sl 6 la]),.s g,.s ([32,40]++z++[32,45,62,32]++g),.s ([32,40]++z++[32,45,62,32]++g++[41]),.s (acc++([32,40]++z++[32,45,62,32]++g++[41])),.s (acc++([32,40]++z++[32,45,62,32]++g++[41]))] ?_ ?_
   ·repeat' (first|refine wkt ?_|refine wd hs ?_|refine wd hval ?_|refine zqf ?_|refine zqc ?_|exact trivial|exact⟨⟨rfl,rfl⟩,trivial⟩|refine qai (fun env=>?_) ?_|refine wk ?_|exact wkc|intro hc|refine wk2 ?_ ?_|fail)
    done
   ·repeat' (first|refine wu ?_|exact wkc|intro hc|refine wk2 ?_ ?_|fail)
    exact zwdo
  ·repeat' (first|refine wu ?_|exact wkc|intro hc|refine wk2 ?_ ?_|fail)
   exact zwfr
 ·have hbr:∀i:Nat,brV t.1 i=i:=fun i=>if_neg ht
  refine so Tryz.func45 ?_
  refine wkt ?_
  refine zqj ?_
  repeat' (first|refine wkt ?_|refine zqc ?_|fail)
  refine TR.zaA args.length (fun _=>True) (fun j=>[(2,.ref 1 0),(3,.cp [T.n k,T.n o,T.n t,T.n v,.s nm,.sl 6 (args.map exT)] 0),(5,.s (zbc es f t.1 args ([109,101,114,103,101,32]++nm) j)),(13,.i args.length),(14,.i j)]) (fun j=>[symB,.cells [.t (ensT es),.mp 0]]) trivial (fun j hlt _=>?_) (fun _=>?_) ⟨rfl,rfl,rfl,by rw[<-hml];rfl,rfl,trivial⟩ rfl
  ·have hlt2:((j:Int)).toNat<args.length:=by omega
   have hx:=zd3 hlt2
   have hs:=hf _ (qaf hlt2)
   have hgl:=hl _ (qaf hlt2)
   have hal:=zf2 h hl t ([109,101,114,103,101,32]++nm) j (by omega)
   have hval:Sound Tryz.prog 41 [wr es,.n t,.i ((j:Int))] [symB] (fun r H'=>r= .ret (.s (valS es t.1 ((j:Int))))/\H'=[symB]):=zdm h t ⟨(j:Int),by omega⟩
   have hzl:(valS es t.1 ((j:Int))).length≤3000030:=zeH h t ⟨(j:Int),by omega⟩
   have hst:zbc es f t.1 args ([109,101,114,103,101,32]++nm) (j+1)=zbc es f t.1 args ([109,101,114,103,101,32]++nm) j++([32,40]++valS es t.1 ((j:Int))++[32,45,62,32]++f args[((j:Int)).toNat]++[41]):=by
    rw[zbc,hbr,qac hlt2]
    rfl
   have hac:(zbc es f t.1 args ([109,101,114,103,101,32]++nm) j).length≤10000000000000000:=by
    exact zwck
   clear hal
   generalize valS es t.1 ((j:Int))=z at*
   generalize zbc es f t.1 args ([109,101,114,103,101,32]++nm) j=acc at*
   generalize args[((j:Int)).toNat]=x at*
   unfold ShC at hs
   generalize f x=g at*
   obtain⟨k',o',t',v',n',l'⟩:=x
   rw[zbA]at hx hs
   generalize l'.map exT=la at*
   repeat' (first|refine wkt ?_|(apply TO.zaV;(iterate 3 exact rfl);omega;omega)|exact wkc|intro hc|refine wk2 ?_ ?_|fail)
   refine rgW [5] [.s acc,wr es,.cp [T.n k,T.n o,T.n t,T.n v,.s nm,.sl 6 (args.map exT)] 2,.n t,.i ((j:Int)),.s z,.s ([32,40]++z),.s ([32,40]++z++[32,45,62,32]),wr es,.cp [T.n k,T.n o,T.n t,T.n v,.s nm,.sl 6 (args.map exT)] 5,.t (.sl 6 (args.map exT)),.i ((j:Int)),.cp [T.n k',T.n o',T.n t',T.n v',.s n',.sl 6 la] 0,.t (.ag [T.n k',T.n o',T.n t',T.n v',.s n',.sl 6 la]),.s g,.s ([32,40]++z++[32,45,62,32]++g),.s ([32,40]++z++[32,45,62,32]++g++[41]),.s (acc++([32,40]++z++[32,45,62,32]++g++[41])),.s (acc++([32,40]++z++[32,45,62,32]++g++[41]))] ?_ ?_
   ·repeat' (first|refine wkt ?_|refine wd hs ?_|refine wd hval ?_|refine zqf ?_|refine zqc ?_|exact trivial|exact⟨⟨rfl,rfl⟩,trivial⟩|refine qai (fun env=>?_) ?_|refine wk ?_|exact wkc|intro hc|refine wk2 ?_ ?_|fail)
    done
   ·repeat' (first|refine wu ?_|exact wkc|intro hc|refine wk2 ?_ ?_|fail)
    exact zwdo
  ·repeat' (first|refine wu ?_|exact wkc|intro hc|refine wk2 ?_ ?_|fail)
   exact zwfr
end Go.Proofs.YthmbhfgflijapaaGreatDoor
