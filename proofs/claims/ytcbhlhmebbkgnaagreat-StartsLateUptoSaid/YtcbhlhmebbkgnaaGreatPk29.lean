import Derived.Test.YtcbhlhmebbkgnaaGreatPk14
import Derived.Test.YtcbhlhmebbkgnaaGreatPk20
import Derived.Test.YtcbhlhmebbkgnaaGreatPk21
import Derived.Test.YtcbhlhmebbkgnaaGreatPk28
set_option linter.unusedSimpArgs false
set_option linter.unusedVariables false
namespace Go.Proofs.YtcbhlhmebbkgnaaGreat
open Go Go.TL
attribute [local irreducible] TR TO Then zaw RetK Sound zab Kf GG zaZ
attribute [local irreducible] zcj
def zf0(l f:List Str):Bool:=decide (wo l f=[]) && decide (wo f l=[])
def autR:Nat->Plr->List Str->Auto->List Str×Int
 | 0,_,_,_=>([],0)
 | k+1,s,df,a=>
   if dupE [] (a.states.map Sta.name)≠0 then([],7) else
   if zaa Prod.snd (a.states.map fun x=>stR (autR k) s x df)≠0 then([],zaa Prod.snd (a.states.map fun x=>stR (autR k) s x df)) else
   if((a.states.map fun x=>stR (autR k) s x df).all fun r=>zf0 r.1 (zaD (a.states.map fun x=>stR (autR k) s x df)))=true then(zaD (a.states.map fun x=>stR (autR k) s x df),0) else([],8)
theorem zmF{α β:Type}{f:List β->α->List β×Int}{m:α->Nat}(l:List α)(h:∀a x,x∈l->(f a x).2=0->∃new,(f a x).1=a++new/\new.length≤m x):∀a,(zad f a l).2=0->∃new,(zad f a l).1=a++new/\new.length≤(l.map m).sum:=by
 induction l with
 | nil=>intro a _;exact⟨[],by simp[zad],by simp⟩
 | cons x l ih=>
   intro a hz
   rw[zad]at hz⊢
   split at hz
   ·rename_i h0
    rw[if_pos h0]
    obtain⟨n1,h1,h2⟩:=h a x (by simp) h0
    obtain⟨n2,h3,h4⟩:=ih (fun a y hy=>h a y (by simp[hy])) _ hz
    refine⟨n1++n2,by rw[h3,h1,List.append_assoc],?_⟩
    simp only[List.map_cons,List.sum_cons,List.length_append];omega
   ·rename_i h0;exact absurd hz h0
theorem zsV(s:Plr):∀(l df:List Str),(zad (zbB s) df l).2=0->(zad (zbB s) df l).1=df++l
 | [],df,_=>by simp[zad]
 | x::l,df,h=>by
   rw[zad]at h⊢
   split at h
   ·rename_i h0
    rw[if_pos h0,zsV s l _ h]
    simp[zbB]
   ·rename_i h0;exact absurd h h0
theorem zts{s:Plr}{df:List Str}{u:Equ}(h:(equR s df u).2=0):(equR s df u).1=df++u.left:=by
 unfold equR at h⊢
 split at h
 ·rename_i h0;exact absurd h h0
 ·rename_i h0
  rw[if_neg h0]
  exact zsV s _ _ (Decidable.not_not.1 h0)
theorem zuI(a b:List Str):wo (a++b) a=wo b a:=by
 unfold wo
 rw[List.filter_append]
 have:a.filter (fun s=>!decide (s∈a))=[]:=by
  rw[List.filter_eq_nil_iff];intro x hx;simp[hx]
 rw[this,List.nil_append]
theorem zsY{F:Plr->List Str->Auto->List Str×Int}(hF:∀s a all,(F s all a).1.length≤(zaj a).w)(s:Plr)(x:Sta)(df:List Str):(stR F s x df).1.length≤(staT x).w:=by
 unfold stR
 split
 ·simp
 split
 ·simp
 split
 ·simp
 split
 ·simp
 split
 ·simp
 split
 ·simp
 rename_i h1 h2 _ _ _
 obtain⟨n1,e1,l1⟩:=zmF (m:=fun u:Equ=>u.left.length) x.eqs (fun a u _ h=>⟨u.left,zts h,Nat.le_refl _⟩) df (Decidable.not_not.1 h1)
 obtain⟨n2,e2,l2⟩:=zmF (f:=autF F (s.at (zbq s.vis s.tags x.locals).1)) (m:=fun a:Auto=>(zaj a).w) x.autos (fun d a _ _=>⟨(F (s.at (zbq s.vis s.tags x.locals).1) d a).1,rfl,hF _ _ _⟩) _ (Decidable.not_not.1 h2)
 have hEs:=zea (m:=fun u:Equ=>u.left.length) (f:=equT) 7 x.eqs (fun u _=>zbE)
 have hAs:=zea (m:=fun a:Auto=>(zaj a).w) (f:=zaj) 1 x.autos (fun a _=>Nat.le_refl _)
 have hws:=zfd x
 rw[e2,e1,List.append_assoc,zuI]
 have:=zok (wo (n1++n2) df) (x.locals.map Decl.name)
 have:=zok (n1++n2) df
 simp only[List.length_append]at this
 show(wo (wo (n1++n2) df) (x.locals.map Decl.name)).length≤_
 omega
theorem zin{rs:List (List Str×Int)}{B:Nat}(h:∀r∈rs,r.1.length≤B):(zaD rs).length≤B:=by
 cases rs with
 | nil=>simp[zaD]
 | cons r l=>exact h r (by simp)
theorem zld:∀(k:Nat) (s:Plr) (a:Auto) (df:List Str),(autR k s df a).1.length≤(zaj a).w
 | 0,_,_,_=>by simp[autR]
 | k+1,s,a,df=>by
   rw[autR]
   split
   ·simp
   split
   ·simp
   split
   ·refine zin fun r hr=>?_
    obtain⟨x,hx,rfl⟩:=List.mem_map.1 hr
    have h1:=zsY (fun s a all=>zld k s a all) s x df
    have h2:=zaC (f:=staT) (sz:=6) hx
    have h3:=zdn a
    omega
   ·simp
set_option maxHeartbeats 4000000 in
theorem zo3 (F:Plr->List Str->Auto->List Str×Int) (s:Plr) (l:List Sta) (df:List Str) (hll:l.length≤1000000000)
  (hst:∀x∈l,Pure Tryz.prog 194 [.t (.ag (plrC s)),.t (staT x),.t (zae df)] (.tup [.t (zae (stR F s x df).1),.i (stR F s x df).2])) (hsl:∀x∈l,(stR F s x df).1.length≤1000000000) (R:List Str×Int)
  (hR:R=(if dupE [] (l.map Sta.name)≠0 then([],7) else if zaa Prod.snd (l.map fun x=>stR F s x df)≠0 then([],zaa Prod.snd (l.map fun x=>stR F s x df)) else
    if((l.map fun x=>stR F s x df).all fun r=>zf0 r.1 (zaD (l.map fun x=>stR F s x df)))=true then(zaD (l.map fun x=>stR F s x df),0) else([],8))):
  Pure Tryz.prog 163 [.t (.ag (plrC s)),.t (.ag [.sl 6 (l.map staT)]),.t (zae df)] (.tup [.t (zae R.1),.i R.2]):=by
 have hml:(l.map staT).length=l.length:=List.length_map _
 have hnl:(l.map Sta.name).length=l.length:=List.length_map _
 generalize hG:(fun x=>stR F s x df)=G at*
 have hst:=fun x hx=>(hst x hx)
 have hGx:∀x,stR F s x df=G x:=fun x=>by rw[<-hG]
 simp only[hGx]at hst hsl
 clear hG hGx
 unfold plrC at*
 refine so Tryz.func163 ?_
 repeat' (first|refine wkb ?_|refine wk ?_|fail)
 refine TR.zal l.length (fun j=>dupE [] ((l.map Sta.name).take j)=0) (fun j=>[(2,.t (zae df)),(3,.cp [.sl 2 (s.p.enums.map enT),zag s.p.nodes,T.i s.node,zae s.vis,zae s.inputs,zae s.tags] 0),(4,.cp [.sl 6 (l.map staT)] 0),(8,.i j)]) (fun _=>[]) rfl (fun j hlj hj=>?_) (fun hj=>?_)
 ·have hxj:=zfK hlj
  have hnj:(l.map Sta.name)[j]'(by omega)=l[j].name:=by simp
  repeat' (first|refine wkb ?_|refine wk ?_|exact wkc|intro hc|refine wk2 ?_ ?_|fail)
  refine TR.zal j (fun k=>l[j].name ∉ (l.map Sta.name).take k) (fun k=>[(2,.t (zae df)),(3,.cp [.sl 2 (s.p.enums.map enT),zag s.p.nodes,T.i s.node,zae s.vis,zae s.inputs,zae s.tags] 0),(4,.cp [.sl 6 (l.map staT)] 0),(8,.i j),(9,.i k)]) (fun _=>[]) (by simp) (fun k hlk hk=>?_) (fun hk=>?_)
  ·have hxk:=zfK (show k<l.length by omega)
   have hnk:(l.map Sta.name)[k]'(by omega)=(l[k]'(by omega)).name:=by simp
   have htk:=zaG (l:=l.map Sta.name) (show k<(l.map Sta.name).length by omega)
   rw[hnk]at htk
   have hbad:(l[k]'(by omega)).name=l[j].name->dupE [] (l.map Sta.name)=7:=fun h=>zrf (by omega) hj (by
    rw[hnj,<-h,<-hnk]
    exact List.mem_take_iff_getElem.2 ⟨k,by omega,rfl⟩)
   generalize l[j]=x at*
   generalize l[k]'(by omega)=y at*
   unfold staC at hxj hxk
   by_cases hyx:y.name=x.name
   ·repeat' (first|refine wkb ?_|refine rg [.cp [.sl 6 (l.map staT)] 0,.t (.sl 6 (l.map staT)),.i k,.cp [.s y.name,zac y.locals,.sl 7 (y.eqs.map equT),.sl 1 (y.autos.map zaj),.sl 8 (y.unl.map zat),.sl 8 (y.unt.map zat)] 0,.cp [.s y.name,zac y.locals,.sl 7 (y.eqs.map equT),.sl 1 (y.autos.map zaj),.sl 8 (y.unl.map zat),.sl 8 (y.unt.map zat)] 0,.t (.s y.name),.cp [.sl 6 (l.map staT)] 0,.t (.sl 6 (l.map staT)),.i j,.cp [.s x.name,zac x.locals,.sl 7 (x.eqs.map equT),.sl 1 (x.autos.map zaj),.sl 8 (x.unl.map zat),.sl 8 (x.unt.map zat)] 0,.cp [.s x.name,zac x.locals,.sl 7 (x.eqs.map equT),.sl 1 (x.autos.map zaj),.sl 8 (x.unl.map zat),.sl 8 (x.unt.map zat)] 0,.t (.s x.name),.b true] ?_ ?_|exact trivial|exact And.intro rfl rfl|refine And.intro (fun H env=>?_) ?_|refine And.intro (fun env=>?_) ?_|refine wk ?_|exact wkc|intro hc|refine wk2 ?_ ?_|fail)
    all_goals first
     | (exfalso;exact absurd hyx (by assumption))
     | (exfalso;omega)
     | (rw[hbad hyx,if_pos (by decide)]at hR
        rw[hR];exact wkr)
   ·repeat' (first|refine wkb ?_|refine rg [.cp [.sl 6 (l.map staT)] 0,.t (.sl 6 (l.map staT)),.i k,.cp [.s y.name,zac y.locals,.sl 7 (y.eqs.map equT),.sl 1 (y.autos.map zaj),.sl 8 (y.unl.map zat),.sl 8 (y.unt.map zat)] 0,.cp [.s y.name,zac y.locals,.sl 7 (y.eqs.map equT),.sl 1 (y.autos.map zaj),.sl 8 (y.unl.map zat),.sl 8 (y.unt.map zat)] 0,.t (.s y.name),.cp [.sl 6 (l.map staT)] 0,.t (.sl 6 (l.map staT)),.i j,.cp [.s x.name,zac x.locals,.sl 7 (x.eqs.map equT),.sl 1 (x.autos.map zaj),.sl 8 (x.unl.map zat),.sl 8 (x.unt.map zat)] 0,.cp [.s x.name,zac x.locals,.sl 7 (x.eqs.map equT),.sl 1 (x.autos.map zaj),.sl 8 (x.unl.map zat),.sl 8 (x.unt.map zat)] 0,.t (.s x.name),.b false] ?_ ?_|exact trivial|exact And.intro rfl rfl|refine And.intro (fun H env=>?_) ?_|refine And.intro (fun env=>?_) ?_|refine wk ?_|exact wkc|intro hc|refine wk2 ?_ ?_|fail)
    all_goals first
     | (exfalso;exact absurd (by assumption) hyx)
     | (exfalso;omega)
     | exact zab.zak hlk (by rw[htk,List.mem_append];rintro(h|h);exact hk h;exact hyx (List.mem_singleton.1 h).symm)
  ·repeat' (first|refine wkb ?_|refine wk ?_|exact wkc|intro hc|refine wk2 ?_ ?_|fail)
   exact zab.zak hlj (zn3 (by omega) hj (by rw[hnj];exact hk))
 ·rw[<-hnl,List.take_length]at hj
  rw[if_neg (by simp[hj])]at hR
  repeat' (first|refine wkb ?_|refine wk ?_|exact wkc|intro hc|refine wk2 ?_ ?_|fail)
  refine TR.less 10 rfl (Le.nil 1) ?_
  have hfl:(zaD (l.map G)).length≤1000000000:=zin fun r hr=>by
   obtain⟨x,hx,rfl⟩:=List.mem_map.1 hr
   exact hsl x hx
  have hf0:∀h:0<l.length,(G l[0]).1=zaD (l.map G):=fun h=>by
   cases l with
   | nil=>simp at h
   | cons x l=>rfl
  generalize hf:zaD (l.map G)=f at*
  refine TR.zal l.length (fun j=>zaa Prod.snd ((l.map G).take j)=0) (fun j=>[(2,.t (zae df)),(3,.cp [.sl 2 (s.p.enums.map enT),zag s.p.nodes,T.i s.node,zae s.vis,zae s.inputs,zae s.tags] 0),(4,.cp [.sl 6 (l.map staT)] 0),(10,.t (zae (if j=0 then[] else f))),(11,.b (((l.map G).take j).all fun r=>zf0 r.1 f)),(12,.i j)]) (fun _=>[]) rfl (fun j hlj hj2=>?_) (fun hj2=>?_)
  ·have hx:=zfK hlj
   have he:=hst _ (List.getElem_mem hlj)
   have hgl:=hsl _ (List.getElem_mem hlj)
   have hlj2:j<(l.map G).length:=by rw[List.length_map];exact hlj
   have htk:=zaU hlj2 hj2
   have hat:=zan hlj2 hj2
   have hta:=zaG hlj2
   have hgj:(l.map G)[j]=G l[j]:=by simp
   rw[hgj]at htk hat hta
   have hfj:j=0->(G l[j]).1=f:=fun h=>by subst h;exact hf0 hlj
   generalize l[j]=x at*
   rw[zf6]at he
   unfold staC at hx he
   generalize G x=g at*
   obtain⟨g1,g2⟩:=g
   simp only at he hgl htk hat hfj
   have hsm:(((l.map G).take (j+1)).all fun r=>zf0 r.1 f)=((((l.map G).take j).all fun r=>zf0 r.1 f) && zf0 g1 f):=by rw[hta,List.all_append];simp
   have w1:=zb3 g1 f (by omega) (by omega)
   have w2:=zb3 f g1 (by omega) (by omega)
   rw[show(g1.filter fun s=>!decide (s∈f))=wo g1 f from rfl]at w1
   rw[show(f.filter fun s=>!decide (s∈g1))=wo f g1 from rfl]at w2
   generalize (((l.map G).take j).all fun r=>zf0 r.1 f)=b at*
   rw[show zf0 g1 f=(decide (wo g1 f=[]) && decide (wo f g1=[])) from rfl]at hsm
   have h1l:((wo g1 f).map T.s).length=(wo g1 f).length:=List.length_map _
   have h2l:((wo f g1).map T.s).length=(wo f g1).length:=List.length_map _
   have hd1:wo g1 f=[] ↔ (wo g1 f).length=0:=by simp
   have hd2:wo f g1=[] ↔ (wo f g1).length=0:=by simp
   have ho:g1=f->wo g1 f=wo f g1:=fun h=>by rw[h]
   generalize wo g1 f=o1 at*
   generalize wo f g1=o2 at*
   have hR7:g2≠0->R=([],g2):=fun h=>by
    rw[hat h,if_pos h]at hR;exact hR
   clear hR hst hat
   by_cases hj0:j=0
   ·have hg:=hfj hj0
    have ho2:=ho hg
    clear ho
    subst hg
    subst ho2
    rw[if_pos hj0]
    cases b
    all_goals
     repeat' (first|refine wkb ?_|refine rg [.t (.ag [.sl 2 (s.p.enums.map enT),zag s.p.nodes,T.i s.node,zae s.vis,zae s.inputs,zae s.tags]),.cp [.sl 6 (l.map staT)] 0,.t (.sl 6 (l.map staT)),.i j,.cp [.s x.name,zac x.locals,.sl 7 (x.eqs.map equT),.sl 1 (x.autos.map zaj),.sl 8 (x.unl.map zat),.sl 8 (x.unt.map zat)] 0,.t (.ag [.s x.name,zac x.locals,.sl 7 (x.eqs.map equT),.sl 1 (x.autos.map zaj),.sl 8 (x.unl.map zat),.sl 8 (x.unt.map zat)]),.t (zae df),.tup [.t (zae g1),.i g2],.tup [.t (zae g1),.i g2],.t (zae g1),.i g2,.t (zae g1),.i g2] ?_ ?_|refine wv he ?_|refine wv w1 ?_|refine wv w2 ?_|exact trivial|exact And.intro rfl rfl|refine And.intro (fun H env=>?_) ?_|refine And.intro (fun env=>?_) ?_|refine wk ?_|exact wkc|intro hc|refine wk2 ?_ ?_|fail)
     all_goals first
       | (exfalso;omega)
       | (rw[hR7 (by assumption)];exact wkr)
       | (refine zab.zak hlj (by rw[htk];exact Decidable.not_not.1 (by assumption)) ?_
          (try dsimp only)
          rw[hsm,if_neg (Nat.succ_ne_zero j)]
          first
          | exact⟨rfl,rfl,rfl,rfl,rfl,rfl,trivial⟩
          | (rw[decide_eq_true (hd1.2 (by omega)),decide_eq_true (hd2.2 (by omega))];exact⟨rfl,rfl,rfl,rfl,rfl,rfl,trivial⟩)
          | (rw[decide_eq_true (hd1.2 (by omega))];exact⟨rfl,rfl,rfl,rfl,rfl,rfl,trivial⟩)
          | (rw[decide_eq_false (fun h=>by have:=hd1.1 h;omega)];exact⟨rfl,rfl,rfl,rfl,rfl,rfl,trivial⟩)
          | (rw[decide_eq_true (hd1.2 (by omega)),decide_eq_false (fun h=>by have:=hd2.1 h;omega)];exact⟨rfl,rfl,rfl,rfl,rfl,rfl,trivial⟩))
   ·rw[if_neg hj0]
    clear hfj
    cases b
    all_goals
     repeat' (first|refine wkb ?_|refine rg [.t (.ag [.sl 2 (s.p.enums.map enT),zag s.p.nodes,T.i s.node,zae s.vis,zae s.inputs,zae s.tags]),.cp [.sl 6 (l.map staT)] 0,.t (.sl 6 (l.map staT)),.i j,.cp [.s x.name,zac x.locals,.sl 7 (x.eqs.map equT),.sl 1 (x.autos.map zaj),.sl 8 (x.unl.map zat),.sl 8 (x.unt.map zat)] 0,.t (.ag [.s x.name,zac x.locals,.sl 7 (x.eqs.map equT),.sl 1 (x.autos.map zaj),.sl 8 (x.unl.map zat),.sl 8 (x.unt.map zat)]),.t (zae df),.tup [.t (zae g1),.i g2],.tup [.t (zae g1),.i g2],.t (zae g1),.i g2,.t (zae g1),.i g2] ?_ ?_|refine wv he ?_|refine wv w1 ?_|refine wv w2 ?_|exact trivial|exact And.intro rfl rfl|refine And.intro (fun H env=>?_) ?_|refine And.intro (fun env=>?_) ?_|refine wk ?_|exact wkc|intro hc|refine wk2 ?_ ?_|fail)
     all_goals first
       | (exfalso;omega)
       | (rw[hR7 (by assumption)];exact wkr)
       | (refine zab.zak hlj (by rw[htk];exact Decidable.not_not.1 (by assumption)) ?_
          (try dsimp only)
          rw[hsm,if_neg (Nat.succ_ne_zero j)]
          first
          | exact⟨rfl,rfl,rfl,rfl,rfl,rfl,trivial⟩
          | (rw[decide_eq_true (hd1.2 (by omega)),decide_eq_true (hd2.2 (by omega))];exact⟨rfl,rfl,rfl,rfl,rfl,rfl,trivial⟩)
          | (rw[decide_eq_true (hd1.2 (by omega))];exact⟨rfl,rfl,rfl,rfl,rfl,rfl,trivial⟩)
          | (rw[decide_eq_false (fun h=>by have:=hd1.1 h;omega)];exact⟨rfl,rfl,rfl,rfl,rfl,rfl,trivial⟩)
          | (rw[decide_eq_true (hd1.2 (by omega)),decide_eq_false (fun h=>by have:=hd2.1 h;omega)];exact⟨rfl,rfl,rfl,rfl,rfl,rfl,trivial⟩))
  ·have hlm:(l.map G).length=l.length:=List.length_map _
   rw[<-hlm,List.take_length]at hj2⊢
   rw[if_neg (by simp[hj2])]at hR
   have hff:(if(l.map G).length=0 then[] else f)=f:=by
    by_cases h0:(l.map G).length=0
    ·rw[if_pos h0,<-hf,List.eq_nil_of_length_eq_zero h0];rfl
    ·rw[if_neg h0]
   rw[hff]
   generalize ((l.map G).all fun r=>zf0 r.1 f)=b at*
   clear hst
   cases b
   all_goals
    simp only[Bool.false_eq_true,if_true,if_false]at hR
    repeat' (first|refine wkb ?_|refine wk ?_|exact wkc|intro hc|refine wk2 ?_ ?_|fail)
    all_goals first
     | (exfalso;omega)
     | (rw[hR];exact wkr)
end Go.Proofs.YtcbhlhmebbkgnaaGreat
namespace Go.Proofs.YtcbhlhmebbkgnaaGreat
open Go Go.TL
attribute [local irreducible] TR TO Then zaw RetK Sound zab Kf GG zaZ
theorem zim:∀(k:Nat) (s:Plr),zkI s->s.inputs.length≤2000000000->s.tags.length≤2000000000->∀(a:Auto),zeo k a->exA k a->s.vis.length+(zaj a).w≤1000000000->∀df:List Str,df.length+(zaj a).w≤1000000000->
  Pure Tryz.prog 163 [.t (.ag (plrC s)),.t (zaj a),.t (zae df)] (.tup [.t (zae (autR k s df a).1),.i (autR k s df a).2])
 | 0,_,_,_,_,_,hn,_,_,_,_=>hn.elim
 | k+1,s,hs,hin,htg,a,hn,hx,hv,df,hd=>by
   have hwa:=zdn a
   have hl:=zaq staT 6 a.states
   rw[show zaj a= .ag [.sl 6 (a.states.map staT)] from zeO a]
   refine zo3 (autR k) s a.states df (by omega) (fun x hxm=>?_) (fun x hxm=>?_) _ rfl
   ·have hwx:=zaC (f:=staT) (sz:=6) hxm
    have hws:=zfd x
    have b1:=zaq zah 3 x.locals
    have hdl:(zac x.locals).w=(T.sl 3 (x.locals.map zah)).w:=rfl
    obtain⟨e1,e2,e3,e4⟩:=hx x hxm
    refine zoS (autR k) s hs hin htg x df (by omega) (by omega) e1 e2 e3 (fun vis hvis b hb all hall=>?_) (fun s a all=>zld k s a all)
    have hwb:=zaC (f:=zaj) (sz:=1) hb
    exact zim k (s.at vis) ⟨hs.nodes,hs.each,hs.node,by show vis.length≤_;omega⟩ hin htg b (hn x hxm b hb) (e4 b hb) (by show vis.length+_≤_;omega) all hall
   ·have h1:=zsY (fun s a all=>zld k s a all) s x df
    have h2:=zaC (f:=staT) (sz:=6) hxm
    omega
end Go.Proofs.YtcbhlhmebbkgnaaGreat
namespace Go.Proofs.YtcbhlhmebbkgnaaGreat
open Go Go.TL
attribute [local irreducible] TR TO Then zaw RetK Sound zab Kf GG zaZ
attribute [local irreducible] zcj
theorem zib(l:List Decl)(hl:l.length≤1000000000):Sound Tryz.prog 161 [.t (zac l)] [] (fun r H'=>r= .ret (.sl 1 ((l.map Decl.name).map T.s) 0)/\H'=[.tail ((l.map Decl.name).map T.s).length]):=by
 have hml:(l.map zah).length=l.length:=List.length_map _
 refine so Tryz.func161 ?_
 repeat' (first|refine wk ?_|exact wkc|intro hc|refine wk2 ?_ ?_|fail)
 refine TR.tail 1 3 rfl ?_
 refine TR.zal l.length (fun _=>True) (fun k=>[(0,.t (zac l)),(3,.sl 1 (((l.take k).map Decl.name).map T.s) 0),(4,.i k)]) (fun k=>[.tail (((l.take k).map Decl.name).map T.s).length]) trivial (fun k hlt _=>?_) (fun _=>?_)
 ·have hx:=zaX zah hlt
  have htk:=zaG hlt
  have hlen:(((l.take k).map Decl.name).map T.s).length=k:=by simp;omega
  generalize l[k]=d at*
  have hd:zah d= .ag [.s d.name,T.n d.ty,.sl 3 (d.clock.map onT)]:=rfl
  rw[hd]at hx
  repeat' (first|refine wk ?_|exact wkc|intro hc|refine wk2 ?_ ?_|fail)
  exact zab.zak hlt trivial (by rw[htk,List.map_append,List.map_append];exact⟨rfl,rfl,rfl,trivial⟩) (by rw[htk,List.map_append,List.map_append,List.length_append];rfl)
 ·rw[List.take_length]
  repeat' (first|refine wk ?_|exact wkc|intro hc|refine wk2 ?_ ?_|fail)
  exact RetK.at 1 rfl (Le.refl _) (Nat.zero_le _) rfl rfl rfl ⟨rfl,rfl⟩
def nodR(p:Prog)(i:Nat)(tags:List Str)(n:Nod):Int×Int:=
 if n.name∈(p.nodes.take i).map Nod.name then(-1,7) else
 if(zbq [] tags (zao n)).2≠0 then(-1,(zbq [] tags (zao n)).2) else
 if(zad (equR ⟨p,i,(zbq [] tags (zao n)).1,n.ins.map Decl.name,tags⟩) [] n.eqs).2≠0 then(zgb (equR ⟨p,i,(zbq [] tags (zao n)).1,n.ins.map Decl.name,tags⟩) [] n.eqs,(zad (equR ⟨p,i,(zbq [] tags (zao n)).1,n.ins.map Decl.name,tags⟩) [] n.eqs).2) else
 if(zad (autF (autR 3) ⟨p,i,(zbq [] tags (zao n)).1,n.ins.map Decl.name,tags⟩) (zad (equR ⟨p,i,(zbq [] tags (zao n)).1,n.ins.map Decl.name,tags⟩) [] n.eqs).1 n.autos).2≠0 then(-1,(zad (autF (autR 3) ⟨p,i,(zbq [] tags (zao n)).1,n.ins.map Decl.name,tags⟩) (zad (equR ⟨p,i,(zbq [] tags (zao n)).1,n.ins.map Decl.name,tags⟩) [] n.eqs).1 n.autos).2) else
 if zaa (zbf ⟨p,i,n.ins.map Decl.name,n.ins.map Decl.name,tags⟩ 1) n.assume≠0 then(-1,zaa (zbf ⟨p,i,n.ins.map Decl.name,n.ins.map Decl.name,tags⟩ 1) n.assume) else
 if zaa (zbf ⟨p,i,n.ins.map Decl.name++n.outs.map Decl.name,n.ins.map Decl.name,tags⟩ 1) n.ensure≠0 then(-1,zaa (zbf ⟨p,i,n.ins.map Decl.name++n.outs.map Decl.name,n.ins.map Decl.name,tags⟩ 1) n.ensure) else
 if wo (n.outs.map Decl.name++n.locals.map Decl.name) (zad (autF (autR 3) ⟨p,i,(zbq [] tags (zao n)).1,n.ins.map Decl.name,tags⟩) (zad (equR ⟨p,i,(zbq [] tags (zao n)).1,n.ins.map Decl.name,tags⟩) [] n.eqs).1 n.autos).1≠ [] then(-1,8) else(0,0)
set_option maxHeartbeats 8000000 in
theorem zmj (p:Prog) (hp:zlM p) (hpn:p.nodes.length≤1000000000) (i:Nat) (hi:i<p.nodes.length) (tags:List Str) (htg:tags.length≤1000000000) (hok:ztV p.nodes[i]):
  Pure Tryz.prog 112 [.t (.ag (zav p)),.i i,.t (zae tags)] (.tup [.i (nodR p i tags p.nodes[i]).1,.i (nodR p i tags p.nodes[i]).2]):=by
 have hxi:=zb7 hi
 have hN:=hp.each _ (List.getElem_mem hi)
 have hcl:=hp.clocks _ (List.getElem_mem hi)
 have hml:(p.nodes.map nodT).length=p.nodes.length:=List.length_map _
 have hR:nodR p i tags p.nodes[i]=nodR p i tags p.nodes[i]:=rfl
 conv at hR=>rhs;unfold nodR
 generalize nodR p i tags p.nodes[i]=R at hR⊢
 generalize p.nodes[i]=n at*
 have hvars:=zc8 n hN
 have hvl:(zao n).length≤300000000:=by have:=hN.ins;have:=hN.outs;have:=hN.locals;simp[zao];omega
 have hdecl:=zg2 [] tags (zao n) (by simp;omega) (fun d hd=>by have:=hcl d hd;omega) (by omega)
 have hVl:=zmI [] tags (zao n)
 simp only[List.length_nil,Nat.zero_add]at hVl
 generalize hr1:zbq [] tags (zao n)=r1 at*
 obtain⟨V,c⟩:=r1
 simp only at hdecl hVl hR
 have hnI:=zcp n.ins (by have:=hN.ins;omega)
 have hiN:(n.ins.map Decl.name).length=n.ins.length:=List.length_map _
 have hil:=hN.ins
 generalize hiE:n.ins.map Decl.name=iN at*
 unfold zav nodC at*
 have hok2:=hok.w
 have hwn:=zdJ n
 have b1:=zaq equT 7 n.eqs
 have b2:=zaq zaj 1 n.autos
 have b3:=zaq exT 6 n.assume
 have b4:=zaq exT 6 n.ensure
 have m2:(n.eqs.map equT).length=n.eqs.length:=List.length_map _
 have m3:(n.autos.map zaj).length=n.autos.length:=List.length_map _
 have m4:(n.assume.map exT).length=n.assume.length:=List.length_map _
 have m5:(n.ensure.map exT).length=n.ensure.length:=List.length_map _
 have heach:∀u∈p.nodes,u.ins.length≤1000000000/\u.outs.length≤1000000000:=fun u hu=>by have:=hp.each u hu;have h1:=this.ins;have h2:=this.outs;exact⟨by omega,by omega⟩
 have hoN:(n.outs.map Decl.name).length=n.outs.length:=List.length_map _
 have hlN:(n.locals.map Decl.name).length=n.locals.length:=List.length_map _
 have hol:=hN.outs
 have hll:=hN.locals
 have hs:zkI ⟨p,i,V,iN,tags⟩:=⟨hpn,heach,Int.natCast_nonneg i,by show V.length≤_;omega⟩
 have hs1:zkI ⟨p,i,iN,iN,tags⟩:=⟨hpn,heach,Int.natCast_nonneg i,by show iN.length≤_;omega⟩
 have hs2:zkI ⟨p,i,iN++n.outs.map Decl.name,iN,tags⟩:=⟨hpn,heach,Int.natCast_nonneg i,by show(iN++n.outs.map Decl.name).length≤_;rw[List.length_append];omega⟩
 have hexw:∀e:Ex,(exT e).w≤1000000000->wEx e≤1000000000:=fun e h=>Nat.le_trans (zep e) h
 have hequ:=fun(u:Equ) (hu:u∈n.eqs) (d:List Str) (hd:u.left.length+d.length≤2000000000)=>ziM ⟨p,i,V,iN,tags⟩ hs (by show iN.length≤_;omega) d u hd (hexw _ (by
  have h1:=zaC (f:=equT) (sz:=7) hu
  have h2:=ze9 u
  omega)) (hok.eqs u hu)
 have hauto:=fun(a:Auto) (ha:a∈n.autos) (all:List Str) (hall:all.length+(zaj a).w≤1000000000)=>zim 3 ⟨p,i,V,iN,tags⟩ hs (by show iN.length≤_;omega) (by show tags.length≤_;omega) a (hok.nest a ha) (hok.exA a ha) (by
  have h1:=zaC (f:=zaj) (sz:=1) ha
  show V.length+_≤_;omega) all hall
 have hass:=fun(e:Ex) (he:e∈n.assume)=>zdB ⟨p,i,iN,iN,tags⟩ hs1 _ e (Nat.le_refl _) (hexw e (by have:=zaC (f:=exT) (sz:=6) he;omega)) (hok.assume e he) 1
 have hens:=fun(e:Ex) (he:e∈n.ensure)=>zdB ⟨p,i,iN++n.outs.map Decl.name,iN,tags⟩ hs2 _ e (Nat.le_refl _) (hexw e (by have:=zaC (f:=exT) (sz:=6) he;omega)) (hok.ensure e he) 1
 have hel:=fun(a:List Str) (u:Equ) (_:u∈n.eqs) (_:(equR ⟨p,i,V,iN,tags⟩ a u).2=0)=>zoI ⟨p,i,V,iN,tags⟩ a u
 have hGl:=fun(a:Auto) (all:List Str)=>zld 3 ⟨p,i,V,iN,tags⟩ a all
 have haf:∀d a,autF (autR 3) ⟨p,i,V,iN,tags⟩ d a=(d++(autR 3 ⟨p,i,V,iN,tags⟩ d a).1,(autR 3 ⟨p,i,V,iN,tags⟩ d a).2):=fun _ _=>rfl
 have hal:=fun(a:List Str) (y:Auto) (_:y∈n.autos) (_:(autF (autR 3) ⟨p,i,V,iN,tags⟩ a y).2=0)=>(show(autF (autR 3) ⟨p,i,V,iN,tags⟩ a y).1.length≤a.length+(zaj y).w by have:=hGl y a;simp only[autF,List.length_append];omega)
 have hEs:=zea (m:=fun u:Equ=>u.left.length) (f:=equT) 7 n.eqs (fun u _=>zbE)
 have hAs:=zea (m:=fun a:Auto=>(zaj a).w) (f:=zaj) 1 n.autos (fun a _=>Nat.le_refl _)
 unfold plrC at*
 dsimp only at hequ hauto hass hens
 generalize equR ⟨p,i,V,iN,tags⟩=E at*
 generalize autR 3 ⟨p,i,V,iN,tags⟩=G at*
 generalize autF (autR 3) ⟨p,i,V,iN,tags⟩=A at*
 generalize zbf ⟨p,i,iN,iN,tags⟩ 1=X1 at*
 generalize zbf ⟨p,i,iN++n.outs.map Decl.name,iN,tags⟩ 1=X2 at*
 have ho1:=zcp n.outs (by omega)
 have ho2:=zib n.outs (by omega)
 have hi2:=zib n.ins (by omega)
 have hlc:=zcp n.locals (by omega)
 rw[hiE]at hi2
 generalize hoE:n.outs.map Decl.name=oN at*
 generalize hlE:n.locals.map Decl.name=lN at*
 refine so Tryz.func112 ?_
 repeat' (first|refine wu ?_|exact wkc|intro hc|refine wk2 ?_ ?_|fail)
 refine TR.zal i (fun k=>n.name ∉ (p.nodes.take k).map Nod.name) (fun k=>[(1,.i i),(2,.t (zae tags)),(3,.cp [.sl 2 (p.enums.map enT),zag p.nodes] 0),(8,.cp (nC n) 0),(9,.i k)]) (fun _=>[]) (by simp) (fun k hlk hk=>?_) (fun hk=>?_)
 ·have hlk2:k<p.nodes.length:=by omega
  have hxk:=zb7 hlk2
  have htk:=zaG hlk2
  have hbad:p.nodes[k].name=n.name->n.name∈(p.nodes.take i).map Nod.name:=fun h=>by
   rw[<-h]
   exact List.mem_map_of_mem (List.mem_take_iff_getElem.2 ⟨k,by omega,rfl⟩)
  generalize p.nodes[k]=y at*
  unfold nodC at hxk
  clear hequ hauto hass hens hvars hdecl hnI ho1 ho2 hi2 hlc
  by_cases hyx:y.name=n.name
  ·repeat' (first|refine wkb ?_|refine rg [.cp [.sl 2 (p.enums.map enT),zag p.nodes] 1,.t (zag p.nodes),.i k,.cp (nC y) 0,.cp (nC y) 0,.t (.s y.name),.cp (nC n) 0,.t (.s n.name),.b true] ?_ ?_|exact trivial|exact And.intro rfl rfl|refine And.intro (fun H env=>?_) ?_|refine And.intro (fun env=>?_) ?_|refine wk ?_|exact wkc|intro hc|refine wk2 ?_ ?_|fail)
   all_goals first
    | (exfalso;exact absurd hyx (by assumption))
    | (exfalso;omega)
    | (rw[if_pos (hbad hyx)]at hR
       rw[hR];exact wkr)
  ·repeat' (first|refine wkb ?_|refine rg [.cp [.sl 2 (p.enums.map enT),zag p.nodes] 1,.t (zag p.nodes),.i k,.cp (nC y) 0,.cp (nC y) 0,.t (.s y.name),.cp (nC n) 0,.t (.s n.name),.b false] ?_ ?_|exact trivial|exact And.intro rfl rfl|refine And.intro (fun H env=>?_) ?_|refine And.intro (fun env=>?_) ?_|refine wk ?_|exact wkc|intro hc|refine wk2 ?_ ?_|fail)
   all_goals first
    | (exfalso;exact absurd (by assumption) hyx)
    | (exfalso;omega)
    | exact zab.zak hlk (by rw[htk,List.map_append,List.mem_append];rintro(h|h);exact hk h;exact hyx (List.mem_singleton.1 h).symm)
 rw[if_neg hk]at hR
 repeat' (first|refine wkb ?_|refine wv hvars ?_|refine wv hdecl ?_|refine wv hnI ?_|refine TR.zcU [] (envF:=_) (HF:=[.cells [.t (.sl 2 (p.enums.map enT)),.t (zag p.nodes),.i i,.t (zae V),.t (zae iN),.t (zae tags)]]) [(.t (.ag [.sl 2 (p.enums.map enT),zag p.nodes]),false),(.i i,false),(.t (zae V),false),(.cp (nC n) 1,false),(.t (zac n.ins),false),(.t (zae iN),false),(.t (zae tags),false),(.t (.ag [.sl 2 (p.enums.map enT),zag p.nodes,T.i i,zae V,zae iN,zae tags]),false),(.ref 0 0,true),(.any,true)] [[],[.cells [.t (.v (.slice none 0 0)),.t (.v (.slice none 0 0)),.i 0,.t (.v (.slice none 0 0)),.t (.v (.slice none 0 0)),.t (.v (.slice none 0 0))]],[.cells [.t (.sl 2 (p.enums.map enT)),.t (zag p.nodes),.i i,.t (zae V),.t (zae iN),.t (zae tags)]]] hmix rfl (by dsimp only[List.map];decide +kernel) rfl ?_ rfl rfl ?_|(apply TO.alloc zam;(iterate 3 exact rfl))|(apply TO.store zam;(iterate 6 exact rfl);exact lb;exact rfl;exact lb;exact rfl)|exact trivial|exact And.intro rfl rfl|refine And.intro (fun H env=>?_) ?_|refine And.intro (fun env=>?_) ?_|refine wk ?_|exact wkc|intro hc|refine wk2 ?_ ?_|fail)
 ·rw[if_pos hc]at hR
  rw[hR];exact wkr
 rw[if_neg hc]at hR
 clear hdecl hvars hnI
 refine TR.less 13 rfl (Le.nil 1) ?_
 refine TR.zal n.eqs.length (fun j=>(zad E [] (n.eqs.take j)).2=0) (fun j=>[(8,.cp (nC n) 0),(12,.ref 0 0),(13,.t (zae (zad E [] (n.eqs.take j)).1)),(14,.i j)]) (fun _=>[.cells [.t (.sl 2 (p.enums.map enT)),.t (zag p.nodes),.i i,.t (zae V),.t (zae iN),.t (zae tags)]]) rfl (fun j hlj hj=>?_) (fun hj=>?_)
 ·have hx:=zcP hlj
  have hn:=zaN hlj hj
  have hat:=zbl hlj hj
  have hatN:=zkm hlj hj
  have hl1:=zcM (f:=E) (m:=fun u:Equ=>u.left.length) (n.eqs.take j) (fun a u hu h=>hel a u (List.mem_of_mem_take hu) h) [] hj
  have hl2:=zeR (fun u:Equ=>u.left.length) n.eqs j
  have hle:=(zbE (q:=n.eqs[j]))
  have hwj:=zaC (f:=equT) (sz:=7) (List.getElem_mem hlj)
  simp only[List.length_nil]at hl1
  have he:=hequ n.eqs[j] (List.getElem_mem hlj) (zad E [] (n.eqs.take j)).1 (by omega)
  generalize zad E [] (n.eqs.take j)=d at*
  obtain⟨D,d2⟩:=d
  simp only at hj hn hat he hatN
  subst hj
  generalize n.eqs[j]=u at*
  generalize E D u=e at*
  obtain⟨e1,e2⟩:=e
  simp only at he hat hatN
  unfold equC at hx
  rw[show equT u= .ag [.sl 1 (u.left.map T.s),T.n u.right.kind,T.n u.right.op,T.n u.right.t,T.n u.right.v,.s u.right.name,.sl 6 (u.right.args.map exT)] from rfl]at he
  clear hequ hauto hel hal haf hass hens ho1 ho2 hi2 hlc hGl
  repeat' (first|refine wkb ?_|refine TR.zcU [13] (envF:=_) (HF:=[.cells [.t (.sl 2 (p.enums.map enT)),.t (zag p.nodes),.i i,.t (zae V),.t (zae iN),.t (zae tags)]]) [(.ag [.t (.sl 2 (p.enums.map enT)),.t (zag p.nodes),.i i,.t (zae V),.t (zae iN),.t (zae tags)],true),(.cp (nC n) 4,false),(.t (.sl 7 (n.eqs.map equT)),false),(.i j,false),(.cp [.sl 1 (u.left.map T.s),T.n u.right.kind,T.n u.right.op,T.n u.right.t,T.n u.right.v,.s u.right.name,.sl 6 (u.right.args.map exT)] 0,false),(.t (.ag [.sl 1 (u.left.map T.s),T.n u.right.kind,T.n u.right.op,T.n u.right.t,T.n u.right.v,.s u.right.name,.sl 6 (u.right.args.map exT)]),false),(.t (zae D),false),(.tup [.t (zae e1),.i e2],false),(.tup [.t (zae e1),.i e2],false),(.t (zae e1),false),(.i e2,false),(.t (zae e1),false),(.i e2,false)] [[.cells [.t (.sl 2 (p.enums.map enT)),.t (zag p.nodes),.i i,.t (zae V),.t (zae iN),.t (zae tags)]],[.cells [.t (.sl 2 (p.enums.map enT)),.t (zag p.nodes),.i i,.t (zae V),.t (zae iN),.t (zae tags)]]] hmix rfl (by dsimp only[List.map];decide +kernel) rfl ?_ rfl rfl ?_|refine wv he ?_|exact trivial|exact And.intro rfl rfl|refine And.intro (fun H env=>?_) ?_|refine And.intro (fun env=>?_) ?_|refine wk ?_|exact wkc|intro hc|refine wk2 ?_ ?_|fail)
  ·rw[hat hc,hatN hc,if_pos hc]at hR
   rw[hR];exact wkr
  ·have hz:e2=0:=Decidable.not_not.1 hc
   exact zab.zak hlj (by rw[hn];exact hz) (by(try dsimp only);rw[hn];exact⟨rfl,rfl,rfl,rfl,trivial⟩)
 rw[List.take_length]at hj⊢
 rw[if_neg (by simp[hj])]at hR
 have hle:=zcM (f:=E) (m:=fun u:Equ=>u.left.length) n.eqs hel [] hj
 simp only[List.length_nil]at hle
 generalize zad E [] n.eqs=e at*
 obtain⟨D0,e2⟩:=e
 simp only at hj hle hR
 subst hj
 clear hequ hel
 repeat' (first|refine wkb ?_|refine wk ?_|exact wkc|intro hc|refine wk2 ?_ ?_|fail)
 refine TR.zal n.autos.length (fun j=>(zad A D0 (n.autos.take j)).2=0) (fun j=>[(8,.cp (nC n) 0),(12,.ref 0 0),(13,.t (zae (zad A D0 (n.autos.take j)).1)),(15,.i j)]) (fun _=>[.cells [.t (.sl 2 (p.enums.map enT)),.t (zag p.nodes),.i i,.t (zae V),.t (zae iN),.t (zae tags)]]) rfl (fun j hlj hj=>?_) (fun hj=>?_)
 ·refine TR.weak ?_
  have hx:=zdL hlj
  have hn:=zaN hlj hj
  have hat:=zbl hlj hj
  have hl1:=zcM (f:=A) (m:=fun a:Auto=>(zaj a).w) (n.autos.take j) (fun a u hu h=>hal a u (List.mem_of_mem_take hu) h) D0 hj
  have hl2:((n.autos.take j).map fun a:Auto=>(zaj a).w).sum+(zaj n.autos[j]).w≤(n.autos.map fun a:Auto=>(zaj a).w).sum:=by
   have:=zeR (fun a:Auto=>(zaj a).w) n.autos (j+1)
   rw[zaG hlj,List.map_append,List.sum_append]at this
   simpa using this
  have he:=hauto n.autos[j] (List.getElem_mem hlj) (zad A D0 (n.autos.take j)).1 (by omega)
  have hgl:=hGl n.autos[j] (zad A D0 (n.autos.take j)).1
  generalize zad A D0 (n.autos.take j)=d at*
  obtain⟨D,d2⟩:=d
  simp only at hj hn hat he hl1 hgl
  subst hj
  generalize n.autos[j]=a at*
  rw[haf]at hn hat
  rw[zeO]at he
  generalize G D a=g at*
  obtain⟨g1,g2⟩:=g
  simp only at he hat hn hgl
  unfold zcg at hx he
  have hdm:(D.map T.s).length=D.length:=List.length_map _
  have hgm:(g1.map T.s).length=g1.length:=List.length_map _
  clear hauto hal haf hass hens ho1 ho2 hi2 hlc hGl
  repeat' (first|refine wkb ?_|refine wk ?_|fail)
  refine wk2 ?_ ?_ <;> intro hlt' <;> try(exfalso;omega)
  repeat' (first|refine wkb ?_|refine TR.zcU [] (envF:=_) (HF:=[.cells [.t (.sl 2 (p.enums.map enT)),.t (zag p.nodes),.i i,.t (zae V),.t (zae iN),.t (zae tags)]]) [(.ag [.t (.sl 2 (p.enums.map enT)),.t (zag p.nodes),.i i,.t (zae V),.t (zae iN),.t (zae tags)],true),(.cp (nC n) 5,false),(.t (.sl 1 (n.autos.map zaj)),false),(.i j,false),(.cp [.sl 6 (a.states.map staT)] 0,false),(.t (.ag [.sl 6 (a.states.map staT)]),false),(.t (zae D),false),(.tup [.t (zae g1),.i g2],false),(.tup [.t (zae g1),.i g2],false),(.t (zae g1),false),(.i g2,false),(.t (zae g1),false),(.i g2,false)] [[.cells [.t (.sl 2 (p.enums.map enT)),.t (zag p.nodes),.i i,.t (zae V),.t (zae iN),.t (zae tags)]],[.cells [.t (.sl 2 (p.enums.map enT)),.t (zag p.nodes),.i i,.t (zae V),.t (zae iN),.t (zae tags)]]] hmix rfl (by dsimp only[List.map];decide +kernel) rfl ?_ rfl rfl ?_|refine wv he ?_|exact trivial|exact And.intro rfl rfl|refine And.intro (fun H env=>?_) ?_|refine And.intro (fun env=>?_) ?_|refine wk ?_|fail)
  refine wk2 (fun hc=>?_) (fun hc=>?_)
  ·repeat' (first|refine wkb ?_|refine wk ?_|refine zcj.ret ?_|fail)
   rw[hat hc,if_pos hc]at hR
   rw[hR];exact wkr
  ·repeat' (first|(apply TO.ziR zam;(iterate 5 exact rfl))|(apply TO.zgR zam;(iterate 13 exact rfl);(first|omega|(simp only[List.length_map];omega));exact rfl)|refine TR.region ?_|(apply TO.go zam 1 true;exact rfl;(first|apply GG.to|apply GG.stop|apply GG.tr0|apply GG.tr|apply GG.ex))|(apply TR.go0 zam 1 true;exact rfl;(first|apply GG.to|apply GG.stop|apply GG.tr0|apply GG.tr|apply GG.ex))|(apply TR.go zam 1 true;exact rfl;(first|apply GG.to|apply GG.stop|apply GG.tr0|apply GG.tr|apply GG.ex))|(apply zc6.go zam 1 true;exact rfl;(first|apply GG.to|apply GG.stop|apply GG.tr0|apply GG.tr|apply GG.ex))|fail)
   repeat' (first|refine wkb ?_|refine wk ?_|fail)
   have hz:g2=0:=Decidable.not_not.1 hc
   refine zcj.own 13 rfl ?_
   refine zab.zhs 1 hlj (by rw[hn];exact hz) rfl rfl rfl rfl rfl ?_
   (try dsimp only)
   rw[hn]
   rw[show zae (D++g1,g2).1=T.sl 1 (D.map T.s++g1.map T.s) from by simp[zae]]
   exact⟨rfl,rfl,rfl,rfl,trivial⟩
 rw[List.take_length]at hj⊢
 rw[if_neg (by simp[hj])]at hR
 have hle2:=zcM (f:=A) (m:=fun a:Auto=>(zaj a).w) n.autos hal D0 hj
 generalize zad A D0 n.autos=e at*
 obtain⟨D1,e2⟩:=e
 simp only at hj hle2 hR
 subst hj
 clear hauto hal haf
 have hnI:=zcp n.ins (by omega)
 rw[hiE]at hnI
 repeat' (first|refine wkb ?_|refine wv hnI ?_|(apply TO.store zam;(iterate 6 exact rfl);exact lb;exact rfl;exact lb;exact rfl)|refine wk ?_|exact wkc|intro hc|refine wk2 ?_ ?_|fail)
 refine TR.zal n.assume.length (fun j=>zaa X1 (n.assume.take j)=0) (fun j=>[(8,.cp (nC n) 0),(12,.ref 0 0),(13,.t (zae D1)),(18,.i j)]) (fun _=>[.cells [.t (.sl 2 (p.enums.map enT)),.t (zag p.nodes),.i i,.t (zae iN),.t (zae iN),.t (zae tags)]]) rfl (fun j hlj hj=>?_) (fun hj=>?_)
 ·have hx:=zbd hlj
  have hat:=zan hlj hj
  have htk:=zaU hlj hj
  have he:=hass _ (List.getElem_mem hlj)
  generalize n.assume[j]=x at*
  generalize X1 x=r at*
  unfold exC at hx he
  clear hass hens ho1 ho2 hi2 hlc hnI hGl
  repeat' (first|refine wkb ?_|refine TR.zcU [] (envF:=_) (HF:=[.cells [.t (.sl 2 (p.enums.map enT)),.t (zag p.nodes),.i i,.t (zae iN),.t (zae iN),.t (zae tags)]]) [(.ag [.t (.sl 2 (p.enums.map enT)),.t (zag p.nodes),.i i,.t (zae iN),.t (zae iN),.t (zae tags)],true),(.cp (nC n) 6,false),(.t (.sl 6 (n.assume.map exT)),false),(.i j,false),(.cp [T.n x.kind,T.n x.op,T.n x.t,T.n x.v,.s x.name,.sl 6 (x.args.map exT)] 0,false),(.t (.ag [T.n x.kind,T.n x.op,T.n x.t,T.n x.v,.s x.name,.sl 6 (x.args.map exT)]),false),(.i r,false),(.i r,false)] [[.cells [.t (.sl 2 (p.enums.map enT)),.t (zag p.nodes),.i i,.t (zae iN),.t (zae iN),.t (zae tags)]],[.cells [.t (.sl 2 (p.enums.map enT)),.t (zag p.nodes),.i i,.t (zae iN),.t (zae iN),.t (zae tags)]]] hmix rfl (by dsimp only[List.map];decide +kernel) rfl ?_ rfl rfl ?_|refine wv he ?_|exact trivial|exact And.intro rfl rfl|refine And.intro (fun H env=>?_) ?_|refine And.intro (fun env=>?_) ?_|refine wk ?_|exact wkc|intro hc|refine wk2 ?_ ?_|fail)
  ·rw[hat hc,if_pos hc]at hR
   rw[hR];exact wkr
  ·exact zab.zak hlj (by rw[htk];exact Decidable.not_not.1 hc)
 rw[List.take_length]at hj
 rw[if_neg (by simp[hj])]at hR
 repeat' (first|refine wkb ?_|refine wk ?_|fail)
 refine wk2 ?_ ?_ <;> intro hlt' <;> try(exfalso;omega)
 have hm1:(iN.map T.s).length=iN.length:=List.length_map _
 have hm2:(oN.map T.s).length=oN.length:=List.length_map _
 repeat' (first|refine wkb ?_|refine TR.zcU [] (envF:=_) (HF:=[.cells [.t (.sl 2 (p.enums.map enT)),.t (zag p.nodes),.i i,.sl 1 (iN.map T.s++oN.map T.s) 1,.t (zae iN),.t (zae tags)],.tail ((iN.map T.s).length+(oN.map T.s).length)]) [(.cp (nC n) 1,false),(.t (zac n.ins),false),(.sl 1 (iN.map T.s) 1,true),(.cp (nC n) 2,false),(.t (zac n.outs),false),(.t (zae oN),false),(.sl 1 (iN.map T.s++oN.map T.s) 1,true),(.ref 0 3,true),(.any,true)] [[.cells [.t (.sl 2 (p.enums.map enT)),.t (zag p.nodes),.i i,.t (zae iN),.t (zae iN),.t (zae tags)]],[.cells [.t (.sl 2 (p.enums.map enT)),.t (zag p.nodes),.i i,.t (zae iN),.t (zae iN),.t (zae tags)],.tail (iN.map T.s).length],[.cells [.t (.sl 2 (p.enums.map enT)),.t (zag p.nodes),.i i,.t (zae iN),.t (zae iN),.t (zae tags)],.tail ((iN.map T.s).length+(oN.map T.s).length)],[.cells [.t (.sl 2 (p.enums.map enT)),.t (zag p.nodes),.i i,.t (zae iN),.t (zae iN),.t (zae tags)],.tail ((iN.map T.s).length+(oN.map T.s).length)],[.cells [.t (.sl 2 (p.enums.map enT)),.t (zag p.nodes),.i i,.sl 1 (iN.map T.s++oN.map T.s) 1,.t (zae iN),.t (zae tags)],.tail ((iN.map T.s).length+(oN.map T.s).length)]] hmix rfl (by dsimp only[List.map];decide +kernel) rfl ?_ rfl rfl ?_|(apply TO.zqo hi2;(iterate 3 exact rfl);exact Les.refl _;exact rfl)|refine wv ho1 ?_|(apply TO.store zam;(iterate 6 exact rfl);exact lb;exact rfl;exact lb;exact rfl)|exact trivial|exact And.intro rfl rfl|refine And.intro (fun H env=>?_) ?_|refine And.intro (fun env=>?_) ?_|refine wk ?_|exact wkc|fail)
 have hen:∀e∈n.ensure,Pure Tryz.prog 164 [.t (.ag [.sl 2 (p.enums.map enT),zag p.nodes,T.i i,.sl 1 (iN.map T.s++oN.map T.s),zae iN,zae tags]),.t (.ag (exC e)),.i 1] (.i (X2 e)):=fun e he=>by
  have:=hens e he
  rw[show zae (iN++oN)= .sl 1 (iN.map T.s++oN.map T.s) from by simp[zae]]at this
  exact this
 clear hens hass
 refine TR.zal n.ensure.length (fun j=>zaa X2 (n.ensure.take j)=0) (fun j=>[(8,.cp (nC n) 0),(12,.ref 0 0),(13,.t (zae D1)),(20,.i j)]) (fun _=>[.cells [.t (.sl 2 (p.enums.map enT)),.t (zag p.nodes),.i i,.sl 1 (iN.map T.s++oN.map T.s) 1,.t (zae iN),.t (zae tags)],.tail ((iN.map T.s).length+(oN.map T.s).length)]) rfl (fun j hlj hj=>?_) (fun hj=>?_)
 ·have hx:=zbd hlj
  have hat:=zan hlj hj
  have htk:=zaU hlj hj
  have he:=hen _ (List.getElem_mem hlj)
  generalize n.ensure[j]=x at*
  generalize X2 x=r at*
  unfold exC at hx he
  clear hen ho1 ho2 hi2 hlc hnI hGl
  repeat' (first|refine wkb ?_|refine TR.zcU [] (envF:=_) (HF:=[.cells [.t (.sl 2 (p.enums.map enT)),.t (zag p.nodes),.i i,.sl 1 (iN.map T.s++oN.map T.s) 1,.t (zae iN),.t (zae tags)],.tail ((iN.map T.s).length+(oN.map T.s).length)]) [(.ag [.t (.sl 2 (p.enums.map enT)),.t (zag p.nodes),.i i,.sl 1 (iN.map T.s++oN.map T.s) 1,.t (zae iN),.t (zae tags)],true),(.cp (nC n) 7,false),(.t (.sl 6 (n.ensure.map exT)),false),(.i j,false),(.cp [T.n x.kind,T.n x.op,T.n x.t,T.n x.v,.s x.name,.sl 6 (x.args.map exT)] 0,false),(.t (.ag [T.n x.kind,T.n x.op,T.n x.t,T.n x.v,.s x.name,.sl 6 (x.args.map exT)]),false),(.i r,false),(.i r,false)] [[.cells [.t (.sl 2 (p.enums.map enT)),.t (zag p.nodes),.i i,.sl 1 (iN.map T.s++oN.map T.s) 1,.t (zae iN),.t (zae tags)],.tail ((iN.map T.s).length+(oN.map T.s).length)],[.cells [.t (.sl 2 (p.enums.map enT)),.t (zag p.nodes),.i i,.sl 1 (iN.map T.s++oN.map T.s) 1,.t (zae iN),.t (zae tags)],.tail ((iN.map T.s).length+(oN.map T.s).length)]] hmix rfl (by dsimp only[List.map];decide +kernel) rfl ?_ rfl rfl ?_|refine wv he ?_|exact trivial|exact And.intro rfl rfl|refine And.intro (fun H env=>?_) ?_|refine And.intro (fun env=>?_) ?_|refine wk ?_|exact wkc|intro hc|refine wk2 ?_ ?_|fail)
  ·rw[hat hc,if_pos hc]at hR
   rw[hR];exact wkr
  ·exact zab.zak hlj (by rw[htk];exact Decidable.not_not.1 hc)
 rw[List.take_length]at hj
 rw[if_neg (by simp[hj])]at hR
 clear hen
 repeat' (first|refine wkb ?_|refine wk ?_|fail)
 refine wk2 ?_ ?_ <;> intro hlt' <;> try(exfalso;omega)
 have hm3:(lN.map T.s).length=lN.length:=List.length_map _
 have w1:=zb3 (oN++lN) D1 (by rw[List.length_append];omega) (by omega)
 rw[show((oN++lN).filter fun s=>!decide (s∈D1))=wo (oN++lN) D1 from rfl,show zae (oN++lN)= .sl 1 (oN.map T.s++lN.map T.s) from by simp[zae]]at w1
 generalize wo (oN++lN) D1=o at*
 have hol:(o.map T.s).length=o.length:=List.length_map _
 by_cases ho:o=[]
 ·subst ho
  rw[if_neg (by simp)]at hR
  repeat' (first|refine wkb ?_|refine TR.zcU [] (envF:=_) (HF:=[.cells [.t (.sl 2 (p.enums.map enT)),.t (zag p.nodes),.i i,.sl 1 (iN.map T.s++oN.map T.s) 1,.t (zae iN),.t (zae tags)],.tail ((iN.map T.s).length+(oN.map T.s).length),.tail ((oN.map T.s).length+(lN.map T.s).length)]) [(.cp (nC n) 2,false),(.t (zac n.outs),false),(.sl 1 (oN.map T.s) 2,true),(.cp (nC n) 3,false),(.t (zac n.locals),false),(.t (zae lN),false),(.sl 1 (oN.map T.s++lN.map T.s) 2,true),(.t (zae D1),false),(.t (zae []),false),(.i (([]:List Str).map T.s).length,false),(.b false,false)] [[.cells [.t (.sl 2 (p.enums.map enT)),.t (zag p.nodes),.i i,.sl 1 (iN.map T.s++oN.map T.s) 1,.t (zae iN),.t (zae tags)],.tail ((iN.map T.s).length+(oN.map T.s).length)],[.cells [.t (.sl 2 (p.enums.map enT)),.t (zag p.nodes),.i i,.sl 1 (iN.map T.s++oN.map T.s) 1,.t (zae iN),.t (zae tags)],.tail ((iN.map T.s).length+(oN.map T.s).length),.tail (oN.map T.s).length],[.cells [.t (.sl 2 (p.enums.map enT)),.t (zag p.nodes),.i i,.sl 1 (iN.map T.s++oN.map T.s) 1,.t (zae iN),.t (zae tags)],.tail ((iN.map T.s).length+(oN.map T.s).length),.tail ((oN.map T.s).length+(lN.map T.s).length)]] hmix rfl (by dsimp only[List.map];decide +kernel) rfl ?_ rfl rfl ?_|(apply TO.zqo ho2;(iterate 3 exact rfl);exact Les.refl _;exact rfl)|refine wv hlc ?_|refine wv w1 ?_|exact trivial|exact And.intro rfl rfl|refine And.intro (fun H env=>?_) ?_|refine And.intro (fun env=>?_) ?_|refine wk ?_|exact wkc|intro hc|refine wk2 ?_ ?_|fail)
  all_goals first
   | (exfalso;simp at hc;done)
   | (rw[hR];exact wkr)
 ·rw[if_pos ho]at hR
  have hop:0<o.length:=by cases o with
   | nil=>exact absurd rfl ho
   | cons _ _=>simp
  repeat' (first|refine wkb ?_|refine TR.zcU [] (envF:=_) (HF:=[.cells [.t (.sl 2 (p.enums.map enT)),.t (zag p.nodes),.i i,.sl 1 (iN.map T.s++oN.map T.s) 1,.t (zae iN),.t (zae tags)],.tail ((iN.map T.s).length+(oN.map T.s).length),.tail ((oN.map T.s).length+(lN.map T.s).length)]) [(.cp (nC n) 2,false),(.t (zac n.outs),false),(.sl 1 (oN.map T.s) 2,true),(.cp (nC n) 3,false),(.t (zac n.locals),false),(.t (zae lN),false),(.sl 1 (oN.map T.s++lN.map T.s) 2,true),(.t (zae D1),false),(.t (zae o),false),(.i (o.map T.s).length,false),(.b true,false)] [[.cells [.t (.sl 2 (p.enums.map enT)),.t (zag p.nodes),.i i,.sl 1 (iN.map T.s++oN.map T.s) 1,.t (zae iN),.t (zae tags)],.tail ((iN.map T.s).length+(oN.map T.s).length)],[.cells [.t (.sl 2 (p.enums.map enT)),.t (zag p.nodes),.i i,.sl 1 (iN.map T.s++oN.map T.s) 1,.t (zae iN),.t (zae tags)],.tail ((iN.map T.s).length+(oN.map T.s).length),.tail (oN.map T.s).length],[.cells [.t (.sl 2 (p.enums.map enT)),.t (zag p.nodes),.i i,.sl 1 (iN.map T.s++oN.map T.s) 1,.t (zae iN),.t (zae tags)],.tail ((iN.map T.s).length+(oN.map T.s).length),.tail ((oN.map T.s).length+(lN.map T.s).length)]] hmix rfl (by dsimp only[List.map];decide +kernel) rfl ?_ rfl rfl ?_|(apply TO.zqo ho2;(iterate 3 exact rfl);exact Les.refl _;exact rfl)|refine wv hlc ?_|refine wv w1 ?_|exact trivial|exact And.intro rfl rfl|refine And.intro (fun H env=>?_) ?_|refine And.intro (fun env=>?_) ?_|refine wk ?_|exact wkc|intro hc|refine wk2 ?_ ?_|fail)
  all_goals first
   | (exfalso;omega)
   | (rw[hR];exact wkr)
end Go.Proofs.YtcbhlhmebbkgnaaGreat
