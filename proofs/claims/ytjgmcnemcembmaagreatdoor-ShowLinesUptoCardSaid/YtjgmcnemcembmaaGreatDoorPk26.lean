import Derived.Test.YtjgmcnemcembmaaGreatDoorPk25
set_option linter.unusedSimpArgs false
set_option linter.unusedVariables false
namespace Go.Proofs.YtjgmcnemcembmaaGreatDoor
open Go Go.TL
attribute [local irreducible] TR TO Then InBlock RetK Sound LoopK Kf GG ThenL
set_option maxHeartbeats 4000000 in
theorem textR_sound (es:List En) (t v:I64) (hl:es.length≤1000000000) (htl:∀u∈es,u.tags.length≤1000000000):Pure Tryz.prog 113 [.t (ensT es),.n t,.n v] (.tup [.s (textT es t.1 v.1).1,.i (textT es t.1 v.1).2]):=by
 have hv:=knownR_sound es t hl
 have hh:=hasR_sound es t v
 obtain⟨t,ht1,ht2⟩:=t
 obtain⟨v,hv1,hv2⟩:=v
 dsimp only[SV.n]at hv hh⊢
 have hml:(es.map enT).length=es.length:=List.length_map _
 generalize hz:textT es t v=z
 unfold textT at hz
 cases hk:knownT es t with
 | false=>
   rw[hk]at hv
   rw[if_pos hk]at hz
   subst hz
   refine so Tryz.func113 ?_
   repeat' (first|refine wu ?_|exact wkc|intro hc|refine wk2 ?_ ?_|refine wv hv ?_|fail)
   exact wkr
 | true=>
 rw[hk]at hv
 rw[if_neg (by rw[hk];decide)]at hz
 cases hq:hasT es t v with
 | false=>
   rw[hq]at hh
   rw[if_pos hq]at hz
   subst hz
   refine so Tryz.func113 ?_
   repeat' (first|refine wu ?_|exact wkc|intro hc|refine wk2 ?_ ?_|refine wv hv ?_|refine wv hh ?_|fail)
   exact wkr
 | true=>
 rw[hq]at hh
 rw[if_neg (by rw[hq];decide)]at hz
 by_cases h1:t=1
 ·rw[if_pos h1]at hz
  subst h1
  by_cases hv1:v=1
  ·rw[if_pos hv1]at hz
   subst hz hv1
   refine so Tryz.func113 ?_
   repeat' (first|refine wu ?_|exact wkc|intro hc|refine wk2 ?_ ?_|refine wv hv ?_|refine wv hh ?_|fail)
   exact wkr
  ·rw[if_neg hv1]at hz
   subst hz
   refine so Tryz.func113 ?_
   repeat' (first|refine wu ?_|exact wkc|intro hc|refine wk2 ?_ ?_|refine wv hv ?_|refine wv hh ?_|fail)
   exact wkr
 rw[if_neg h1]at hz
 by_cases h2:t=2
 ·rw[if_pos h2]at hz
  subst h2 hz
  have hi:=decimal_sound v (by simpa [hasT,inW]using hq)
  refine so Tryz.func113 ?_
  repeat' (first|refine wu ?_|exact wkc|intro hc|refine wk2 ?_ ?_|refine wv hv ?_|refine wv hh ?_|refine wv hi ?_|fail)
  exact wkr
 rw[if_neg h2]at hz
 obtain⟨g1,g2,g3,g4⟩:=enumOf_in hk h1 h2
 obtain⟨g5,g6,g7⟩:=tag_in h2 h1 hq
 rw[g7]at hz
 simp only[Option.getD_some]at hz
 have hx:=at_map enT g3
 have hu:=htl _ (List.getElem_mem g3)
 generalize hen:(enumOf es t).1=en at*
 rw[<-g4]at hx hu
 have hy:=at_map T.s g6
 have hmt:(en.tags.map T.s).length=en.tags.length:=List.length_map _
 unfold enT at hx
 subst hz
 clear hk hq hen g4 g7
 generalize en.tags[v.toNat]=tg at*
 refine so Tryz.func113 ?_
 repeat' (first|refine wu ?_|exact wkc|intro hc|refine wk2 ?_ ?_|refine wv hv ?_|refine wv hh ?_|fail)
 exact wkr
theorem valR_sound{es:List En}(h:ShE es)(t v:I64):Pure Tryz.prog 75 [.t (ensT es),.n t,.n v] (.s (valS es t.1 v.1)):=by
 have ht:=textR_sound es t v h.len h.tags
 unfold valS
 generalize textT es t.1 v.1=z at*
 refine so Tryz.func75 ?_
 repeat' (first|refine wu ?_|exact wkc|intro hc|refine wk2 ?_ ?_|refine wv ht ?_|fail)
 exact wkr
theorem join_snoc(sep x:Str):∀p:List Str,Go.Lib.join (p++[x]) sep=if p=[] then x else Go.Lib.join p sep++sep++x
 | []=>by simp[Go.Lib.join]
 | [y]=>by simp[Go.Lib.join]
 | y::z::p=>by
   have ih:=join_snoc sep x (z::p)
   rw[if_neg (by simp)]at ih⊢
   have e1:Go.Lib.join (y::z::p++[x]) sep=y++sep++Go.Lib.join (z::p++[x]) sep:=by simp[Go.Lib.join]
   have e2:Go.Lib.join (y::z::p) sep=y++sep++Go.Lib.join (z::p) sep:=by simp[Go.Lib.join]
   rw[e1,e2,ih]
   simp[List.append_assoc]
theorem sum_take(g:Str->Nat)(l:List Str)(j:Nat):((l.take j).map g).sum≤(l.map g).sum:=by
 conv=>rhs;rw[<-List.take_append_drop j l]
 rw[List.map_append,List.sum_append]
 omega
set_option maxHeartbeats 4000000 in
theorem listR_sound (l:List Str) (sep:Str) (hl:l.length≤1000000000) (hs:(l.map fun x=>x.length+sep.length).sum≤140737488355328):Pure Tryz.prog 30 [.t (.sl 1 (l.map T.s)),.s sep] (.s (Go.Lib.join l sep)):=by
 have hml:(l.map T.s).length=l.length:=List.length_map _
 refine so Tryz.func30 ?_
 repeat' (first|refine wu ?_|exact wkc|intro hc|refine wk2 ?_ ?_|fail)
 refine TR.loopN l.length (fun _=>True) (fun j=>[(0,.t (.sl 1 (l.map T.s))),(1,.s sep),(5,.s (Go.Lib.join (l.take j) sep)),(6,.i j)]) (fun j=>[]) trivial (fun j hlt _=>?_) (fun _=>?_)
 ·have hx:=at_map T.s hlt
  have htk:=take_at hlt
  have h1:=join_sum sep (l.take j)
  have h2:=sum_take (fun x=>x.length+sep.length) l j
  have h3:=sum_take (fun x=>x.length+sep.length) l (j+1)
  rw[htk,List.map_append,List.sum_append]at h3
  simp only[List.map_cons,List.map_nil,List.sum_cons,List.sum_nil]at h3
  have hjn:=join_snoc sep l[j] (l.take j)
  rw[<-htk]at hjn
  cases j with
  | zero=>
    rw[if_pos (show List.take 0 l=[] by simp)]at hjn
    rw[show Go.Lib.join (l.take 0) sep=[] by simp[Go.Lib.join]]at*
    generalize l[0]=x at*
    repeat' (first|refine wu ?_|exact wkc|intro hc|refine wk2 ?_ ?_|(apply TO.cat;exact rfl;exact rfl;exact rfl;(first|omega|(simp only[List.length_append,List.length_cons,List.length_nil];omega)))|fail)
    all_goals first
     | (exfalso;omega)
     | exact LoopK.nextN hlt trivial (by(try dsimp only);rw[hjn];exact⟨rfl,rfl,rfl,rfl,trivial⟩) rfl
  | succ j=>
    have hne:l.take (j+1)≠ []:=fun hh=>by
     have hq:(l.take (j+1)).length=j+1:=by rw[List.length_take];omega
     rw[hh]at hq
     simp at hq
    rw[if_neg hne]at hjn
    generalize Go.Lib.join (l.take (j+1)) sep=acc at*
    generalize l[j+1]=x at*
    have hjp:(((j+1:Nat):Int)) > 0:=by omega
    repeat' (first|refine wu ?_|exact wkc|intro hc|refine wk2 ?_ ?_|(apply TO.cat;exact rfl;exact rfl;exact rfl;(first|omega|(simp only[List.length_append,List.length_cons,List.length_nil];omega)))|fail)
    all_goals first
     | (exfalso;omega)
     | exact LoopK.nextN hlt trivial (by(try dsimp only);rw[hjn];exact⟨rfl,rfl,rfl,rfl,trivial⟩) rfl
 ·rw[List.take_length]
  repeat' (first|refine wu ?_|exact wkc|intro hc|refine wk2 ?_ ?_|fail)
  exact wkr
set_option maxHeartbeats 4000000 in
theorem clockR_sound {es:List En} (h:ShE es) (ck:List OnC) (hn:∀o∈ck,o.name.length≤3000000) (hl:ck.length≤1000000):Pure Tryz.prog 43 [.t (ensT es),.t (.sl 3 (ck.map onT))] (.s (clockS es ck)):=by
 have hml:(ck.map onT).length=ck.length:=List.length_map _
 have hj:=listR_sound (ck.map (smpS es)) [32] (by rw[List.length_map];omega) (by
  rw[List.map_map]
  show(ck.map fun o=>(smpS es o).length+1).sum≤_
  have hall:∀l:List OnC,(∀o∈l,o.name.length≤3000000)->(l.map fun o=>(smpS es o).length+1).sum≤l.length*6000041:=by
   intro l
   induction l with
   | nil=>intro _;exact Nat.zero_le _
   | cons o l ih=>
     intro hh
     have h1:=smpS_len h o (hh o (List.mem_cons_self ..))
     have h2:=ih fun o ho=>hh o (List.mem_cons_of_mem _ ho)
     rw[List.map_cons,List.sum_cons,show(o::l).length=l.length+1 from rfl,Nat.add_mul]
     omega
  exact Nat.le_trans (hall ck hn) (Nat.le_trans (Nat.mul_le_mul_right _ hl) (by decide)))
 unfold clockS
 have hjm:(ck.map (smpS es)).map T.s=ck.map fun o=>T.s (smpS es o):=by rw[List.map_map];rfl
 rw[hjm]at hj
 generalize Go.Lib.join (ck.map (smpS es)) [32]=zz at*
 refine so Tryz.func43 ?_
 repeat' (first|refine wkt ?_|fail)
 refine TR.tail 1 5 rfl ?_
 refine TR.loopN ck.length (fun _=>True) (fun j=>[(0,.t (ensT es)),(1,.t (.sl 3 (ck.map onT))),(5,.sl 1 ((ck.take j).map fun o=>T.s (smpS es o)) 0),(6,.i j)]) (fun j=>[.tail ((ck.take j).map fun o=>T.s (smpS es o)).length]) trivial (fun j hlt _=>?_) (fun _=>?_) ⟨rfl,rfl,rfl,rfl,trivial⟩ rfl
 ·have hx:=at_map onT hlt
  have htk:=take_at hlt
  have hs:=valR_sound h ck[j].t ck[j].tag
  have hzl:=valS_len h ck[j].t ck[j].tag
  have hnm:=hn _ (List.getElem_mem hlt)
  have hst:smpS es ck[j]=[119,104,101,110,32]++valS es ck[j].t.1 ck[j].tag.1++[40]++ck[j].name++[41]:=rfl
  have hLl:((ck.take j).map fun o=>T.s (smpS es o)).length≤1000000:=by rw[List.length_map,List.length_take];omega
  have hL1:(ck.take (j+1)).map (fun o=>T.s (smpS es o))=(ck.take j).map (fun o=>T.s (smpS es o))++[T.s ([119,104,101,110,32]++valS es ck[j].t.1 ck[j].tag.1++[40]++ck[j].name++[41])]:=by rw[htk,List.map_append,<-hst];rfl
  generalize valS es ck[j].t.1 ck[j].tag.1=z at*
  generalize hL:((ck.take j).map fun o=>T.s (smpS es o))=L at*
  generalize smpS es ck[j]=sx at*
  generalize ck[j]=o at*
  obtain⟨nm,t,v⟩:=o
  dsimp only[onT]at hx hs hL1 hnm
  repeat' (first|refine wkt ?_|exact wkc|intro hc|refine wk2 ?_ ?_|fail)
  refine TR.regionW [5] (envF:=?envF) (HF:=[.tail (L.length+1)]) [(.sl 1 L 0,false),(.t (ensT es),false),(.t (.sl 3 (ck.map onT)),false),(.i j,false),(.cp [.s nm,T.n t,T.n v] 0,false),(.cp [.s nm,T.n t,T.n v] 1,false),(.n t,false),(.t (.sl 3 (ck.map onT)),false),(.i j,false),(.cp [.s nm,T.n t,T.n v] 0,false),(.cp [.s nm,T.n t,T.n v] 2,false),(.n v,false),(.s z,false),(.s ([119,104,101,110,32]++z),false),(.s ([119,104,101,110,32]++z++[40]),false),(.t (.sl 3 (ck.map onT)),false),(.i j,false),(.cp [.s nm,T.n t,T.n v] 0,false),(.cp [.s nm,T.n t,T.n v] 0,false),(.s nm,false),(.s ([119,104,101,110,32]++z++[40]++nm),false),(.s ([119,104,101,110,32]++z++[40]++nm++[41]),false),(.t (.sl 1 [.s ([119,104,101,110,32]++z++[40]++nm++[41])]),false),(.sl 1 (L++[.s ([119,104,101,110,32]++z++[40]++nm++[41])]) 0,true),(.sl 1 (L++[.s ([119,104,101,110,32]++z++[40]++nm++[41])]) 0,false)] [[.tail L.length],[.tail (L.length+1)]] hmix rfl ?hB rfl ?hp rfl ?hE ?hK
  case hB=>(dsimp only[List.map];decide +kernel)
  case hE=>exact rfl
  case hp=>
   repeat' (first|refine wkt ?_|refine wv hs ?_|(apply TO.cat;exact rfl;exact rfl;exact rfl;(first|omega|(simp only[List.length_append,List.length_cons,List.length_nil];omega)))|exact trivial|exact⟨rfl,rfl⟩|refine And.intro (fun H env=>?_) ?_|refine And.intro (fun env=>?_) ?_|refine wk ?_|exact wkc|intro hc|refine wk2 ?_ ?_|fail)
  case hK=>
   repeat' (first|refine wu ?_|exact wkc|intro hc|refine wk2 ?_ ?_|fail)
   exact LoopK.nextN hlt trivial (by(try dsimp only);rw[hL1];exact⟨rfl,rfl,rfl,rfl,trivial⟩) (by(try dsimp only);rw[hL1,List.length_append];rfl)
 ·rw[List.take_length]
  repeat' (first|refine wu ?_|exact wkc|intro hc|refine wk2 ?_ ?_|refine wv hj ?_|fail)
  exact wkr
set_option maxHeartbeats 4000000 in
theorem clockPR_sound {es:List En} (h:ShE es) (ck:List OnC) (hn:∀o∈ck,o.name.length≤3000000) (hl:ck.length≤1000000):Pure Tryz.prog 16 [.t (ensT es),.t (.sl 3 (ck.map onT))] (.tup [.s (showC es ck).1,.i (showC es ck).2]):=by
 have hml:(ck.map onT).length=ck.length:=List.length_map _
 have hs:=clockR_sound h ck hn hl
 refine so Tryz.func16 ?_
 repeat' (first|refine wu ?_|exact wkc|intro hc|refine wk2 ?_ ?_|fail)
 refine TR.loopN ck.length (fun j=>((ck.take j).all fun o=>hasT es o.t.1 o.tag.1)=true) (fun j=>[(0,.t (ensT es)),(1,.t (.sl 3 (ck.map onT))),(6,.i j)]) (fun j=>[]) rfl (fun j hlt ha=>?_) (fun ha=>?_) ⟨rfl,rfl,rfl,trivial⟩ rfl
 ·have hx:=at_map onT hlt
  have htk:=take_at hlt
  have hh:=hasR_sound es ck[j].t ck[j].tag
  have hbad:=fun hq=>clk_has (es:=es) hlt hq
  have hgood:hasT es ck[j].t.1 ck[j].tag.1=true->((ck.take (j+1)).all fun o=>hasT es o.t.1 o.tag.1)=true:=fun hq=>by
   rw[htk,List.all_append,ha]
   simpa using hq
  generalize hb:hasT es ck[j].t.1 ck[j].tag.1=b at*
  generalize showC es ck=sc at*
  generalize ck[j]=o at*
  obtain⟨nm,t,v⟩:=o
  dsimp only[onT]at hx hh
  cases b with
  | true=>
    repeat' (first|refine wkt ?_|exact wkc|intro hc|refine wk2 ?_ ?_|fail)
    refine rgS [.t (ensT es),.t (.sl 3 (ck.map onT)),.i j,.cp [.s nm,T.n t,T.n v] 0,.cp [.s nm,T.n t,T.n v] 1,.n t,.t (.sl 3 (ck.map onT)),.i j,.cp [.s nm,T.n t,T.n v] 0,.cp [.s nm,T.n t,T.n v] 2,.n v,.b true,.b false] ?_ ?_
    ·repeat' (first|refine wkt ?_|refine wv hh ?_|exact trivial|exact⟨⟨rfl,rfl⟩,trivial⟩|refine And.intro (fun env=>?_) ?_|refine wk ?_|exact wkc|intro hc|refine wk2 ?_ ?_|fail)
     done
    ·repeat' (first|refine wu ?_|exact wkc|intro hc|refine wk2 ?_ ?_|fail)
     exact LoopK.nextN hlt (hgood rfl) ⟨rfl,rfl,rfl,trivial⟩ rfl
  | false=>
    rw[hbad (by decide)]
    repeat' (first|refine wkt ?_|exact wkc|intro hc|refine wk2 ?_ ?_|fail)
    refine rgS [.t (ensT es),.t (.sl 3 (ck.map onT)),.i j,.cp [.s nm,T.n t,T.n v] 0,.cp [.s nm,T.n t,T.n v] 1,.n t,.t (.sl 3 (ck.map onT)),.i j,.cp [.s nm,T.n t,T.n v] 0,.cp [.s nm,T.n t,T.n v] 2,.n v,.b false,.b true] ?_ ?_
    ·repeat' (first|refine wkt ?_|refine wv hh ?_|exact trivial|exact⟨⟨rfl,rfl⟩,trivial⟩|refine And.intro (fun env=>?_) ?_|refine wk ?_|exact wkc|intro hc|refine wk2 ?_ ?_|fail)
     done
    ·repeat' (first|refine wu ?_|exact wkc|intro hc|refine wk2 ?_ ?_|fail)
     exact wkr
 ·rw[List.take_length]at ha
  unfold showC
  rw[if_pos ha]
  generalize clockS es ck=z at*
  repeat' (first|refine wu ?_|exact wkc|intro hc|refine wk2 ?_ ?_|refine wv hs ?_|fail)
  exact wkr
abbrev RfC (F:FuncId)(es:List En)(e:Ex)(s:Str):Prop:=Pure Tryz.prog F [.t (ensT es),.t (.ag (exC e))] (.s s)
theorem symR_sound(o:Int)(h:3≤o/\o≤16):Pure Tryz.prog 114 [.i o] (.s (symS o)):=by
 rcases(by omega:o=3\/o=4\/o=5\/o=6\/o=7\/o=8\/o=9\/o=10\/o=11\/o=12\/o=13\/o=14\/o=15\/o=16)with h|h|h|h|h|h|h|h|h|h|h|h|h|h
 all_goals
  subst h
  refine so Tryz.func114 ?_
  repeat' (first|refine wu ?_|exact wkc|intro hc|refine wk2 ?_ ?_|fail)
  exact wkr
theorem operandR_sound{es:List En}{f:Ex->Str}{e:Ex}(hf:RfC 39 es e (f e))(hl:(f e).length≤1000000000000000):RfC 77 es e (grS f e):=by
 have hbi:primB e=true ↔ (e.kind.1=2\/e.kind.1=11\/e.kind.1=10\/e.kind.1=1/\(e.t.1≠2\/0≤e.v.1)):=by unfold primB;exact decide_eq_true_iff
 unfold grS
 unfold RfC at*
 generalize f e=s at*
 generalize primB e=b at*
 obtain⟨⟨k,k1,k2⟩,⟨o,o1,o2⟩,⟨t,t1,t2⟩,⟨v,v1,v2⟩,nm,args⟩:=e
 dsimp only[exC,Ex.kind,Ex.op,Ex.t,Ex.v,Ex.name,Ex.args]at*
 generalize args.map exT=la at*
 cases b
 all_goals
  refine so Tryz.func77 ?_
  repeat' (first|refine wu ?_|exact wkc|intro hc|refine wk2 ?_ ?_|refine wv hf ?_|(apply TO.cat;exact rfl;exact rfl;exact rfl;(first|omega|(simp only[List.length_append,List.length_cons,List.length_nil];omega)))|fail)
  all_goals
   refine RetK.pure rfl (Le.of_eq ?_) rfl
   first|rfl|(exfalso;simp at *;omega)
set_option maxHeartbeats 8000000 in
theorem operation_sound {es:List En} {f:Ex->Str} {e:Ex} (hA:ShA e) (h3:e.kind.1=3) (hf:∀x∈e.args,RfC 39 es x (f x)) (hl:∀x∈e.args,(f x).length≤100000000000000):
  RfC 76 es e (operS f e.op.1 e.args):=by
 obtain⟨ho1,ho2,hn⟩:=hA.o3 h3
 have hg:∀x∈e.args,RfC 77 es x (grS f x):=fun x hx=>operandR_sound (hf x hx) (Nat.le_trans (hl x hx) (by decide))
 have hgl:∀x∈e.args,(grS f x).length≤100000000000002:=fun x hx=>Nat.le_trans (grS_len f x) (by have:=hl x hx;omega)
 obtain⟨k,o,t,v,nm,args⟩:=e
 clear hA
 dsimp only[Ex.kind,Ex.op,Ex.args]at*
 unfold opdI at hn
 by_cases h12:o.1=1\/o.1=2
 ·rw[if_pos h12]at hn
  obtain⟨a,rfl⟩:∃a,args=[a]:=List.length_eq_one_iff.1 (by omega)
  have hf:=hf a (List.mem_singleton.2 rfl)
  have hg:=hg a (List.mem_singleton.2 rfl)
  have hl:=hl a (List.mem_singleton.2 rfl)
  have hgl:=hgl a (List.mem_singleton.2 rfl)
  generalize hz:operS f o.1 [a]=z
  rw[operS_one]at hz
  by_cases h1:o.1=1
  ·rw[if_pos h1]at hz
   unfold RfC at*
   rw[exC_eq]
   dsimp only[List.map]
   rw[exT_eq]
   generalize f a=s at*
   generalize grS f a=g at*
   subst hz
   obtain⟨⟨k',kk1,kk2⟩,o',⟨t',tt1,tt2⟩,v',n',l'⟩:=a
   obtain⟨o,oo1,oo2⟩:=o
   rw[exC_eq]at*
   dsimp only[Ex.kind,Ex.t]at*
   generalize l'.map exT=la at*
   subst h1
   refine so Tryz.func76 ?_
   repeat' (first|refine wkt ?_|refine wv hf ?_|refine wv hg ?_|(apply TO.indexAddr tabOk;(iterate 8 exact rfl);decide;exact rfl)|(apply TO.cat;exact rfl;exact rfl;exact rfl;(first|omega|(simp only[List.length_append,List.length_cons,List.length_nil];omega)))|exact wkc|intro hc|refine wk2 ?_ ?_|refine wk ?_|fail)
   exact wkr
  have h2:o.1=2:=by omega
  rw[if_neg h1]at hz
  by_cases hc:a.kind.1=1/\a.t.1=2
  ·rw[if_pos hc]at hz
   unfold RfC at*
   rw[exC_eq]
   dsimp only[List.map]
   rw[exT_eq]
   generalize f a=s at*
   generalize grS f a=g at*
   subst hz
   obtain⟨⟨k',kk1,kk2⟩,o',⟨t',tt1,tt2⟩,v',n',l'⟩:=a
   obtain⟨o,oo1,oo2⟩:=o
   rw[exC_eq]at*
   dsimp only[Ex.kind,Ex.t]at*
   generalize l'.map exT=la at*
   subst h2
   obtain⟨rfl,rfl⟩:=hc
   refine so Tryz.func76 ?_
   repeat' (first|refine wkt ?_|refine wv hf ?_|refine wv hg ?_|(apply TO.indexAddr tabOk;(iterate 8 exact rfl);decide;exact rfl)|(apply TO.cat;exact rfl;exact rfl;exact rfl;(first|omega|(simp only[List.length_append,List.length_cons,List.length_nil];omega)))|exact wkc|intro hc|refine wk2 ?_ ?_|refine wk ?_|fail)
   exact wkr
  ·rw[if_neg hc]at hz
   unfold RfC at*
   rw[exC_eq]
   dsimp only[List.map]
   rw[exT_eq]
   generalize f a=s at*
   generalize grS f a=g at*
   subst hz
   obtain⟨⟨k',kk1,kk2⟩,o',⟨t',tt1,tt2⟩,v',n',l'⟩:=a
   obtain⟨o,oo1,oo2⟩:=o
   rw[exC_eq]at*
   dsimp only[Ex.kind,Ex.t]at*
   generalize l'.map exT=la at*
   subst h2
   by_cases hk:k'=1
   ·subst hk
    have ht:t'≠2:=fun h=>hc ⟨rfl,h⟩
    refine so Tryz.func76 ?_
    repeat' (first|refine wkt ?_|refine wv hf ?_|refine wv hg ?_|(apply TO.indexAddr tabOk;(iterate 8 exact rfl);decide;exact rfl)|(apply TO.cat;exact rfl;exact rfl;exact rfl;(first|omega|(simp only[List.length_append,List.length_cons,List.length_nil];omega)))|exact wkc|intro hc|refine wk2 ?_ ?_|refine wk ?_|fail)
    exact wkr
   ·refine so Tryz.func76 ?_
    repeat' (first|refine wkt ?_|refine wv hf ?_|refine wv hg ?_|(apply TO.indexAddr tabOk;(iterate 8 exact rfl);decide;exact rfl)|(apply TO.cat;exact rfl;exact rfl;exact rfl;(first|omega|(simp only[List.length_append,List.length_cons,List.length_nil];omega)))|exact wkc|intro hc|refine wk2 ?_ ?_|refine wk ?_|fail)
    exact wkr
 ·rw[if_neg h12]at hn
  obtain⟨a,b,rfl⟩:∃a b,args=[a,b]:=len2 (by omega)
  have hga:=hg a (List.mem_cons_self ..)
  have hgb:=hg b (List.mem_cons_of_mem _ (List.mem_cons_self ..))
  have hla:=hgl a (List.mem_cons_self ..)
  have hlb:=hgl b (List.mem_cons_of_mem _ (List.mem_cons_self ..))
  have hs:=symS_len o.1
  have ho:3≤o.1/\o.1≤16:=by omega
  have hsy:=symR_sound o.1 ho
  clear hf hl hg hgl hn h3
  rw[operS_two]
  unfold RfC at*
  rw[exC_eq]
  dsimp only[List.map]
  rw[exT_eq,exT_eq]
  generalize grS f a=ga at*
  generalize grS f b=gb at*
  obtain⟨k',o',t',v',n',l'⟩:=a
  obtain⟨k2,o2,t2,v2,n2,l2⟩:=b
  simp only[exC_eq]at*
  generalize l'.map exT=la at*
  generalize l2.map exT=lb at*
  have h1:o.1≠1:=fun h=>h12 (.inl h)
  have h2:o.1≠2:=fun h=>h12 (.inr h)
  clear h12
  refine so Tryz.func76 ?_
  repeat' (first|refine wkt ?_|exact wkc|intro hc|refine wk2 ?_ ?_|fail)
  refine rgS [.t (ensT es),.cp [T.n k,T.n o,T.n t,T.n v,.s nm,.sl 6 [.ag [T.n k',T.n o',T.n t',T.n v',.s n',.sl 6 la],.ag [T.n k2,T.n o2,T.n t2,T.n v2,.s n2,.sl 6 lb]]] 5,.t (.sl 6 [.ag [T.n k',T.n o',T.n t',T.n v',.s n',.sl 6 la],.ag [T.n k2,T.n o2,T.n t2,T.n v2,.s n2,.sl 6 lb]]),.cp [T.n k',T.n o',T.n t',T.n v',.s n',.sl 6 la] 0,.t (.ag [T.n k',T.n o',T.n t',T.n v',.s n',.sl 6 la]),.s ga,.s (ga++[32]),.cp [T.n k,T.n o,T.n t,T.n v,.s nm,.sl 6 [.ag [T.n k',T.n o',T.n t',T.n v',.s n',.sl 6 la],.ag [T.n k2,T.n o2,T.n t2,T.n v2,.s n2,.sl 6 lb]]] 1,.n o,.s (symS o.1),.s (ga++[32]++symS o.1),.s (ga++[32]++symS o.1++[32]),.t (ensT es),.cp [T.n k,T.n o,T.n t,T.n v,.s nm,.sl 6 [.ag [T.n k',T.n o',T.n t',T.n v',.s n',.sl 6 la],.ag [T.n k2,T.n o2,T.n t2,T.n v2,.s n2,.sl 6 lb]]] 5,.t (.sl 6 [.ag [T.n k',T.n o',T.n t',T.n v',.s n',.sl 6 la],.ag [T.n k2,T.n o2,T.n t2,T.n v2,.s n2,.sl 6 lb]]),.cp [T.n k2,T.n o2,T.n t2,T.n v2,.s n2,.sl 6 lb] 0,.t (.ag [T.n k2,T.n o2,T.n t2,T.n v2,.s n2,.sl 6 lb]),.s gb,.s (ga++[32]++symS o.1++[32]++gb),.s (ga++[32]++symS o.1++[32]++gb)] ?_ ?_
  ·repeat' (first|refine wkt ?_|refine wv hga ?_|refine wv hgb ?_|refine wv hsy ?_|(apply TO.indexAddr tabOk;(iterate 8 exact rfl);decide;exact rfl)|(apply TO.cat;exact rfl;exact rfl;exact rfl;(first|omega|(simp only[List.length_append,List.length_cons,List.length_nil];omega)))|exact trivial|exact⟨⟨rfl,rfl⟩,trivial⟩|refine And.intro (fun env=>?_) ?_|refine wk ?_|exact wkc|intro hc|refine wk2 ?_ ?_|fail)
   done
  ·repeat' (first|refine wu ?_|exact wkc|intro hc|refine wk2 ?_ ?_|fail)
   exact wkr
set_option maxHeartbeats 8000000 in
theorem callR_sound9 {es:List En} {f:Ex->Str} {e:Ex} (hA:ShA e) (hk:e.kind.1=10) (hf:∀x∈e.args,RfC 39 es x (f x)) (hl:∀x∈e.args,(f x).length≤1000000000000):
  RfC 78 es e (callA f e.v.1 e.name e.args):=by
 have hv:=hA.v10 hk
 have hnm:=hA.name
 have hfew:=hA.few
 have hg:∀x∈e.args,RfC 77 es x (grS f x):=fun x hx=>operandR_sound (hf x hx) (Nat.le_trans (hl x hx) (by decide))
 have hgl:∀x∈e.args,(grS f x).length≤1000000000002:=fun x hx=>Nat.le_trans (grS_len f x) (by have:=hl x hx;omega)
 obtain⟨k,o,t,v,nm,args⟩:=e
 clear hA
 dsimp only[Ex.kind,Ex.v,Ex.args,Ex.name]at*
 have hml:(args.map exT).length=args.length:=List.length_map _
 obtain⟨v,vv1,vv2⟩:=v
 dsimp only at hv⊢
 show TL.Pure _ _ _ _
 rw[exC_eq]
 by_cases h1:v=1
 ·subst h1
  have hn1:1≤args.length:=by omega
  obtain⟨n,hn⟩:∃n,n=args.length-1:=⟨_,rfl⟩
  have hlt3:n<args.length:=by omega
  unfold callA
  rw[if_pos rfl,<-hn,List.getElem?_eq_getElem hlt3]
  simp only[Option.map_some,Option.getD_some]
  rw[<-List.append_assoc _ [32,101,118,101,114,121,32]]
  have hnv:((args.map exT).length:Int)-1=(n:Int):=by rw[hml];omega
  have hml2:((args.map exT).take n).length=n:=by rw[List.length_take,hml];omega
  have hl2:(args.take n).length=n:=by rw[List.length_take];omega
  have hmt:(args.map exT).take n=(args.take n).map exT:=(List.map_take ..).symm
  have hjl:(((args.take n).map f).map fun x=>x.length+List.length [(44:UInt8),32]).sum≤64*1000000000002:=by
   rw[List.map_map]
   show((args.take n).map fun x=>(f x).length+2).sum≤_
   have hall:∀l:List Ex,(∀x∈l,(f x).length≤1000000000000)->(l.map fun x=>(f x).length+2).sum≤l.length*1000000000002:=by
    intro l
    induction l with
    | nil=>intro _;exact Nat.zero_le _
    | cons x l ih=>
      intro hh
      have h1:=hh x (List.mem_cons_self ..)
      have h2:=ih fun o ho=>hh o (List.mem_cons_of_mem _ ho)
      rw[List.map_cons,List.sum_cons,show(x::l).length=l.length+1 from rfl,Nat.add_mul]
      omega
   refine Nat.le_trans (hall _ fun x hx=>hl x (List.mem_of_mem_take hx)) ?_
   rw[hl2]
   exact Nat.mul_le_mul_right _ (by omega)
  have hjs:=Nat.le_trans (join_sum [44,32] ((args.take n).map f)) hjl
  have hj:=listR_sound ((args.take n).map f) [44,32] (by rw[List.length_map,hl2];omega) (Nat.le_trans hjl (by decide))
  rw[List.map_map]at hj
  clear hjl
  generalize Go.Lib.join ((args.take n).map f) [44,32]=jn at*
  refine so Tryz.func78 ?_
  repeat' (first|refine wkt ?_|(apply TO.sub64 (b:=1);exact rfl;exact rfl;exact rfl;omega;omega;rw[hnv])|(apply TO.slice_sl tabOk (a:=0) (b:=n);exact rfl;exact rfl;exact rfl;exact rfl;exact rfl;exact rfl;exact rfl;exact .inl ⟨rfl,rfl⟩;exact .inr ⟨_,_,rfl,rfl⟩;exact Nat.zero_le _;(rw[hml];omega))|exact wkc|intro hc|refine wk2 ?_ ?_|fail)
  refine TR.tail 1 6 rfl ?_
  refine TR.loopN n (fun _=>True) (fun j=>[(0,.t (ensT es)),(3,.cp [T.n k,T.n o,T.n t,T.i 1,.s nm,.sl 6 (args.map exT)] 0),(5,.t (.sl 6 ((args.map exT).take n))),(6,.sl 1 (((args.take n).take j).map (T.s ∘ f)) 0),(7,.i j)]) (fun j=>[.tail (((args.take n).take j).map (T.s ∘ f)).length]) trivial (fun j hlt _=>?_) (fun _=>?_) ⟨rfl,rfl,rfl,rfl,rfl,trivial⟩ rfl
  ·have hlt2:j<(args.take n).length:=by rw[hl2];exact hlt
   have hx:=at_exT hlt2
   rw[<-hmt]at hx
   skip
   have htk:=take_at hlt2
   have hmem:(args.take n)[j]∈args:=List.mem_of_mem_take (List.getElem_mem hlt2)
   have hs:=hf _ hmem
   have hlen:(((args.take n).take j).map (T.s ∘ f)).length≤1000000:=by rw[List.length_map,List.length_take,hl2];omega
   unfold RfC at hs
   generalize (args.take n)[j]=x at*
   have hgx:(T.s ∘ f) x=T.s (f x):=rfl
   generalize f x=g at*
   unfold exC at hx hs
   repeat' (first|refine wu ?_|exact wkc|intro hc|refine wk2 ?_ ?_|refine wv hs ?_|fail)
   exact LoopK.nextN hlt trivial (by(try dsimp only);rw[htk,List.map_append,List.map_singleton,hgx];exact⟨rfl,rfl,rfl,rfl,rfl,trivial⟩) (by(try dsimp only);rw[htk,List.map_append,List.map_singleton,hgx,List.length_append];rfl)
  ·rw[List.take_of_length_le (Nat.le_of_eq hl2)]
   repeat' (first|refine wkt ?_|refine LoopK.exit ?_|exact wkc|intro hc|refine wk2 ?_ ?_|fail)
   refine rgS [.cp [T.n k,T.n o,T.n t,T.i 1,.s nm,.sl 6 (args.map exT)] 4,.s nm,.s (nm++[40]),.sl 1 ((args.take n).map (T.s ∘ f)) 0,.s jn,.s (nm++[40]++jn),.s (nm++[40]++jn++[41]),.s (nm++[40]++jn++[41])] ?_ ?_
   ·repeat' (first|refine wkt ?_|refine wv hj ?_|(apply TO.cat;exact rfl;exact rfl;exact rfl;(first|omega|(simp only[List.length_append,List.length_cons,List.length_nil];omega)))|exact trivial|exact⟨⟨rfl,rfl⟩,trivial⟩|refine And.intro (fun env=>?_) ?_|refine wk ?_|exact wkc|intro hc|refine wk2 ?_ ?_|fail)
    done
   ·have hs:=hg _ (List.getElem_mem hlt3)
    have hy:=hgl _ (List.getElem_mem hlt3)
    have hx:=at_exT hlt3
    unfold RfC at hs
    generalize args[n]=x at*
    generalize grS f x=g at*
    obtain⟨k',o',t',v',n',l'⟩:=x
    rw[exC_eq]at hx hs
    generalize l'.map exT=la at*
    repeat' (first|refine wkt ?_|refine wv hs ?_|(apply TO.sub64 (b:=1);exact rfl;exact rfl;exact rfl;omega;omega;rw[hnv])|(apply TO.cat;exact rfl;exact rfl;exact rfl;(first|omega|(simp only[List.length_append,List.length_cons,List.length_nil];omega)))|exact wkc|intro hc|refine wk2 ?_ ?_|refine wk ?_|fail)
    exact wkr
 ·obtain rfl:v=0:=by omega
  obtain⟨n,hn⟩:∃n,n=args.length:=⟨_,rfl⟩
  unfold callA
  rw[if_neg (by decide)]
  rw[show args.map f=(args.take n).map f by rw[hn,List.take_length]]
  have hnv:((args.map exT).length:Int)-0=(n:Int):=by rw[hml];omega
  have hml2:((args.map exT).take n).length=n:=by rw[List.length_take,hml];omega
  have hl2:(args.take n).length=n:=by rw[List.length_take];omega
  have hmt:(args.map exT).take n=(args.take n).map exT:=(List.map_take ..).symm
  have hjl:(((args.take n).map f).map fun x=>x.length+List.length [(44:UInt8),32]).sum≤64*1000000000002:=by
   rw[List.map_map]
   show((args.take n).map fun x=>(f x).length+2).sum≤_
   have hall:∀l:List Ex,(∀x∈l,(f x).length≤1000000000000)->(l.map fun x=>(f x).length+2).sum≤l.length*1000000000002:=by
    intro l
    induction l with
    | nil=>intro _;exact Nat.zero_le _
    | cons x l ih=>
      intro hh
      have h1:=hh x (List.mem_cons_self ..)
      have h2:=ih fun o ho=>hh o (List.mem_cons_of_mem _ ho)
      rw[List.map_cons,List.sum_cons,show(x::l).length=l.length+1 from rfl,Nat.add_mul]
      omega
   refine Nat.le_trans (hall _ fun x hx=>hl x (List.mem_of_mem_take hx)) ?_
   rw[hl2]
   exact Nat.mul_le_mul_right _ (by omega)
  have hjs:=Nat.le_trans (join_sum [44,32] ((args.take n).map f)) hjl
  have hj:=listR_sound ((args.take n).map f) [44,32] (by rw[List.length_map,hl2];omega) (Nat.le_trans hjl (by decide))
  rw[List.map_map]at hj
  clear hjl
  generalize Go.Lib.join ((args.take n).map f) [44,32]=jn at*
  refine so Tryz.func78 ?_
  repeat' (first|refine wkt ?_|(apply TO.sub64 (b:=0);exact rfl;exact rfl;exact rfl;omega;omega;rw[hnv])|(apply TO.slice_sl tabOk (a:=0) (b:=n);exact rfl;exact rfl;exact rfl;exact rfl;exact rfl;exact rfl;exact rfl;exact .inl ⟨rfl,rfl⟩;exact .inr ⟨_,_,rfl,rfl⟩;exact Nat.zero_le _;(rw[hml];omega))|exact wkc|intro hc|refine wk2 ?_ ?_|fail)
  refine TR.tail 1 6 rfl ?_
  refine TR.loopN n (fun _=>True) (fun j=>[(0,.t (ensT es)),(3,.cp [T.n k,T.n o,T.n t,T.i 0,.s nm,.sl 6 (args.map exT)] 0),(5,.t (.sl 6 (args.map exT))),(6,.sl 1 (((args.take n).take j).map (T.s ∘ f)) 0),(7,.i j)]) (fun j=>[.tail (((args.take n).take j).map (T.s ∘ f)).length]) trivial (fun j hlt _=>?_) (fun _=>?_) ⟨rfl,rfl,rfl,rfl,rfl,trivial⟩ rfl
  ·have hlt2:j<(args.take n).length:=by rw[hl2];exact hlt
   have hx:=at_exT hlt2
   rw[<-hmt]at hx
   have hx:(args.map exT)[j]?=some (.ag (exC (args.take n)[j])):=by rw[List.take_of_length_le (by rw[hml];omega)]at hx;exact hx
   have htk:=take_at hlt2
   have hmem:(args.take n)[j]∈args:=List.mem_of_mem_take (List.getElem_mem hlt2)
   have hs:=hf _ hmem
   have hlen:(((args.take n).take j).map (T.s ∘ f)).length≤1000000:=by rw[List.length_map,List.length_take,hl2];omega
   unfold RfC at hs
   generalize (args.take n)[j]=x at*
   have hgx:(T.s ∘ f) x=T.s (f x):=rfl
   generalize f x=g at*
   unfold exC at hx hs
   repeat' (first|refine wu ?_|exact wkc|intro hc|refine wk2 ?_ ?_|refine wv hs ?_|fail)
   exact LoopK.nextN hlt trivial (by(try dsimp only);rw[htk,List.map_append,List.map_singleton,hgx];exact⟨rfl,rfl,rfl,rfl,rfl,trivial⟩) (by(try dsimp only);rw[htk,List.map_append,List.map_singleton,hgx,List.length_append];rfl)
  ·rw[List.take_of_length_le (Nat.le_of_eq hl2)]
   repeat' (first|refine wkt ?_|refine LoopK.exit ?_|exact wkc|intro hc|refine wk2 ?_ ?_|fail)
   refine rgS [.cp [T.n k,T.n o,T.n t,T.i 0,.s nm,.sl 6 (args.map exT)] 4,.s nm,.s (nm++[40]),.sl 1 ((args.take n).map (T.s ∘ f)) 0,.s jn,.s (nm++[40]++jn),.s (nm++[40]++jn++[41]),.s (nm++[40]++jn++[41])] ?_ ?_
   ·repeat' (first|refine wkt ?_|refine wv hj ?_|(apply TO.cat;exact rfl;exact rfl;exact rfl;(first|omega|(simp only[List.length_append,List.length_cons,List.length_nil];omega)))|exact trivial|exact⟨⟨rfl,rfl⟩,trivial⟩|refine And.intro (fun env=>?_) ?_|refine wk ?_|exact wkc|intro hc|refine wk2 ?_ ?_|fail)
    done
   ·repeat' (first|refine wu ?_|exact wkc|intro hc|refine wk2 ?_ ?_|fail)
    exact wkr
end Go.Proofs.YtjgmcnemcembmaaGreatDoor
