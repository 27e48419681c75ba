import Derived.Test.YtjgmcnemcembmaaGreatDoorPk9
import Derived.Test.YtjgmcnemcembmaaGreatDoorPk26
set_option linter.unusedSimpArgs false
set_option linter.unusedVariables false
namespace Go.Proofs.YtjgmcnemcembmaaGreatDoor
open Go Go.TL
attribute [local irreducible] TR TO Then InBlock RetK Sound LoopK Kf GG ThenL
set_option maxHeartbeats 16000000 in
theorem textStep {es:List En} {f:Ex->Str} {e:Ex} (h:ShE es) (hA:ShA e) (hf:∀x∈e.args,RfC 39 es x (f x)) (hl:∀x∈e.args,(f x).length≤1000000000000):
  RfC 39 es e (shE es f e):=by
 have hop:=fun h3=>operation_sound hA h3 hf fun x hx=>Nat.le_trans (hl x hx) (by decide)
 have hca:=fun h10=>callR_sound9 hA h10 hf hl
 have hva:=valR_sound h e.t e.v
 have hvl:=valS_len h e.t e.v
 have hg:∀x∈e.args,RfC 77 es x (grS f x):=fun x hx=>operandR_sound (hf x hx) (Nat.le_trans (hl x hx) (by decide))
 have hgl:∀x∈e.args,(grS f x).length≤1000000000002:=fun x hx=>Nat.le_trans (grS_len f x) (by have:=hl x hx;omega)
 have hnm:=hA.name
 have hk:=hA.kind
 have h4:=hA.k4
 have h5:=hA.k5
 have h6:=hA.k6
 have h9:=hA.k9
 have hfew:=hA.few
 clear hA
 obtain⟨⟨k,kk1,kk2⟩,o,t,v,nm,args⟩:=e
 dsimp only[Ex.kind,Ex.op,Ex.t,Ex.v,Ex.args,Ex.name]at*
 have hsh:∀s,shE es f (.mk ⟨k,kk1,kk2⟩ o t v nm args)=s->Pure Tryz.prog 39 [.t (ensT es),.t (.ag [T.i k,T.n o,T.n t,T.n v,.s nm,.sl 6 (args.map exT)])] (.s s)->RfC 39 es (.mk ⟨k,kk1,kk2⟩ o t v nm args) (shE es f (.mk ⟨k,kk1,kk2⟩ o t v nm args)):=fun s hs hq=>by
  rw[hs]
  exact hq
 rcases(by omega:k=1\/k=2\/k=3\/k=4\/k=5\/k=6\/k=7\/k=8\/k=9\/k=10\/k=11)with rfl|rfl|rfl|rfl|rfl|rfl|rfl|rfl|rfl|rfl|rfl
 ·refine hsh (valS es t.1 v.1) rfl ?_
  generalize valS es t.1 v.1=z at*
  generalize args.map exT=la at*
  clear hop hca hf hg hl hgl
  refine so Tryz.func39 ?_
  repeat' (first|refine wkt ?_|refine wv hva ?_|(apply TO.indexAddr tabOk;(iterate 8 exact rfl);decide;exact rfl)|exact wkc|intro hc|refine wk2 ?_ ?_|refine wk ?_|fail)
  exact wkr
 ·refine hsh (nm) rfl ?_
  generalize args.map exT=la at*
  clear hop hca hf hg hl hgl hva
  refine so Tryz.func39 ?_
  repeat' (first|refine wkt ?_|fail|(apply TO.indexAddr tabOk;(iterate 8 exact rfl);decide;exact rfl)|exact wkc|intro hc|refine wk2 ?_ ?_|refine wk ?_|fail)
  exact wkr
 ·refine hsh (operS f o.1 args) rfl ?_
  have hs:=hop rfl
  unfold RfC at hs
  rw[exC_eq]at hs
  generalize operS f o.1 args=z at*
  generalize args.map exT=la at*
  clear hop hca hf hg hl hgl hva
  refine so Tryz.func39 ?_
  repeat' (first|refine wkt ?_|refine wv hs ?_|(apply TO.indexAddr tabOk;(iterate 8 exact rfl);decide;exact rfl)|exact wkc|intro hc|refine wk2 ?_ ?_|refine wk ?_|fail)
  exact wkr
 ·have hn:=h4 rfl
  obtain⟨a,b,c,rfl⟩:=len3 hn
  refine hsh ([105,102,32]++f a++[32,116,104,101,110,32]++f b++[32,101,108,115,101,32]++f c) (rfl) ?_
  clear hop hca h4 h5 h6 h9 hsh
  have sa:=hf a (List.mem_cons_self ..)
  have qa:=hl a (List.mem_cons_self ..)
  have sb:=hf b (List.mem_cons_of_mem _ (List.mem_cons_self ..))
  have qb:=hl b (List.mem_cons_of_mem _ (List.mem_cons_self ..))
  have sc:=hf c (List.mem_cons_of_mem _ (List.mem_cons_of_mem _ (List.mem_cons_self ..)))
  have qc:=hl c (List.mem_cons_of_mem _ (List.mem_cons_of_mem _ (List.mem_cons_self ..)))
  clear hf hl hg hgl
  unfold RfC at*
  dsimp only[List.map]
  rw[exT_eq a,exT_eq b,exT_eq c]
  generalize f a=ga at*
  obtain⟨ka,oa,ta,va,na,la'⟩:=a
  rw[exC_eq ka]at*
  generalize la'.map exT=la at*
  generalize f b=gb at*
  obtain⟨kb,ob,tb,vb,nb,lb'⟩:=b
  rw[exC_eq kb]at*
  generalize lb'.map exT=lb at*
  generalize f c=gc at*
  obtain⟨kc,oc,tc,vc,nc,lc'⟩:=c
  rw[exC_eq kc]at*
  generalize lc'.map exT=lc at*
  refine so Tryz.func39 ?_
  repeat' (first|refine wkt ?_|exact wkc|intro hc|refine wk2 ?_ ?_|fail)
  refine rgS [.t (ensT es),.cp [T.i 4,T.n o,T.n t,T.n v,.s nm,.sl 6 [.ag [T.n ka,T.n oa,T.n ta,T.n va,.s na,.sl 6 la],.ag [T.n kb,T.n ob,T.n tb,T.n vb,.s nb,.sl 6 lb],.ag [T.n kc,T.n oc,T.n tc,T.n vc,.s nc,.sl 6 lc]]] 5,.t (.sl 6 [.ag [T.n ka,T.n oa,T.n ta,T.n va,.s na,.sl 6 la],.ag [T.n kb,T.n ob,T.n tb,T.n vb,.s nb,.sl 6 lb],.ag [T.n kc,T.n oc,T.n tc,T.n vc,.s nc,.sl 6 lc]]),.cp [T.n ka,T.n oa,T.n ta,T.n va,.s na,.sl 6 la] 0,.t (.ag [T.n ka,T.n oa,T.n ta,T.n va,.s na,.sl 6 la]),.s ga,.s ([105,102,32]++ga),.s ([105,102,32]++ga++[32,116,104,101,110,32]),.t (ensT es),.cp [T.i 4,T.n o,T.n t,T.n v,.s nm,.sl 6 [.ag [T.n ka,T.n oa,T.n ta,T.n va,.s na,.sl 6 la],.ag [T.n kb,T.n ob,T.n tb,T.n vb,.s nb,.sl 6 lb],.ag [T.n kc,T.n oc,T.n tc,T.n vc,.s nc,.sl 6 lc]]] 5,.t (.sl 6 [.ag [T.n ka,T.n oa,T.n ta,T.n va,.s na,.sl 6 la],.ag [T.n kb,T.n ob,T.n tb,T.n vb,.s nb,.sl 6 lb],.ag [T.n kc,T.n oc,T.n tc,T.n vc,.s nc,.sl 6 lc]]),.cp [T.n kb,T.n ob,T.n tb,T.n vb,.s nb,.sl 6 lb] 0,.t (.ag [T.n kb,T.n ob,T.n tb,T.n vb,.s nb,.sl 6 lb]),.s gb,.s ([105,102,32]++ga++[32,116,104,101,110,32]++gb),.s ([105,102,32]++ga++[32,116,104,101,110,32]++gb++[32,101,108,115,101,32]),.t (ensT es),.cp [T.i 4,T.n o,T.n t,T.n v,.s nm,.sl 6 [.ag [T.n ka,T.n oa,T.n ta,T.n va,.s na,.sl 6 la],.ag [T.n kb,T.n ob,T.n tb,T.n vb,.s nb,.sl 6 lb],.ag [T.n kc,T.n oc,T.n tc,T.n vc,.s nc,.sl 6 lc]]] 5,.t (.sl 6 [.ag [T.n ka,T.n oa,T.n ta,T.n va,.s na,.sl 6 la],.ag [T.n kb,T.n ob,T.n tb,T.n vb,.s nb,.sl 6 lb],.ag [T.n kc,T.n oc,T.n tc,T.n vc,.s nc,.sl 6 lc]]),.cp [T.n kc,T.n oc,T.n tc,T.n vc,.s nc,.sl 6 lc] 0,.t (.ag [T.n kc,T.n oc,T.n tc,T.n vc,.s nc,.sl 6 lc]),.s gc,.s ([105,102,32]++ga++[32,116,104,101,110,32]++gb++[32,101,108,115,101,32]++gc),.s ([105,102,32]++ga++[32,116,104,101,110,32]++gb++[32,101,108,115,101,32]++gc)] ?_ ?_
  ·repeat' (first|refine wkt ?_|refine wv sa ?_|refine wv sb ?_|refine wv sc ?_|(apply TO.indexAddr tabOk;(iterate 8 exact rfl);decide;exact rfl)|(apply TO.cat;exact rfl;exact rfl;exact rfl;(first|omega|(simp only[List.length_append,List.length_cons,List.length_nil];omega)))|exact trivial|exact⟨⟨rfl,rfl⟩,trivial⟩|refine And.intro (fun env=>?_) ?_|refine wk ?_|exact wkc|intro hc|refine wk2 ?_ ?_|fail)
   done
  ·repeat' (first|refine wu ?_|exact wkc|intro hc|refine wk2 ?_ ?_|fail)
   exact wkr
 ·have hn:=h5 (.inl rfl)
  obtain⟨a,rfl⟩:=List.length_eq_one_iff.1 hn
  refine hsh ([112,114,101,32]++grS f a) (rfl) ?_
  clear hop hca h4 h5 h6 h9 hsh
  have sa:=hg a (List.mem_cons_self ..)
  have qa:=hgl a (List.mem_cons_self ..)
  clear hf hl hg hgl
  unfold RfC at*
  dsimp only[List.map]
  rw[exT_eq a]
  generalize grS f a=ga at*
  obtain⟨ka,oa,ta,va,na,la'⟩:=a
  rw[exC_eq ka]at*
  generalize la'.map exT=la at*
  refine so Tryz.func39 ?_
  repeat' (first|refine wkt ?_|refine wv sa ?_|(apply TO.cat;exact rfl;exact rfl;exact rfl;(first|omega|(simp only[List.length_append,List.length_cons,List.length_nil];omega)))|(apply TO.indexAddr tabOk;(iterate 8 exact rfl);decide;exact rfl)|exact wkc|intro hc|refine wk2 ?_ ?_|refine wk ?_|fail)
  exact wkr
 ·have hn:=h6 (.inl rfl)
  obtain⟨a,b,rfl⟩:=len2 hn
  refine hsh (grS f a++[32,45,62,32]++grS f b) (rfl) ?_
  clear hop hca h4 h5 h6 h9 hsh
  have sa:=hg a (List.mem_cons_self ..)
  have qa:=hgl a (List.mem_cons_self ..)
  have sb:=hg b (List.mem_cons_of_mem _ (List.mem_cons_self ..))
  have qb:=hgl b (List.mem_cons_of_mem _ (List.mem_cons_self ..))
  clear hf hl hg hgl
  unfold RfC at*
  dsimp only[List.map]
  rw[exT_eq a,exT_eq b]
  generalize grS f a=ga at*
  obtain⟨ka,oa,ta,va,na,la'⟩:=a
  rw[exC_eq ka]at*
  generalize la'.map exT=la at*
  generalize grS f b=gb at*
  obtain⟨kb,ob,tb,vb,nb,lb'⟩:=b
  rw[exC_eq kb]at*
  generalize lb'.map exT=lb at*
  refine so Tryz.func39 ?_
  repeat' (first|refine wkt ?_|exact wkc|intro hc|refine wk2 ?_ ?_|fail)
  refine rgS [.t (ensT es),.cp [T.i 6,T.n o,T.n t,T.n v,.s nm,.sl 6 [.ag [T.n ka,T.n oa,T.n ta,T.n va,.s na,.sl 6 la],.ag [T.n kb,T.n ob,T.n tb,T.n vb,.s nb,.sl 6 lb]]] 5,.t (.sl 6 [.ag [T.n ka,T.n oa,T.n ta,T.n va,.s na,.sl 6 la],.ag [T.n kb,T.n ob,T.n tb,T.n vb,.s nb,.sl 6 lb]]),.cp [T.n ka,T.n oa,T.n ta,T.n va,.s na,.sl 6 la] 0,.t (.ag [T.n ka,T.n oa,T.n ta,T.n va,.s na,.sl 6 la]),.s ga,.s (ga++[32,45,62,32]),.t (ensT es),.cp [T.i 6,T.n o,T.n t,T.n v,.s nm,.sl 6 [.ag [T.n ka,T.n oa,T.n ta,T.n va,.s na,.sl 6 la],.ag [T.n kb,T.n ob,T.n tb,T.n vb,.s nb,.sl 6 lb]]] 5,.t (.sl 6 [.ag [T.n ka,T.n oa,T.n ta,T.n va,.s na,.sl 6 la],.ag [T.n kb,T.n ob,T.n tb,T.n vb,.s nb,.sl 6 lb]]),.cp [T.n kb,T.n ob,T.n tb,T.n vb,.s nb,.sl 6 lb] 0,.t (.ag [T.n kb,T.n ob,T.n tb,T.n vb,.s nb,.sl 6 lb]),.s gb,.s (ga++[32,45,62,32]++gb),.s (ga++[32,45,62,32]++gb)] ?_ ?_
  ·repeat' (first|refine wkt ?_|refine wv sa ?_|refine wv sb ?_|(apply TO.indexAddr tabOk;(iterate 8 exact rfl);decide;exact rfl)|(apply TO.cat;exact rfl;exact rfl;exact rfl;(first|omega|(simp only[List.length_append,List.length_cons,List.length_nil];omega)))|exact trivial|exact⟨⟨rfl,rfl⟩,trivial⟩|refine And.intro (fun env=>?_) ?_|refine wk ?_|exact wkc|intro hc|refine wk2 ?_ ?_|fail)
   done
  ·repeat' (first|refine wu ?_|exact wkc|intro hc|refine wk2 ?_ ?_|fail)
   exact wkr
 ·have hn:=h6 (.inr rfl)
  obtain⟨a,b,rfl⟩:=len2 hn
  refine hsh (grS f a++[32,102,98,121,32]++grS f b) (rfl) ?_
  clear hop hca h4 h5 h6 h9 hsh
  have sa:=hg a (List.mem_cons_self ..)
  have qa:=hgl a (List.mem_cons_self ..)
  have sb:=hg b (List.mem_cons_of_mem _ (List.mem_cons_self ..))
  have qb:=hgl b (List.mem_cons_of_mem _ (List.mem_cons_self ..))
  clear hf hl hg hgl
  unfold RfC at*
  dsimp only[List.map]
  rw[exT_eq a,exT_eq b]
  generalize grS f a=ga at*
  obtain⟨ka,oa,ta,va,na,la'⟩:=a
  rw[exC_eq ka]at*
  generalize la'.map exT=la at*
  generalize grS f b=gb at*
  obtain⟨kb,ob,tb,vb,nb,lb'⟩:=b
  rw[exC_eq kb]at*
  generalize lb'.map exT=lb at*
  refine so Tryz.func39 ?_
  repeat' (first|refine wkt ?_|exact wkc|intro hc|refine wk2 ?_ ?_|fail)
  refine rgS [.t (ensT es),.cp [T.i 7,T.n o,T.n t,T.n v,.s nm,.sl 6 [.ag [T.n ka,T.n oa,T.n ta,T.n va,.s na,.sl 6 la],.ag [T.n kb,T.n ob,T.n tb,T.n vb,.s nb,.sl 6 lb]]] 5,.t (.sl 6 [.ag [T.n ka,T.n oa,T.n ta,T.n va,.s na,.sl 6 la],.ag [T.n kb,T.n ob,T.n tb,T.n vb,.s nb,.sl 6 lb]]),.cp [T.n ka,T.n oa,T.n ta,T.n va,.s na,.sl 6 la] 0,.t (.ag [T.n ka,T.n oa,T.n ta,T.n va,.s na,.sl 6 la]),.s ga,.s (ga++[32,102,98,121,32]),.t (ensT es),.cp [T.i 7,T.n o,T.n t,T.n v,.s nm,.sl 6 [.ag [T.n ka,T.n oa,T.n ta,T.n va,.s na,.sl 6 la],.ag [T.n kb,T.n ob,T.n tb,T.n vb,.s nb,.sl 6 lb]]] 5,.t (.sl 6 [.ag [T.n ka,T.n oa,T.n ta,T.n va,.s na,.sl 6 la],.ag [T.n kb,T.n ob,T.n tb,T.n vb,.s nb,.sl 6 lb]]),.cp [T.n kb,T.n ob,T.n tb,T.n vb,.s nb,.sl 6 lb] 0,.t (.ag [T.n kb,T.n ob,T.n tb,T.n vb,.s nb,.sl 6 lb]),.s gb,.s (ga++[32,102,98,121,32]++gb),.s (ga++[32,102,98,121,32]++gb)] ?_ ?_
  ·repeat' (first|refine wkt ?_|refine wv sa ?_|refine wv sb ?_|(apply TO.indexAddr tabOk;(iterate 8 exact rfl);decide;exact rfl)|(apply TO.cat;exact rfl;exact rfl;exact rfl;(first|omega|(simp only[List.length_append,List.length_cons,List.length_nil];omega)))|exact trivial|exact⟨⟨rfl,rfl⟩,trivial⟩|refine And.intro (fun env=>?_) ?_|refine wk ?_|exact wkc|intro hc|refine wk2 ?_ ?_|fail)
   done
  ·repeat' (first|refine wu ?_|exact wkc|intro hc|refine wk2 ?_ ?_|fail)
   exact wkr
 ·have hn:=h5 (.inr rfl)
  obtain⟨a,rfl⟩:=List.length_eq_one_iff.1 hn
  refine hsh (grS f a++[32,119,104,101,110,32]++valS es t.1 v.1++[40]++nm++[41]) ((show _=grS f a++[32]++([119,104,101,110,32]++valS es t.1 v.1++[40]++nm++[41]) from rfl).trans (by simp[List.append_assoc])) ?_
  clear hop hca h4 h5 h6 h9 hsh
  generalize valS es t.1 v.1=z at*
  have sa:=hg a (List.mem_cons_self ..)
  have qa:=hgl a (List.mem_cons_self ..)
  clear hf hl hg hgl
  unfold RfC at*
  dsimp only[List.map]
  rw[exT_eq a]
  generalize grS f a=ga at*
  obtain⟨ka,oa,ta,va,na,la'⟩:=a
  rw[exC_eq ka]at*
  generalize la'.map exT=la at*
  refine so Tryz.func39 ?_
  repeat' (first|refine wkt ?_|exact wkc|intro hc|refine wk2 ?_ ?_|fail)
  refine rgS [.t (ensT es),.cp [T.i 8,T.n o,T.n t,T.n v,.s nm,.sl 6 [.ag [T.n ka,T.n oa,T.n ta,T.n va,.s na,.sl 6 la]]] 5,.t (.sl 6 [.ag [T.n ka,T.n oa,T.n ta,T.n va,.s na,.sl 6 la]]),.cp [T.n ka,T.n oa,T.n ta,T.n va,.s na,.sl 6 la] 0,.t (.ag [T.n ka,T.n oa,T.n ta,T.n va,.s na,.sl 6 la]),.s ga,.s (ga++[32,119,104,101,110,32]),.t (ensT es),.cp [T.i 8,T.n o,T.n t,T.n v,.s nm,.sl 6 [.ag [T.n ka,T.n oa,T.n ta,T.n va,.s na,.sl 6 la]]] 2,.n t,.cp [T.i 8,T.n o,T.n t,T.n v,.s nm,.sl 6 [.ag [T.n ka,T.n oa,T.n ta,T.n va,.s na,.sl 6 la]]] 3,.n v,.s z,.s (ga++[32,119,104,101,110,32]++z),.s (ga++[32,119,104,101,110,32]++z++[40]),.cp [T.i 8,T.n o,T.n t,T.n v,.s nm,.sl 6 [.ag [T.n ka,T.n oa,T.n ta,T.n va,.s na,.sl 6 la]]] 4,.s nm,.s (ga++[32,119,104,101,110,32]++z++[40]++nm),.s (ga++[32,119,104,101,110,32]++z++[40]++nm++[41]),.s (ga++[32,119,104,101,110,32]++z++[40]++nm++[41])] ?_ ?_
  ·repeat' (first|refine wkt ?_|refine wv sa ?_|refine wv hva ?_|(apply TO.indexAddr tabOk;(iterate 8 exact rfl);decide;exact rfl)|(apply TO.cat;exact rfl;exact rfl;exact rfl;(first|omega|(simp only[List.length_append,List.length_cons,List.length_nil];omega)))|exact trivial|exact⟨⟨rfl,rfl⟩,trivial⟩|refine And.intro (fun env=>?_) ?_|refine wk ?_|exact wkc|intro hc|refine wk2 ?_ ?_|fail)
   done
  ·repeat' (first|refine wu ?_|exact wkc|intro hc|refine wk2 ?_ ?_|fail)
   exact wkr
 ·have hn:=h9 rfl
  refine hsh (mergeA es f t.1 args ([109,101,114,103,101,32]++nm) args.length) rfl ?_
  clear hop hca hva h4 h5 h6 hg hgl hsh
  have hml:(args.map exT).length=args.length:=List.length_map _
  by_cases ht:t.1=1
  ·have hn:=hn ht
   obtain⟨t,tt1,tt2⟩:=t
   dsimp only at ht
   subst ht
   refine so Tryz.func39 ?_
   repeat' (first|refine wkt ?_|(apply TO.cat;exact rfl;exact rfl;exact rfl;(first|omega|(simp only[List.length_append,List.length_cons,List.length_nil];omega)))|exact wkc|intro hc|refine wk2 ?_ ?_|fail)
   refine TR.loopN args.length (fun _=>True) (fun j=>[(0,.t (ensT es)),(3,.cp [T.i 9,T.n o,T.i 1,T.n v,.s nm,.sl 6 (args.map exT)] 0),(5,.s (mergeA es f (1:Int) args ([109,101,114,103,101,32]++nm) j)),(6,.i j)]) (fun j=>[]) trivial (fun j hlt _=>?_) (fun _=>?_)
   ·have hlt2:(1-(j:Int)).toNat<args.length:=by omega
    have hx:=at_exT hlt2
    have hs:=hf _ (List.getElem_mem hlt2)
    have hgl:=hl _ (List.getElem_mem hlt2)
    have hal:=mergeA_len h (fun x hx=>Nat.le_trans (hl x hx) (by decide)) ⟨1,by decide⟩ ([109,101,114,103,101,32]++nm) j (by omega)
    have hval:Pure Tryz.prog 75 [.t (ensT es),.i 1,.i (1-(j:Int))] (.s (valS es (1:Int) (1-(j:Int)))):=valR_sound h ⟨1,by decide⟩ ⟨1-(j:Int),by omega⟩
    have hzl:(valS es (1:Int) (1-(j:Int))).length≤3000030:=valS_len h ⟨1,by decide⟩ ⟨1-(j:Int),by omega⟩
    have hst:mergeA es f (1:Int) args ([109,101,114,103,101,32]++nm) (j+1)=mergeA es f (1:Int) args ([109,101,114,103,101,32]++nm) j++[32,40]++valS es (1:Int) (1-(j:Int))++[32,45,62,32]++f args[(1-(j:Int)).toNat]++[41]:=by
     rw[mergeA,show brV (1:Int) j=1-(j:Int) from rfl,List.getElem?_eq_getElem hlt2]
     simp only[Option.map_some,Option.getD_some,List.append_assoc]
    have hac:(mergeA es f (1:Int) args ([109,101,114,103,101,32]++nm) j).length≤10000000000000000:=by
     have:j*100000003000040≤64*100000003000040:=Nat.mul_le_mul_right _ (by omega)
     simp only[List.length_append,List.length_cons,List.length_nil]at hal
     omega
    clear hal
    generalize valS es (1:Int) (1-(j:Int))=z at*
    generalize mergeA es f (1:Int) args ([109,101,114,103,101,32]++nm) j=acc at*
    generalize args[(1-(j:Int)).toNat]=x at*
    unfold RfC at hs
    generalize f x=g at*
    obtain⟨k',o',t',v',n',l'⟩:=x
    rw[exC_eq]at hx hs
    generalize l'.map exT=la at*
    repeat' (first|refine wkt ?_|(apply TO.sub64;exact rfl;exact rfl;exact rfl;omega;omega)|exact wkc|intro hc|refine wk2 ?_ ?_|fail)
    refine rgW [5] [.s acc,.s (acc++[32,40]),.t (ensT es),.cp [T.i 9,T.n o,T.i 1,T.n v,.s nm,.sl 6 (args.map exT)] 2,.i 1,.i (1-(j:Int)),.s z,.s (acc++[32,40]++z),.s (acc++[32,40]++z++[32,45,62,32]),.t (ensT es),.cp [T.i 9,T.n o,T.i 1,T.n v,.s nm,.sl 6 (args.map exT)] 5,.t (.sl 6 (args.map exT)),.i (1-(j:Int)),.cp [T.n k',T.n o',T.n t',T.n v',.s n',.sl 6 la] 0,.t (.ag [T.n k',T.n o',T.n t',T.n v',.s n',.sl 6 la]),.s g,.s (acc++[32,40]++z++[32,45,62,32]++g),.s (acc++[32,40]++z++[32,45,62,32]++g++[41]),.s (acc++[32,40]++z++[32,45,62,32]++g++[41])] ?_ ?_
    ·repeat' (first|refine wkt ?_|refine wv hs ?_|refine wv hval ?_|(apply TO.indexAddr tabOk;(iterate 8 exact rfl);omega;exact hx)|(apply TO.cat;exact rfl;exact rfl;exact rfl;(first|omega|(simp only[List.length_append,List.length_cons,List.length_nil];omega)))|exact trivial|exact⟨⟨rfl,rfl⟩,trivial⟩|refine And.intro (fun env=>?_) ?_|refine wk ?_|exact wkc|intro hc|refine wk2 ?_ ?_|fail)
     done
    ·repeat' (first|refine wu ?_|exact wkc|intro hc|refine wk2 ?_ ?_|fail)
     exact LoopK.nextN hlt trivial (by(try dsimp only);rw[hst];exact⟨rfl,rfl,rfl,rfl,trivial⟩) rfl
   ·repeat' (first|refine wu ?_|exact wkc|intro hc|refine wk2 ?_ ?_|fail)
    exact wkr
  ·have hbr:∀i:Nat,brV t.1 i=i:=fun i=>if_neg ht
   refine so Tryz.func39 ?_
   repeat' (first|refine wkt ?_|(apply TO.cat;exact rfl;exact rfl;exact rfl;(first|omega|(simp only[List.length_append,List.length_cons,List.length_nil];omega)))|exact wkc|intro hc|refine wk2 ?_ ?_|fail)
   refine TR.loopN args.length (fun _=>True) (fun j=>[(0,.t (ensT es)),(3,.cp [T.i 9,T.n o,T.n t,T.n v,.s nm,.sl 6 (args.map exT)] 0),(5,.s (mergeA es f t.1 args ([109,101,114,103,101,32]++nm) j)),(6,.i j)]) (fun j=>[]) trivial (fun j hlt _=>?_) (fun _=>?_)
   ·have hlt2:((j:Int)).toNat<args.length:=by omega
    have hx:=at_exT hlt2
    have hs:=hf _ (List.getElem_mem hlt2)
    have hgl:=hl _ (List.getElem_mem hlt2)
    have hal:=mergeA_len h (fun x hx=>Nat.le_trans (hl x hx) (by decide)) t ([109,101,114,103,101,32]++nm) j (by omega)
    have hval:Pure Tryz.prog 75 [.t (ensT es),.n t,.i ((j:Int))] (.s (valS es t.1 ((j:Int)))):=valR_sound h t ⟨(j:Int),by omega⟩
    have hzl:(valS es t.1 ((j:Int))).length≤3000030:=valS_len h t ⟨(j:Int),by omega⟩
    have hst:mergeA es f t.1 args ([109,101,114,103,101,32]++nm) (j+1)=mergeA es f t.1 args ([109,101,114,103,101,32]++nm) j++[32,40]++valS es t.1 ((j:Int))++[32,45,62,32]++f args[((j:Int)).toNat]++[41]:=by
     rw[mergeA,hbr,List.getElem?_eq_getElem hlt2]
     simp only[Option.map_some,Option.getD_some,List.append_assoc]
    have hac:(mergeA es f t.1 args ([109,101,114,103,101,32]++nm) j).length≤10000000000000000:=by
     have:j*100000003000040≤64*100000003000040:=Nat.mul_le_mul_right _ (by omega)
     simp only[List.length_append,List.length_cons,List.length_nil]at hal
     omega
    clear hal
    generalize valS es t.1 ((j:Int))=z at*
    generalize mergeA es f t.1 args ([109,101,114,103,101,32]++nm) j=acc at*
    generalize args[((j:Int)).toNat]=x at*
    unfold RfC at hs
    generalize f x=g at*
    obtain⟨k',o',t',v',n',l'⟩:=x
    rw[exC_eq]at hx hs
    generalize l'.map exT=la at*
    repeat' (first|refine wkt ?_|(apply TO.sub64;exact rfl;exact rfl;exact rfl;omega;omega)|exact wkc|intro hc|refine wk2 ?_ ?_|fail)
    refine rgW [5] [.s acc,.s (acc++[32,40]),.t (ensT es),.cp [T.i 9,T.n o,T.n t,T.n v,.s nm,.sl 6 (args.map exT)] 2,.n t,.i ((j:Int)),.s z,.s (acc++[32,40]++z),.s (acc++[32,40]++z++[32,45,62,32]),.t (ensT es),.cp [T.i 9,T.n o,T.n t,T.n v,.s nm,.sl 6 (args.map exT)] 5,.t (.sl 6 (args.map exT)),.i ((j:Int)),.cp [T.n k',T.n o',T.n t',T.n v',.s n',.sl 6 la] 0,.t (.ag [T.n k',T.n o',T.n t',T.n v',.s n',.sl 6 la]),.s g,.s (acc++[32,40]++z++[32,45,62,32]++g),.s (acc++[32,40]++z++[32,45,62,32]++g++[41]),.s (acc++[32,40]++z++[32,45,62,32]++g++[41])] ?_ ?_
    ·repeat' (first|refine wkt ?_|refine wv hs ?_|refine wv hval ?_|(apply TO.indexAddr tabOk;(iterate 8 exact rfl);omega;exact hx)|(apply TO.cat;exact rfl;exact rfl;exact rfl;(first|omega|(simp only[List.length_append,List.length_cons,List.length_nil];omega)))|exact trivial|exact⟨⟨rfl,rfl⟩,trivial⟩|refine And.intro (fun env=>?_) ?_|refine wk ?_|exact wkc|intro hc|refine wk2 ?_ ?_|fail)
     done
    ·repeat' (first|refine wu ?_|exact wkc|intro hc|refine wk2 ?_ ?_|fail)
     exact LoopK.nextN hlt trivial (by(try dsimp only);rw[hst];exact⟨rfl,rfl,rfl,rfl,trivial⟩) rfl
   ·repeat' (first|refine wu ?_|exact wkc|intro hc|refine wk2 ?_ ?_|fail)
    exact wkr
 ·refine hsh (callA f v.1 nm args) rfl ?_
  have hs:=hca rfl
  unfold RfC at hs
  rw[exC_eq]at hs
  generalize callA f v.1 nm args=z at*
  generalize args.map exT=la at*
  clear hop hca hf hg hl hgl hva
  refine so Tryz.func39 ?_
  repeat' (first|refine wkt ?_|refine wv hs ?_|(apply TO.indexAddr tabOk;(iterate 8 exact rfl);decide;exact rfl)|exact wkc|intro hc|refine wk2 ?_ ?_|refine wk ?_|fail)
  exact wkr
 ·refine hsh ([39]++nm++[39]) rfl ?_
  generalize args.map exT=la at*
  clear hop hca hf hg hl hgl hva
  refine so Tryz.func39 ?_
  repeat' (first|refine wkt ?_|(apply TO.cat;exact rfl;exact rfl;exact rfl;(first|omega|(simp only[List.length_append,List.length_cons,List.length_nil];omega)))|(apply TO.indexAddr tabOk;(iterate 8 exact rfl);decide;exact rfl)|exact wkc|intro hc|refine wk2 ?_ ?_|refine wk ?_|fail)
  exact wkr
theorem textF_sound{es:List En}(h:ShE es):∀(m:Nat) (e:Ex),ShOk e->wEx e≤m->m≤80000->RfC 39 es e (shF es m e)
 | 0,e,_,hm,_=>by have:=wEx_pos e;omega
 | m+1,e,he,hm,hb=>by
   rw[shF]
   refine textStep h he.self (fun x hx=>textF_sound h m x (he.arg hx) (by have:=wEx_arg hx;omega) (by omega)) fun x hx=>?_
   have h1:=shF_len h m x (he.arg hx)
   have h2:wEx x≤80000:=by have:=wEx_arg hx;omega
   have h3:wEx x*12000100≤80000*12000100:=Nat.mul_le_mul_right _ h2
   omega
set_option maxHeartbeats 4000000 in
theorem exprPR_sound {es:List En} (h:ShE es) (e:Ex) (hw:wEx e≤1000000000) (hn:∀x∈flat e,x.name.length≤3000000):Pure Tryz.prog 14 [.t (ensT es),.t (.ag (exC e))] (.tup [.s (showE es e).1,.i (showE es e).2]):=by
 have hx:=exprR_sound es e hw
 rw[exT_eq]at hx
 have he:exC e=[T.n e.kind,T.n e.op,T.n e.t,T.n e.v,.s e.name,.sl 6 (e.args.map exT)]:=rfl
 unfold showE
 by_cases hz:exprX es e=0
 ·rw[if_pos hz]
  obtain⟨g1,g2⟩:=shOk_of hz hn
  have hs:=textF_sound h 400 e g1 g2 (by decide)
  unfold RfC at hs
  rw[hz]at hx
  generalize shF es 400 e=z at*
  rw[he]at*
  refine so Tryz.func14 ?_
  repeat' (first|refine wu ?_|exact wkc|intro hc|refine wk2 ?_ ?_|refine wv hx ?_|refine wv hs ?_|fail)
  exact wkr
 ·rw[if_neg hz]
  generalize exprX es e=c at*
  rw[he]at*
  refine so Tryz.func14 ?_
  repeat' (first|refine wu ?_|exact wkc|intro hc|refine wk2 ?_ ?_|refine wv hx ?_|fail)
  exact wkr
abbrev lnT:TypeId:=72
abbrev ln0 (es:List En)(l:Str):Heap:=[symB,.cells [.t (ensT es),.mp 0,.t (.v (.pointer none)),.rw 2 l.length],.row 5 (bytesSV l)]
abbrev ln1 (es:List En)(l:Str):Heap:=[symB,.cells [.t (ensT es),.mp 0,.tref lnT 4 1 2,.rw 2 l.length],.row 5 (bytesSV l)]
set_option maxHeartbeats 4000000 in
theorem lnCheck0_sound (es:List En) (l:Str):Sound Tryz.prog 88 [.tref lnT 4 1 2] (ln0 es l) (fun r H'=>r= .ret (.tup [])/\H'=ln1 es l):=by
 refine so Tryz.func88 ?_
 repeat' (first
  | (apply TO.move;exact rfl;exact rfl)
  | (apply TO.assign;exact rfl;exact rfl)
  | (apply TO.want;exact rfl)
  | (apply TO.add;exact rfl;exact rfl;exact rfl;omega;omega)
  | (apply TO.cat;exact rfl;exact rfl;exact rfl;(first|omega|(simp only[List.length_append,List.length_cons,List.length_nil];omega)))
  | (apply TO.eqs;exact rfl;exact rfl;exact rfl)
  | (apply TO.nes;exact rfl;exact rfl;exact rfl)
  | (apply TO.cmp;exact rfl;exact rfl;exact rfl;exact rfl)
  | (intro hc;exact absurd hc (by decide))
  | (intro hc;exfalso;simp only[decide_eq_true_eq,decide_eq_false_iff_not,beq_iff_eq,beq_eq_false_iff_ne,bne_iff_ne,bne_eq_false_iff_eq,ne_eq,Decidable.not_not,not_true_eq_false]at hc;done)
  | (intro hc;exfalso;(first|simp only[decide_eq_true_eq,decide_eq_false_iff_not,beq_iff_eq,beq_eq_false_iff_ne,bne_iff_ne,bne_eq_false_iff_eq,ne_eq,Decidable.not_not,not_true_eq_false]at hc|skip);first|omega|(simp only[List.length_nil,List.length_cons]at *;omega))
  | intro hc
  | (apply TO.pick;exact rfl;exact rfl;exact rfl)
  | (apply TO.pass;exact rfl;exact rfl)
  | (apply TO.pass0;exact rfl)
  | (apply TO.load tabOk;exact rfl;exact rfl;exact rfl;exact rfl;exact rfl)
  | (apply TO.load_ref tabOk;exact rfl;exact rfl;exact rfl;exact rfl;exact rfl;exact rfl)
  | (apply TO.fieldAddr tabOk;exact rfl;exact rfl;exact rfl;exact rfl;exact rfl;decide;exact rfl)
  | (apply TO.fieldAddr_ref tabOk;exact rfl;exact rfl;exact rfl;exact rfl;exact rfl;decide;exact rfl)
  | (apply TO.nilCheck;exact rfl;exact rfl;exact rfl)
  | (apply TO.index_nat tabOk;exact rfl;exact rfl;exact rfl;exact rfl;exact rfl;assumption)
  | (apply TO.index_str tabOk;exact rfl;exact rfl;exact rfl;exact rfl;exact rfl;decide;exact rfl)
  | (apply TO.len_str tabOk;exact rfl;exact rfl;exact rfl;exact rfl)
  | (apply TO.len_sl tabOk;exact rfl;exact rfl;exact rfl;exact rfl;exact rfl;exact rfl;exact rfl)
  | (apply TO.elem_nat tabOk;exact rfl;exact rfl;exact rfl;exact rfl;exact rfl;exact rfl;exact rfl;exact rfl;assumption;exact rfl)
  | (apply TO.extract;exact rfl;exact rfl;exact rfl)
  | (apply TO.toUnsafe tabOk;exact rfl;exact rfl;exact rfl;exact rfl;decide;kernel_rfl;exact rfl;exact rfl)
  | (apply TO.fromUnsafe tabOk;exact rfl;exact rfl;exact rfl;exact rfl;kernel_rfl;exact rfl;kernel_rfl)
  | (apply TO.extern_same;exact rfl;exact Tryz.func118;kernel_rfl;kernel_rfl;kernel_rfl;kernel_rfl;exact rfl)
  | refine TO.nil ?_
  | refine TR.seq ?_
  | refine TR.region ?_
  | (apply TR.condT;exact rfl)
  | (apply TR.condF;exact rfl)
  | refine Then.normal ?_
  | refine TR.block ?_
  | refine TR.skip ?_
  | (apply TR.regionQ hmix;kernel_rfl;exact rfl)
  | refine TR.exit ?_
  | refine TR.ret ?_
  | refine Then.exit ?_
  | refine Then.ret ?_
  | refine LoopK.exit ?_
  | refine LoopK.ret ?_
  | refine InBlock.normal ?_
  | refine InBlock.ret ?_
  | (apply InBlock.same;exact rfl)
  | (apply InBlock.other;exact rfl)
  | (apply TO.sub64;exact rfl;exact rfl;exact rfl;omega;omega)
  | (apply TO.mul64;exact rfl;exact rfl;exact rfl;omega;omega)
  | (apply TO.convert_u8;exact rfl;kernel_rfl;kernel_rfl;exact rfl)
  | (apply TO.bin;exact rfl;exact rfl;exact rfl;exact rfl)
  | (apply TO.slice2 tabOk;exact rfl;exact rfl;exact rfl;exact rfl;exact rfl;exact rfl;omega;omega)
  | (apply TO.slice_lo tabOk;exact rfl;exact rfl;exact rfl;exact rfl;exact rfl;omega)
  | (apply TO.slice_hi tabOk;exact rfl;exact rfl;exact rfl;exact rfl;exact rfl;omega)
  | (apply TO.not;exact rfl;exact rfl)
  | (apply TO.nilCheck_fn;exact rfl;exact rfl)
  | (apply TO.load_agg tabOk;exact rfl;exact rfl;exact rfl;exact rfl;exact Nat.le_of_ble_eq_true rfl)
  | (apply TO.load_ref_agg tabOk;exact rfl;exact rfl;exact rfl;exact rfl;exact rfl;exact Nat.le_of_ble_eq_true rfl)
  | (apply TO.len_ms tabOk;exact rfl;exact rfl;exact rfl;exact rfl)
  | (apply TO.buildT tabOk;exact rfl;exact rfl;exact rfl;exact rfl;exact rfl;exact rfl;exact rfl)
  | (apply TO.build tabOk;exact rfl;exact rfl;exact rfl;exact rfl;exact rfl;exact rfl)
  | (apply TO.box;exact rfl;exact rfl;exact rfl;exact rfl)
  | (apply TO.alloc tabOk;exact rfl;exact rfl;exact rfl)
  | (apply TO.store tabOk;exact rfl;exact rfl;exact rfl;exact rfl;exact rfl;exact rfl;exact Nat.le_of_ble_eq_true rfl;exact rfl;exact Nat.le_of_ble_eq_true rfl;exact rfl)
  | (apply TO.buildSliceB tabOk;exact rfl;exact rfl;exact rfl;exact rfl;exact rfl;exact rfl;exact rfl;exact rfl;exact rfl;exact rfl)
  | (apply TO.appendB tabOk;exact rfl;exact rfl;exact rfl;exact rfl;exact rfl;exact rfl;exact rfl;exact rfl;exact rfl;exact rfl;exact rfl;exact rfl;exact rfl;(first|omega|(simp only[List.length_append,List.length_cons,List.length_nil];omega));exact rfl)
  | (apply TO.eqb;exact rfl;exact rfl;exact rfl;kernel_rfl)
  | (apply TO.neb;exact rfl;exact rfl;exact rfl;kernel_rfl)
  | (apply TO.elem_nat (j:=0) tabOk;exact rfl;exact rfl;exact rfl;exact rfl;exact rfl;exact rfl;exact rfl;exact rfl;exact rfl;exact rfl)
  | (apply TO.makeFunc;exact rfl;exact rfl)
  | (apply TO.fieldAddr_tref tabOk;exact rfl;exact rfl;exact rfl;exact rfl;exact rfl;decide;exact rfl)
  | (apply TO.eq_nil_ptr tabOk;exact rfl;exact rfl;exact rfl;exact rfl;exact rfl)
  | (apply TO.eq_nil_nil tabOk;exact rfl;exact rfl;exact rfl;exact rfl)
  | (apply TO.ne_nil_ptr tabOk;exact rfl;exact rfl;exact rfl;exact rfl;exact rfl)
  | (apply TO.ne_nil_nil tabOk;exact rfl;exact rfl;exact rfl;exact rfl)
  | (apply TO.ssl2 tabOk;exact rfl;exact rfl;exact rfl;exact rfl;exact rfl;exact rfl;exact rfl;exact rfl;exact rfl;omega;omega)
  | (apply TO.ssl_lo tabOk;exact rfl;exact rfl;exact rfl;exact rfl;exact rfl;exact rfl;exact rfl;exact rfl;omega)
  | (apply TO.ssl_hi tabOk;exact rfl;exact rfl;exact rfl;exact rfl;exact rfl;exact rfl;exact rfl;exact rfl;omega))
 all_goals exact RetK.keepN 3 rfl (Le.refl _) rfl rfl rfl rfl rfl ⟨rfl,rfl⟩
set_option maxHeartbeats 4000000 in
theorem lnCheck1_sound (es:List En) (l:Str):Sound Tryz.prog 88 [.tref lnT 4 1 2] (ln1 es l) (fun r H'=>r= .ret (.tup [])/\H'=ln1 es l):=by
 refine so Tryz.func88 ?_
 repeat' (first
  | (apply TO.move;exact rfl;exact rfl)
  | (apply TO.assign;exact rfl;exact rfl)
  | (apply TO.want;exact rfl)
  | (apply TO.add;exact rfl;exact rfl;exact rfl;omega;omega)
  | (apply TO.cat;exact rfl;exact rfl;exact rfl;(first|omega|(simp only[List.length_append,List.length_cons,List.length_nil];omega)))
  | (apply TO.eqs;exact rfl;exact rfl;exact rfl)
  | (apply TO.nes;exact rfl;exact rfl;exact rfl)
  | (apply TO.cmp;exact rfl;exact rfl;exact rfl;exact rfl)
  | (intro hc;exact absurd hc (by decide))
  | (intro hc;exfalso;simp only[decide_eq_true_eq,decide_eq_false_iff_not,beq_iff_eq,beq_eq_false_iff_ne,bne_iff_ne,bne_eq_false_iff_eq,ne_eq,Decidable.not_not,not_true_eq_false]at hc;done)
  | (intro hc;exfalso;(first|simp only[decide_eq_true_eq,decide_eq_false_iff_not,beq_iff_eq,beq_eq_false_iff_ne,bne_iff_ne,bne_eq_false_iff_eq,ne_eq,Decidable.not_not,not_true_eq_false]at hc|skip);first|omega|(simp only[List.length_nil,List.length_cons]at *;omega))
  | intro hc
  | (apply TO.pick;exact rfl;exact rfl;exact rfl)
  | (apply TO.pass;exact rfl;exact rfl)
  | (apply TO.pass0;exact rfl)
  | (apply TO.load tabOk;exact rfl;exact rfl;exact rfl;exact rfl;exact rfl)
  | (apply TO.load_ref tabOk;exact rfl;exact rfl;exact rfl;exact rfl;exact rfl;exact rfl)
  | (apply TO.fieldAddr tabOk;exact rfl;exact rfl;exact rfl;exact rfl;exact rfl;decide;exact rfl)
  | (apply TO.fieldAddr_ref tabOk;exact rfl;exact rfl;exact rfl;exact rfl;exact rfl;decide;exact rfl)
  | (apply TO.nilCheck;exact rfl;exact rfl;exact rfl)
  | (apply TO.index_nat tabOk;exact rfl;exact rfl;exact rfl;exact rfl;exact rfl;assumption)
  | (apply TO.index_str tabOk;exact rfl;exact rfl;exact rfl;exact rfl;exact rfl;decide;exact rfl)
  | (apply TO.len_str tabOk;exact rfl;exact rfl;exact rfl;exact rfl)
  | (apply TO.len_sl tabOk;exact rfl;exact rfl;exact rfl;exact rfl;exact rfl;exact rfl;exact rfl)
  | (apply TO.elem_nat tabOk;exact rfl;exact rfl;exact rfl;exact rfl;exact rfl;exact rfl;exact rfl;exact rfl;assumption;exact rfl)
  | (apply TO.extract;exact rfl;exact rfl;exact rfl)
  | (apply TO.ne_ptr_same tabOk;exact rfl;exact rfl;exact rfl;exact rfl;exact rfl;exact rfl;exact Le.tref _ _ _ _;exact Le.tref _ _ _ _)
  | refine TO.nil ?_
  | refine TR.seq ?_
  | refine TR.region ?_
  | (apply TR.condT;exact rfl)
  | (apply TR.condF;exact rfl)
  | refine Then.normal ?_
  | refine TR.block ?_
  | refine TR.skip ?_
  | (apply TR.regionQ hmix;kernel_rfl;exact rfl)
  | refine TR.exit ?_
  | refine TR.ret ?_
  | refine Then.exit ?_
  | refine Then.ret ?_
  | refine LoopK.exit ?_
  | refine LoopK.ret ?_
  | refine InBlock.normal ?_
  | refine InBlock.ret ?_
  | (apply InBlock.same;exact rfl)
  | (apply InBlock.other;exact rfl)
  | (apply TO.sub64;exact rfl;exact rfl;exact rfl;omega;omega)
  | (apply TO.mul64;exact rfl;exact rfl;exact rfl;omega;omega)
  | (apply TO.convert_u8;exact rfl;kernel_rfl;kernel_rfl;exact rfl)
  | (apply TO.bin;exact rfl;exact rfl;exact rfl;exact rfl)
  | (apply TO.slice2 tabOk;exact rfl;exact rfl;exact rfl;exact rfl;exact rfl;exact rfl;omega;omega)
  | (apply TO.slice_lo tabOk;exact rfl;exact rfl;exact rfl;exact rfl;exact rfl;omega)
  | (apply TO.slice_hi tabOk;exact rfl;exact rfl;exact rfl;exact rfl;exact rfl;omega)
  | (apply TO.not;exact rfl;exact rfl)
  | (apply TO.nilCheck_fn;exact rfl;exact rfl)
  | (apply TO.load_agg tabOk;exact rfl;exact rfl;exact rfl;exact rfl;exact Nat.le_of_ble_eq_true rfl)
  | (apply TO.load_ref_agg tabOk;exact rfl;exact rfl;exact rfl;exact rfl;exact rfl;exact Nat.le_of_ble_eq_true rfl)
  | (apply TO.len_ms tabOk;exact rfl;exact rfl;exact rfl;exact rfl)
  | (apply TO.buildT tabOk;exact rfl;exact rfl;exact rfl;exact rfl;exact rfl;exact rfl;exact rfl)
  | (apply TO.build tabOk;exact rfl;exact rfl;exact rfl;exact rfl;exact rfl;exact rfl)
  | (apply TO.box;exact rfl;exact rfl;exact rfl;exact rfl)
  | (apply TO.alloc tabOk;exact rfl;exact rfl;exact rfl)
  | (apply TO.store tabOk;exact rfl;exact rfl;exact rfl;exact rfl;exact rfl;exact rfl;exact Nat.le_of_ble_eq_true rfl;exact rfl;exact Nat.le_of_ble_eq_true rfl;exact rfl)
  | (apply TO.buildSliceB tabOk;exact rfl;exact rfl;exact rfl;exact rfl;exact rfl;exact rfl;exact rfl;exact rfl;exact rfl;exact rfl)
  | (apply TO.appendB tabOk;exact rfl;exact rfl;exact rfl;exact rfl;exact rfl;exact rfl;exact rfl;exact rfl;exact rfl;exact rfl;exact rfl;exact rfl;exact rfl;(first|omega|(simp only[List.length_append,List.length_cons,List.length_nil];omega));exact rfl)
  | (apply TO.eqb;exact rfl;exact rfl;exact rfl;kernel_rfl)
  | (apply TO.neb;exact rfl;exact rfl;exact rfl;kernel_rfl)
  | (apply TO.elem_nat (j:=0) tabOk;exact rfl;exact rfl;exact rfl;exact rfl;exact rfl;exact rfl;exact rfl;exact rfl;exact rfl;exact rfl)
  | (apply TO.makeFunc;exact rfl;exact rfl)
  | (apply TO.fieldAddr_tref tabOk;exact rfl;exact rfl;exact rfl;exact rfl;exact rfl;decide;exact rfl)
  | (apply TO.eq_nil_ptr tabOk;exact rfl;exact rfl;exact rfl;exact rfl;exact rfl)
  | (apply TO.eq_nil_nil tabOk;exact rfl;exact rfl;exact rfl;exact rfl)
  | (apply TO.ne_nil_ptr tabOk;exact rfl;exact rfl;exact rfl;exact rfl;exact rfl)
  | (apply TO.ne_nil_nil tabOk;exact rfl;exact rfl;exact rfl;exact rfl)
  | (apply TO.ssl2 tabOk;exact rfl;exact rfl;exact rfl;exact rfl;exact rfl;exact rfl;exact rfl;exact rfl;exact rfl;omega;omega)
  | (apply TO.ssl_lo tabOk;exact rfl;exact rfl;exact rfl;exact rfl;exact rfl;exact rfl;exact rfl;exact rfl;omega)
  | (apply TO.ssl_hi tabOk;exact rfl;exact rfl;exact rfl;exact rfl;exact rfl;exact rfl;exact rfl;exact rfl;omega))
 all_goals exact RetK.keepN 3 rfl (Le.refl _) rfl rfl rfl rfl rfl ⟨rfl,rfl⟩
def lnH(a:Bool)(es:List En)(l:Str):Heap:=bif a then ln1 es l else ln0 es l
theorem lnCheck_sound(a:Bool)(es:List En)(l:Str):Sound Tryz.prog 88 [.tref lnT 4 1 2] (lnH a es l) (fun r H'=>r= .ret (.tup [])/\H'=ln1 es l):=by
 cases a
 ·exact lnCheck0_sound es l
 ·exact lnCheck1_sound es l
set_option maxHeartbeats 4000000 in
theorem lnWrite_sound (a:Bool) (es:List En) (l s:Str) (hl:l.length+s.length≤1000000000):Sound Tryz.prog 52 [.tref lnT 4 1 2,.s s] (lnH a es l) (fun r H'=>r= .ret (.tup [.i s.length,.t (.v .nilIface)])/\H'=ln1 es (l++s)):=by
 have hC:=lnCheck_sound a es l
 cases a
 all_goals
  refine so Tryz.func52 ?_
  repeat' (first
   | (apply TO.move;exact rfl;exact rfl)
   | (apply TO.assign;exact rfl;exact rfl)
   | (apply TO.want;exact rfl)
   | (apply TO.add;exact rfl;exact rfl;exact rfl;omega;omega)
   | (apply TO.cat;exact rfl;exact rfl;exact rfl;(first|omega|(simp only[List.length_append,List.length_cons,List.length_nil];omega)))
   | (apply TO.eqs;exact rfl;exact rfl;exact rfl)
   | (apply TO.nes;exact rfl;exact rfl;exact rfl)
   | (apply TO.cmp;exact rfl;exact rfl;exact rfl;exact rfl)
   | (intro hc;exact absurd hc (by decide))
   | (intro hc;exfalso;simp only[decide_eq_true_eq,decide_eq_false_iff_not,beq_iff_eq,beq_eq_false_iff_ne,bne_iff_ne,bne_eq_false_iff_eq,ne_eq,Decidable.not_not,not_true_eq_false]at hc;done)
   | (intro hc;exfalso;(first|simp only[decide_eq_true_eq,decide_eq_false_iff_not,beq_iff_eq,beq_eq_false_iff_ne,bne_iff_ne,bne_eq_false_iff_eq,ne_eq,Decidable.not_not,not_true_eq_false]at hc|skip);first|omega|(simp only[List.length_nil,List.length_cons]at *;omega))
   | intro hc
   | (apply TO.pick;exact rfl;exact rfl;exact rfl)
   | (apply TO.pass;exact rfl;exact rfl)
   | (apply TO.pass0;exact rfl)
   | (apply TO.load tabOk;exact rfl;exact rfl;exact rfl;exact rfl;exact rfl)
   | (apply TO.load_ref tabOk;exact rfl;exact rfl;exact rfl;exact rfl;exact rfl;exact rfl)
   | (apply TO.fieldAddr tabOk;exact rfl;exact rfl;exact rfl;exact rfl;exact rfl;decide;exact rfl)
   | (apply TO.fieldAddr_ref tabOk;exact rfl;exact rfl;exact rfl;exact rfl;exact rfl;decide;exact rfl)
   | (apply TO.nilCheck;exact rfl;exact rfl;exact rfl)
   | (apply TO.index_nat tabOk;exact rfl;exact rfl;exact rfl;exact rfl;exact rfl;assumption)
   | (apply TO.index_str tabOk;exact rfl;exact rfl;exact rfl;exact rfl;exact rfl;decide;exact rfl)
   | (apply TO.len_str tabOk;exact rfl;exact rfl;exact rfl;exact rfl)
   | (apply TO.len_sl tabOk;exact rfl;exact rfl;exact rfl;exact rfl;exact rfl;exact rfl;exact rfl)
   | (apply TO.elem_nat tabOk;exact rfl;exact rfl;exact rfl;exact rfl;exact rfl;exact rfl;exact rfl;exact rfl;assumption;exact rfl)
   | (apply TO.extract;exact rfl;exact rfl;exact rfl)
   | (apply TO.callD 3 (v:=.tup []) (Hc1:=ln1 es l) hC;exact rfl;exact rfl;exact rfl;exact⟨Le.refl _,trivial⟩;exact rfl;exact rfl;exact rfl;exact rfl;exact rfl;exact rfl;exact rfl;exact rfl)
   | (apply TO.append_str tabOk;exact rfl;exact rfl;exact rfl;exact rfl;exact rfl;exact rfl;exact rfl;exact rfl;exact rfl;exact rfl;exact rfl;exact rfl;omega;exact rfl)
   | refine TO.nil ?_
   | refine TR.seq ?_
   | refine TR.region ?_
   | (apply TR.condT;exact rfl)
   | (apply TR.condF;exact rfl)
   | refine Then.normal ?_
   | refine TR.block ?_
   | refine TR.skip ?_
   | (apply TR.regionQ hmix;kernel_rfl;exact rfl)
   | refine TR.exit ?_
   | refine TR.ret ?_
   | refine Then.exit ?_
   | refine Then.ret ?_
   | refine LoopK.exit ?_
   | refine LoopK.ret ?_
   | refine InBlock.normal ?_
   | refine InBlock.ret ?_
   | (apply InBlock.same;exact rfl)
   | (apply InBlock.other;exact rfl)
   | (apply TO.sub64;exact rfl;exact rfl;exact rfl;omega;omega)
   | (apply TO.mul64;exact rfl;exact rfl;exact rfl;omega;omega)
   | (apply TO.convert_u8;exact rfl;kernel_rfl;kernel_rfl;exact rfl)
   | (apply TO.bin;exact rfl;exact rfl;exact rfl;exact rfl)
   | (apply TO.slice2 tabOk;exact rfl;exact rfl;exact rfl;exact rfl;exact rfl;exact rfl;omega;omega)
   | (apply TO.slice_lo tabOk;exact rfl;exact rfl;exact rfl;exact rfl;exact rfl;omega)
   | (apply TO.slice_hi tabOk;exact rfl;exact rfl;exact rfl;exact rfl;exact rfl;omega)
   | (apply TO.not;exact rfl;exact rfl)
   | (apply TO.nilCheck_fn;exact rfl;exact rfl)
   | (apply TO.load_agg tabOk;exact rfl;exact rfl;exact rfl;exact rfl;exact Nat.le_of_ble_eq_true rfl)
   | (apply TO.load_ref_agg tabOk;exact rfl;exact rfl;exact rfl;exact rfl;exact rfl;exact Nat.le_of_ble_eq_true rfl)
   | (apply TO.len_ms tabOk;exact rfl;exact rfl;exact rfl;exact rfl)
   | (apply TO.buildT tabOk;exact rfl;exact rfl;exact rfl;exact rfl;exact rfl;exact rfl;exact rfl)
   | (apply TO.build tabOk;exact rfl;exact rfl;exact rfl;exact rfl;exact rfl;exact rfl)
   | (apply TO.box;exact rfl;exact rfl;exact rfl;exact rfl)
   | (apply TO.alloc tabOk;exact rfl;exact rfl;exact rfl)
   | (apply TO.store tabOk;exact rfl;exact rfl;exact rfl;exact rfl;exact rfl;exact rfl;exact Nat.le_of_ble_eq_true rfl;exact rfl;exact Nat.le_of_ble_eq_true rfl;exact rfl)
   | (apply TO.buildSliceB tabOk;exact rfl;exact rfl;exact rfl;exact rfl;exact rfl;exact rfl;exact rfl;exact rfl;exact rfl;exact rfl)
   | (apply TO.appendB tabOk;exact rfl;exact rfl;exact rfl;exact rfl;exact rfl;exact rfl;exact rfl;exact rfl;exact rfl;exact rfl;exact rfl;exact rfl;exact rfl;(first|omega|(simp only[List.length_append,List.length_cons,List.length_nil];omega));exact rfl)
   | (apply TO.eqb;exact rfl;exact rfl;exact rfl;kernel_rfl)
   | (apply TO.neb;exact rfl;exact rfl;exact rfl;kernel_rfl)
   | (apply TO.elem_nat (j:=0) tabOk;exact rfl;exact rfl;exact rfl;exact rfl;exact rfl;exact rfl;exact rfl;exact rfl;exact rfl;exact rfl)
   | (apply TO.makeFunc;exact rfl;exact rfl)
   | (apply TO.fieldAddr_tref tabOk;exact rfl;exact rfl;exact rfl;exact rfl;exact rfl;decide;exact rfl)
   | (apply TO.eq_nil_ptr tabOk;exact rfl;exact rfl;exact rfl;exact rfl;exact rfl)
   | (apply TO.eq_nil_nil tabOk;exact rfl;exact rfl;exact rfl;exact rfl)
   | (apply TO.ne_nil_ptr tabOk;exact rfl;exact rfl;exact rfl;exact rfl;exact rfl)
   | (apply TO.ne_nil_nil tabOk;exact rfl;exact rfl;exact rfl;exact rfl)
   | (apply TO.ssl2 tabOk;exact rfl;exact rfl;exact rfl;exact rfl;exact rfl;exact rfl;exact rfl;exact rfl;exact rfl;omega;omega)
   | (apply TO.ssl_lo tabOk;exact rfl;exact rfl;exact rfl;exact rfl;exact rfl;exact rfl;exact rfl;exact rfl;omega)
   | (apply TO.ssl_hi tabOk;exact rfl;exact rfl;exact rfl;exact rfl;exact rfl;exact rfl;exact rfl;exact rfl;omega))
  exact RetK.keep 3 rfl (Le.refl _) rfl rfl rfl rfl rfl ⟨rfl,rfl⟩
end Go.Proofs.YtjgmcnemcembmaaGreatDoor
