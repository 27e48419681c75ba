import Derived.Test.YtjgmcnemcembmaaGreatDoorPk19
import Derived.Test.YtjgmcnemcembmaaGreatDoorPk24
set_option linter.unusedSimpArgs false
set_option linter.unusedVariables false
namespace Go.Proofs.YtjgmcnemcembmaaGreatDoor
open Go Go.TL
attribute [local irreducible] TR TO Then InBlock RetK Sound LoopK Kf GG ThenL
set_option maxHeartbeats 16000000 in
theorem exprStep {es:List En} {f:Ex->Str} {e:Ex} (h:ShE es) (hA:ShA e) (hf:∀x∈e.args,ShC 37 es x (f x)) (hl:∀x∈e.args,(f x).length≤1000000000000):
  ShC 37 es e (shE es f e):=by
 have hop:=fun h3=>operator_sound hA h3 hf fun x hx=>Nat.le_trans (hl x hx) (by decide)
 have hme:=fun h9=>merge_sound h hA h9 hf fun x hx=>Nat.le_trans (hl x hx) (by decide)
 have hca:=fun h10=>callW_sound hA h10 hf hl
 have hva:=valueW_sound h e.t e.v
 have hsm:=sampling_sound h ⟨e.name,e.t,e.v⟩ hA.name
 have hsl:=smpS_len h ⟨e.name,e.t,e.v⟩ hA.name
 have hg:∀x∈e.args,ShC 69 es x (grS f x):=fun x hx=>operand_sound (hf x hx) (Nat.le_trans (hl x hx) (by decide))
 have hgl:∀x∈e.args,(grS f x).length≤1000000000002:=fun x hx=>Nat.le_trans (grS_len f x) (by have:=hl x hx;omega)
 have hnm:=hA.name
 have hk:=hA.kind
 have h4:=hA.k4
 have h5:=hA.k5
 have h6:=hA.k6
 clear hA
 obtain⟨⟨k,kk1,kk2⟩,o,t,v,nm,args⟩:=e
 dsimp only[Ex.kind,Ex.op,Ex.t,Ex.v,Ex.args,Ex.name]at*
 have hsh:∀s,shE es f (.mk ⟨k,kk1,kk2⟩ o t v nm args)=s->Sound Tryz.prog 37 [wr es,.t (.ag [T.i k,T.n o,T.n t,T.n v,.s nm,.sl 6 (args.map exT)])] [symB] (fun r H'=>r= .ret (.s s)/\H'=[symB])->ShC 37 es (.mk ⟨k,kk1,kk2⟩ o t v nm args) (shE es f (.mk ⟨k,kk1,kk2⟩ o t v nm args)):=fun s hs hq=>by
  rw[hs]
  exact hq
 rcases(by omega:k=1\/k=2\/k=3\/k=4\/k=5\/k=6\/k=7\/k=8\/k=9\/k=10\/k=11)with rfl|rfl|rfl|rfl|rfl|rfl|rfl|rfl|rfl|rfl|rfl
 ·refine hsh (valS es t.1 v.1) rfl ?_
  generalize valS es t.1 v.1=z at*
  generalize args.map exT=la at*
  clear hop hme hca hf hg hsm
  refine so Tryz.func37 ?_
  refine wkt ?_
  (apply TO.box;exact rfl;exact rfl;exact rfl;exact rfl)
  repeat' (first|refine wkt ?_|refine wd hva ?_|exact wkc|intro hc|refine wk2 ?_ ?_|refine wk ?_|fail)
  exact RetK.keep 1 rfl (Le.refl _) rfl rfl rfl rfl rfl ⟨rfl,rfl⟩
 ·refine hsh (nm) rfl ?_
  generalize args.map exT=la at*
  clear hop hme hca hf hg hsm hva
  refine so Tryz.func37 ?_
  refine wkt ?_
  (apply TO.box;exact rfl;exact rfl;exact rfl;exact rfl)
  repeat' (first|refine wkt ?_|fail|exact wkc|intro hc|refine wk2 ?_ ?_|refine wk ?_|fail)
  exact RetK.keep 1 rfl (Le.refl _) rfl rfl rfl rfl rfl ⟨rfl,rfl⟩
 ·refine hsh (operS f o.1 args) rfl ?_
  have hs:=hop rfl
  unfold ShC at hs
  rw[exC_eq]at hs
  generalize operS f o.1 args=z at*
  generalize args.map exT=la at*
  clear hop hme hca hf hg hsm hva
  refine so Tryz.func37 ?_
  refine wkt ?_
  (apply TO.box;exact rfl;exact rfl;exact rfl;exact rfl)
  repeat' (first|refine wkt ?_|refine wd hs ?_|exact wkc|intro hc|refine wk2 ?_ ?_|refine wk ?_|fail)
  exact RetK.keep 1 rfl (Le.refl _) rfl rfl rfl rfl rfl ⟨rfl,rfl⟩
 ·have hn:=h4 rfl
  obtain⟨a,b,c,rfl⟩:=len3 hn
  refine hsh ([105,102,32]++f a++[32,116,104,101,110,32]++f b++[32,101,108,115,101,32]++f c) rfl ?_
  clear hop hme hca hva h4 h5 h6 hsh
  have sa:=hf a (List.mem_cons_self ..)
  have qa:=hl a (List.mem_cons_self ..)
  have sb:=hf b (List.mem_cons_of_mem _ (List.mem_cons_self ..))
  have qb:=hl b (List.mem_cons_of_mem _ (List.mem_cons_self ..))
  have sc:=hf c (List.mem_cons_of_mem _ (List.mem_cons_of_mem _ (List.mem_cons_self ..)))
  have qc:=hl c (List.mem_cons_of_mem _ (List.mem_cons_of_mem _ (List.mem_cons_self ..)))
  clear hf hl hg hgl
  unfold ShC at*
  dsimp only[List.map]
  rw[exT_eq a,exT_eq b,exT_eq c]
  generalize f a=ga at*
  obtain⟨ka,oa,ta,va,na,la'⟩:=a
  rw[exC_eq ka]at*
  generalize la'.map exT=la at*
  generalize f b=gb at*
  obtain⟨kb,ob,tb,vb,nb,lb'⟩:=b
  rw[exC_eq kb]at*
  generalize lb'.map exT=lb at*
  generalize f c=gc at*
  obtain⟨kc,oc,tc,vc,nc,lc'⟩:=c
  rw[exC_eq kc]at*
  generalize lc'.map exT=lc at*
  refine so Tryz.func37 ?_
  refine wkt ?_
  (apply TO.box;exact rfl;exact rfl;exact rfl;exact rfl)
  repeat' (first|refine wkt ?_|exact wkc|intro hc|refine wk2 ?_ ?_|fail)
  refine rgS [wr es,.cp [T.i 4,T.n o,T.n t,T.n v,.s nm,.sl 6 [.ag [T.n ka,T.n oa,T.n ta,T.n va,.s na,.sl 6 la],.ag [T.n kb,T.n ob,T.n tb,T.n vb,.s nb,.sl 6 lb],.ag [T.n kc,T.n oc,T.n tc,T.n vc,.s nc,.sl 6 lc]]] 5,.t (.sl 6 [.ag [T.n ka,T.n oa,T.n ta,T.n va,.s na,.sl 6 la],.ag [T.n kb,T.n ob,T.n tb,T.n vb,.s nb,.sl 6 lb],.ag [T.n kc,T.n oc,T.n tc,T.n vc,.s nc,.sl 6 lc]]),.cp [T.n ka,T.n oa,T.n ta,T.n va,.s na,.sl 6 la] 0,.t (.ag [T.n ka,T.n oa,T.n ta,T.n va,.s na,.sl 6 la]),.s ga,.s ([105,102,32]++ga),.s ([105,102,32]++ga++[32,116,104,101,110,32]),wr es,.cp [T.i 4,T.n o,T.n t,T.n v,.s nm,.sl 6 [.ag [T.n ka,T.n oa,T.n ta,T.n va,.s na,.sl 6 la],.ag [T.n kb,T.n ob,T.n tb,T.n vb,.s nb,.sl 6 lb],.ag [T.n kc,T.n oc,T.n tc,T.n vc,.s nc,.sl 6 lc]]] 5,.t (.sl 6 [.ag [T.n ka,T.n oa,T.n ta,T.n va,.s na,.sl 6 la],.ag [T.n kb,T.n ob,T.n tb,T.n vb,.s nb,.sl 6 lb],.ag [T.n kc,T.n oc,T.n tc,T.n vc,.s nc,.sl 6 lc]]),.cp [T.n kb,T.n ob,T.n tb,T.n vb,.s nb,.sl 6 lb] 0,.t (.ag [T.n kb,T.n ob,T.n tb,T.n vb,.s nb,.sl 6 lb]),.s gb,.s ([105,102,32]++ga++[32,116,104,101,110,32]++gb),.s ([105,102,32]++ga++[32,116,104,101,110,32]++gb++[32,101,108,115,101,32]),wr es,.cp [T.i 4,T.n o,T.n t,T.n v,.s nm,.sl 6 [.ag [T.n ka,T.n oa,T.n ta,T.n va,.s na,.sl 6 la],.ag [T.n kb,T.n ob,T.n tb,T.n vb,.s nb,.sl 6 lb],.ag [T.n kc,T.n oc,T.n tc,T.n vc,.s nc,.sl 6 lc]]] 5,.t (.sl 6 [.ag [T.n ka,T.n oa,T.n ta,T.n va,.s na,.sl 6 la],.ag [T.n kb,T.n ob,T.n tb,T.n vb,.s nb,.sl 6 lb],.ag [T.n kc,T.n oc,T.n tc,T.n vc,.s nc,.sl 6 lc]]),.cp [T.n kc,T.n oc,T.n tc,T.n vc,.s nc,.sl 6 lc] 0,.t (.ag [T.n kc,T.n oc,T.n tc,T.n vc,.s nc,.sl 6 lc]),.s gc,.s ([105,102,32]++ga++[32,116,104,101,110,32]++gb++[32,101,108,115,101,32]++gc),.s ([105,102,32]++ga++[32,116,104,101,110,32]++gb++[32,101,108,115,101,32]++gc)] ?_ ?_
  ·repeat' (first|refine wkt ?_|refine wd sa ?_|refine wd sb ?_|refine wd sc ?_|(apply TO.indexAddr tabOk;(iterate 8 exact rfl);decide;exact rfl)|(apply TO.cat;exact rfl;exact rfl;exact rfl;(simp only[List.length_append,List.length_cons,List.length_nil];omega))|exact trivial|exact⟨⟨rfl,rfl⟩,trivial⟩|refine And.intro (fun env=>?_) ?_|refine wk ?_|exact wkc|intro hc|refine wk2 ?_ ?_|fail)
   done
  ·repeat' (first|refine wu ?_|exact wkc|intro hc|refine wk2 ?_ ?_|fail)
   exact RetK.keep 1 rfl (Le.refl _) rfl rfl rfl rfl rfl ⟨rfl,rfl⟩
 ·have hn:=h5 (.inl rfl)
  obtain⟨a,rfl⟩:=List.length_eq_one_iff.1 hn
  refine hsh ([112,114,101,32]++grS f a) rfl ?_
  clear hop hme hca hva h4 h5 h6 hsh
  have sa:=hg a (List.mem_cons_self ..)
  have qa:=hgl a (List.mem_cons_self ..)
  clear hf hl hg hgl
  unfold ShC at*
  dsimp only[List.map]
  rw[exT_eq a]
  generalize grS f a=ga at*
  obtain⟨ka,oa,ta,va,na,la'⟩:=a
  rw[exC_eq ka]at*
  generalize la'.map exT=la at*
  refine so Tryz.func37 ?_
  refine wkt ?_
  (apply TO.box;exact rfl;exact rfl;exact rfl;exact rfl)
  repeat' (first|refine wkt ?_|exact wkc|intro hc|refine wk2 ?_ ?_|fail)
  refine rgS [wr es,.cp [T.i 5,T.n o,T.n t,T.n v,.s nm,.sl 6 [.ag [T.n ka,T.n oa,T.n ta,T.n va,.s na,.sl 6 la]]] 5,.t (.sl 6 [.ag [T.n ka,T.n oa,T.n ta,T.n va,.s na,.sl 6 la]]),.cp [T.n ka,T.n oa,T.n ta,T.n va,.s na,.sl 6 la] 0,.t (.ag [T.n ka,T.n oa,T.n ta,T.n va,.s na,.sl 6 la]),.s ga,.s ([112,114,101,32]++ga),.s ([112,114,101,32]++ga)] ?_ ?_
  ·repeat' (first|refine wkt ?_|refine wd sa ?_|(apply TO.indexAddr tabOk;(iterate 8 exact rfl);decide;exact rfl)|(apply TO.cat;exact rfl;exact rfl;exact rfl;(simp only[List.length_append,List.length_cons,List.length_nil];omega))|exact trivial|exact⟨⟨rfl,rfl⟩,trivial⟩|refine And.intro (fun env=>?_) ?_|refine wk ?_|exact wkc|intro hc|refine wk2 ?_ ?_|fail)
   done
  ·repeat' (first|refine wu ?_|exact wkc|intro hc|refine wk2 ?_ ?_|fail)
   exact RetK.keep 1 rfl (Le.refl _) rfl rfl rfl rfl rfl ⟨rfl,rfl⟩
 ·have hn:=h6 (.inl rfl)
  obtain⟨a,b,rfl⟩:=len2 hn
  refine hsh (grS f a++[32,45,62,32]++grS f b) rfl ?_
  clear hop hme hca hva h4 h5 h6 hsh
  have sa:=hg a (List.mem_cons_self ..)
  have qa:=hgl a (List.mem_cons_self ..)
  have sb:=hg b (List.mem_cons_of_mem _ (List.mem_cons_self ..))
  have qb:=hgl b (List.mem_cons_of_mem _ (List.mem_cons_self ..))
  clear hf hl hg hgl
  unfold ShC at*
  dsimp only[List.map]
  rw[exT_eq a,exT_eq b]
  generalize grS f a=ga at*
  obtain⟨ka,oa,ta,va,na,la'⟩:=a
  rw[exC_eq ka]at*
  generalize la'.map exT=la at*
  generalize grS f b=gb at*
  obtain⟨kb,ob,tb,vb,nb,lb'⟩:=b
  rw[exC_eq kb]at*
  generalize lb'.map exT=lb at*
  refine so Tryz.func37 ?_
  refine wkt ?_
  (apply TO.box;exact rfl;exact rfl;exact rfl;exact rfl)
  repeat' (first|refine wkt ?_|exact wkc|intro hc|refine wk2 ?_ ?_|fail)
  refine rgS [wr es,.cp [T.i 6,T.n o,T.n t,T.n v,.s nm,.sl 6 [.ag [T.n ka,T.n oa,T.n ta,T.n va,.s na,.sl 6 la],.ag [T.n kb,T.n ob,T.n tb,T.n vb,.s nb,.sl 6 lb]]] 5,.t (.sl 6 [.ag [T.n ka,T.n oa,T.n ta,T.n va,.s na,.sl 6 la],.ag [T.n kb,T.n ob,T.n tb,T.n vb,.s nb,.sl 6 lb]]),.cp [T.n ka,T.n oa,T.n ta,T.n va,.s na,.sl 6 la] 0,.t (.ag [T.n ka,T.n oa,T.n ta,T.n va,.s na,.sl 6 la]),.s ga,.s (ga++[32,45,62,32]),wr es,.cp [T.i 6,T.n o,T.n t,T.n v,.s nm,.sl 6 [.ag [T.n ka,T.n oa,T.n ta,T.n va,.s na,.sl 6 la],.ag [T.n kb,T.n ob,T.n tb,T.n vb,.s nb,.sl 6 lb]]] 5,.t (.sl 6 [.ag [T.n ka,T.n oa,T.n ta,T.n va,.s na,.sl 6 la],.ag [T.n kb,T.n ob,T.n tb,T.n vb,.s nb,.sl 6 lb]]),.cp [T.n kb,T.n ob,T.n tb,T.n vb,.s nb,.sl 6 lb] 0,.t (.ag [T.n kb,T.n ob,T.n tb,T.n vb,.s nb,.sl 6 lb]),.s gb,.s (ga++[32,45,62,32]++gb),.s (ga++[32,45,62,32]++gb)] ?_ ?_
  ·repeat' (first|refine wkt ?_|refine wd sa ?_|refine wd sb ?_|(apply TO.indexAddr tabOk;(iterate 8 exact rfl);decide;exact rfl)|(apply TO.cat;exact rfl;exact rfl;exact rfl;(simp only[List.length_append,List.length_cons,List.length_nil];omega))|exact trivial|exact⟨⟨rfl,rfl⟩,trivial⟩|refine And.intro (fun env=>?_) ?_|refine wk ?_|exact wkc|intro hc|refine wk2 ?_ ?_|fail)
   done
  ·repeat' (first|refine wu ?_|exact wkc|intro hc|refine wk2 ?_ ?_|fail)
   exact RetK.keep 1 rfl (Le.refl _) rfl rfl rfl rfl rfl ⟨rfl,rfl⟩
 ·have hn:=h6 (.inr rfl)
  obtain⟨a,b,rfl⟩:=len2 hn
  refine hsh (grS f a++[32,102,98,121,32]++grS f b) rfl ?_
  clear hop hme hca hva h4 h5 h6 hsh
  have sa:=hg a (List.mem_cons_self ..)
  have qa:=hgl a (List.mem_cons_self ..)
  have sb:=hg b (List.mem_cons_of_mem _ (List.mem_cons_self ..))
  have qb:=hgl b (List.mem_cons_of_mem _ (List.mem_cons_self ..))
  clear hf hl hg hgl
  unfold ShC at*
  dsimp only[List.map]
  rw[exT_eq a,exT_eq b]
  generalize grS f a=ga at*
  obtain⟨ka,oa,ta,va,na,la'⟩:=a
  rw[exC_eq ka]at*
  generalize la'.map exT=la at*
  generalize grS f b=gb at*
  obtain⟨kb,ob,tb,vb,nb,lb'⟩:=b
  rw[exC_eq kb]at*
  generalize lb'.map exT=lb at*
  refine so Tryz.func37 ?_
  refine wkt ?_
  (apply TO.box;exact rfl;exact rfl;exact rfl;exact rfl)
  repeat' (first|refine wkt ?_|exact wkc|intro hc|refine wk2 ?_ ?_|fail)
  refine rgS [wr es,.cp [T.i 7,T.n o,T.n t,T.n v,.s nm,.sl 6 [.ag [T.n ka,T.n oa,T.n ta,T.n va,.s na,.sl 6 la],.ag [T.n kb,T.n ob,T.n tb,T.n vb,.s nb,.sl 6 lb]]] 5,.t (.sl 6 [.ag [T.n ka,T.n oa,T.n ta,T.n va,.s na,.sl 6 la],.ag [T.n kb,T.n ob,T.n tb,T.n vb,.s nb,.sl 6 lb]]),.cp [T.n ka,T.n oa,T.n ta,T.n va,.s na,.sl 6 la] 0,.t (.ag [T.n ka,T.n oa,T.n ta,T.n va,.s na,.sl 6 la]),.s ga,.s (ga++[32,102,98,121,32]),wr es,.cp [T.i 7,T.n o,T.n t,T.n v,.s nm,.sl 6 [.ag [T.n ka,T.n oa,T.n ta,T.n va,.s na,.sl 6 la],.ag [T.n kb,T.n ob,T.n tb,T.n vb,.s nb,.sl 6 lb]]] 5,.t (.sl 6 [.ag [T.n ka,T.n oa,T.n ta,T.n va,.s na,.sl 6 la],.ag [T.n kb,T.n ob,T.n tb,T.n vb,.s nb,.sl 6 lb]]),.cp [T.n kb,T.n ob,T.n tb,T.n vb,.s nb,.sl 6 lb] 0,.t (.ag [T.n kb,T.n ob,T.n tb,T.n vb,.s nb,.sl 6 lb]),.s gb,.s (ga++[32,102,98,121,32]++gb),.s (ga++[32,102,98,121,32]++gb)] ?_ ?_
  ·repeat' (first|refine wkt ?_|refine wd sa ?_|refine wd sb ?_|(apply TO.indexAddr tabOk;(iterate 8 exact rfl);decide;exact rfl)|(apply TO.cat;exact rfl;exact rfl;exact rfl;(simp only[List.length_append,List.length_cons,List.length_nil];omega))|exact trivial|exact⟨⟨rfl,rfl⟩,trivial⟩|refine And.intro (fun env=>?_) ?_|refine wk ?_|exact wkc|intro hc|refine wk2 ?_ ?_|fail)
   done
  ·repeat' (first|refine wu ?_|exact wkc|intro hc|refine wk2 ?_ ?_|fail)
   exact RetK.keep 1 rfl (Le.refl _) rfl rfl rfl rfl rfl ⟨rfl,rfl⟩
 ·have hn:=h5 (.inr rfl)
  obtain⟨a,rfl⟩:=List.length_eq_one_iff.1 hn
  refine hsh (grS f a++[32]++smpS es ⟨nm,t,v⟩) rfl ?_
  clear hop hme hca hva h4 h5 h6 hsh
  unfold onT at hsm
  dsimp only at hsm
  generalize smpS es ⟨nm,t,v⟩=z at*
  have sa:=hg a (List.mem_cons_self ..)
  have qa:=hgl a (List.mem_cons_self ..)
  clear hf hl hg hgl
  unfold ShC at*
  dsimp only[List.map]
  rw[exT_eq a]
  generalize grS f a=ga at*
  obtain⟨ka,oa,ta,va,na,la'⟩:=a
  rw[exC_eq ka]at*
  generalize la'.map exT=la at*
  refine so Tryz.func37 ?_
  refine wkt ?_
  (apply TO.box;exact rfl;exact rfl;exact rfl;exact rfl)
  repeat' (first|refine wkt ?_|exact wkc|intro hc|refine wk2 ?_ ?_|fail)
  refine rgS [wr es,.cp [T.i 8,T.n o,T.n t,T.n v,.s nm,.sl 6 [.ag [T.n ka,T.n oa,T.n ta,T.n va,.s na,.sl 6 la]]] 5,.t (.sl 6 [.ag [T.n ka,T.n oa,T.n ta,T.n va,.s na,.sl 6 la]]),.cp [T.n ka,T.n oa,T.n ta,T.n va,.s na,.sl 6 la] 0,.t (.ag [T.n ka,T.n oa,T.n ta,T.n va,.s na,.sl 6 la]),.s ga,.s (ga++[32]),wr es,.cp [T.i 8,T.n o,T.n t,T.n v,.s nm,.sl 6 [.ag [T.n ka,T.n oa,T.n ta,T.n va,.s na,.sl 6 la]]] 4,.s nm,.cp [T.i 8,T.n o,T.n t,T.n v,.s nm,.sl 6 [.ag [T.n ka,T.n oa,T.n ta,T.n va,.s na,.sl 6 la]]] 2,.n t,.cp [T.i 8,T.n o,T.n t,T.n v,.s nm,.sl 6 [.ag [T.n ka,T.n oa,T.n ta,T.n va,.s na,.sl 6 la]]] 3,.n v,.t (.ag [.s nm,T.n t,T.n v]),.s z,.s (ga++[32]++z),.s (ga++[32]++z)] ?_ ?_
  ·repeat' (first|refine wkt ?_|refine wd sa ?_|refine wd hsm ?_|(apply TO.indexAddr tabOk;(iterate 8 exact rfl);decide;exact rfl)|(apply TO.cat;exact rfl;exact rfl;exact rfl;(simp only[List.length_append,List.length_cons,List.length_nil];omega))|exact trivial|exact⟨⟨rfl,rfl⟩,trivial⟩|refine And.intro (fun env=>?_) ?_|refine wk ?_|exact wkc|intro hc|refine wk2 ?_ ?_|fail)
   done
  ·repeat' (first|refine wu ?_|exact wkc|intro hc|refine wk2 ?_ ?_|fail)
   exact RetK.keep 1 rfl (Le.refl _) rfl rfl rfl rfl rfl ⟨rfl,rfl⟩
 ·refine hsh (mergeA es f t.1 args ([109,101,114,103,101,32]++nm) args.length) rfl ?_
  have hs:=hme rfl
  unfold ShC at hs
  rw[exC_eq]at hs
  generalize mergeA es f t.1 args ([109,101,114,103,101,32]++nm) args.length=z at*
  generalize args.map exT=la at*
  clear hop hme hca hf hg hsm hva
  refine so Tryz.func37 ?_
  refine wkt ?_
  (apply TO.box;exact rfl;exact rfl;exact rfl;exact rfl)
  repeat' (first|refine wkt ?_|refine wd hs ?_|exact wkc|intro hc|refine wk2 ?_ ?_|refine wk ?_|fail)
  exact RetK.keep 1 rfl (Le.refl _) rfl rfl rfl rfl rfl ⟨rfl,rfl⟩
 ·refine hsh (callA f v.1 nm args) rfl ?_
  have hs:=hca rfl
  unfold ShC at hs
  rw[exC_eq]at hs
  generalize callA f v.1 nm args=z at*
  generalize args.map exT=la at*
  clear hop hme hca hf hg hsm hva
  refine so Tryz.func37 ?_
  refine wkt ?_
  (apply TO.box;exact rfl;exact rfl;exact rfl;exact rfl)
  repeat' (first|refine wkt ?_|refine wd hs ?_|exact wkc|intro hc|refine wk2 ?_ ?_|refine wk ?_|fail)
  exact RetK.keep 1 rfl (Le.refl _) rfl rfl rfl rfl rfl ⟨rfl,rfl⟩
 ·refine hsh ([39]++nm++[39]) rfl ?_
  generalize args.map exT=la at*
  clear hop hme hca hf hg hsm hva
  refine so Tryz.func37 ?_
  refine wkt ?_
  (apply TO.box;exact rfl;exact rfl;exact rfl;exact rfl)
  repeat' (first|refine wkt ?_|(apply TO.cat;exact rfl;exact rfl;exact rfl;(simp only[List.length_append,List.length_cons,List.length_nil];omega))|exact wkc|intro hc|refine wk2 ?_ ?_|refine wk ?_|fail)
  exact RetK.keep 1 rfl (Le.refl _) rfl rfl rfl rfl rfl ⟨rfl,rfl⟩
theorem exprW_sound{es:List En}(h:ShE es):∀(m:Nat) (e:Ex),ShOk e->wEx e≤m->m≤80000->ShC 37 es e (shF es m e)
 | 0,e,_,hm,_=>by have:=wEx_pos e;omega
 | m+1,e,he,hm,hb=>by
   rw[shF]
   refine exprStep h he.self (fun x hx=>exprW_sound h m x (he.arg hx) (by have:=wEx_arg hx;omega) (by omega)) fun x hx=>?_
   have h1:=shF_len h m x (he.arg hx)
   have h2:wEx x≤80000:=by have:=wEx_arg hx;omega
   have h3:wEx x*12000100≤80000*12000100:=Nat.mul_le_mul_right _ h2
   omega
theorem shA_of{e:Ex}(h:oneX e=0)(hnm:e.name.length≤3000000):ShA e:=by
 have hfew:e.args.length≤64:=by
  unfold oneX oneI at h
  split at h
  ·cases h
  ·omega
 unfold oneX at h
 rw[oneI_eq _ _ _ _ _ _ (by omega)]at h
 have hf:formI e.kind.1 e.op.1 e.t.1 e.v.1 e.name e.args.length=true:=by
  cases hq:formI e.kind.1 e.op.1 e.t.1 e.v.1 e.name e.args.length with
  | true=>rfl
  | false=>rw[hq]at h;simp at h;split at h <;> simp at h
 clear h
 unfold formI at hf
 split at hf
 ·cases hf
 rename_i h1
 have ha:argsI e.kind.1 e.op.1 e.t.1 e.v.1 e.args.length=true:=by
  cases hq:argsI e.kind.1 e.op.1 e.t.1 e.v.1 e.args.length with
  | true=>rfl
  | false=>exact absurd (.inr (.inr hq)) h1
 split at hf
 ·cases hf
 rename_i h2
 split at hf
 ·cases hf
 unfold argsI at ha
 refine⟨hfew,hnm,by omega,fun hk ht=>?_,fun hk=>?_,fun hk=>?_,fun hk=>?_,fun hk=>?_,fun hk=>?_,fun hk ht=>?_,fun hk=>?_⟩
 ·rw[hk,ht]at hf
  simp at hf
  omega
 ·rw[hk]at ha h2
  simp at ha h2
  unfold opdI
  split at ha
  ·rename_i h3
   rw[if_pos h3]
   omega
  ·rename_i h3
   rw[if_neg h3]
   omega
 ·rw[hk]at ha;simp at ha;omega
 ·rcases hk with hk|hk <;> rw[hk]at ha <;> simp at ha <;> omega
 ·rcases hk with hk|hk <;> rw[hk]at ha <;> simp at ha <;> omega
 ·rcases hk with hk|hk
  ·rw[hk]at hf
   simp[tagI]at hf
   omega
  ·rw[hk]at hf
   simp at hf
   omega
 ·rw[hk,ht]at ha;simp at ha;omega
 ·rw[hk]at hf ha
  simp at hf ha
  omega
theorem shOk_of{es:List En}{e:Ex}(h:exprX es e=0)(hn:∀x∈flat e,x.name.length≤3000000):ShOk e/\wEx e≤400:=by
 unfold exprX at h
 split at h
 ·rename_i hc
  unfold checkX at hc
  split at hc
  ·cases hc
  ·rename_i hd
   exact⟨fun x hx=>shA_of (firstE_zero hc x hx) (hn x hx),by omega⟩
 ·rename_i hc;exact absurd h hc
theorem hands_sym(b:Blk):Hands [b,symB] [1] [symB]:=by
 refine⟨by decide,by simp,rfl,fun j i c hj hc=>?_,fun j c hc=>?_⟩
 ·cases j with
  | zero=>simp at hj hc;subst hj hc;rfl
  | succ j=>simp at hj
 ·cases j with
  | zero=>simp at hc;subst hc;rfl
  | succ j=>simp at hc
section rules
variable {n:Nat}{env:Env}{H:Heap}{K:TK}{all:Array Oper}{rest:List Oper}{d:Nat}{ty:TypeId}{pos:String}{aft:Array Edge}
theorem TO.newW{es:List En}{f:Operand}{args:Array Operand}{ts:Array TypeId}(hd:Nat.ble (d+1) n=true)(hf:env.val f=some (.fn 23 []))(ha:env.vals args.toList=some [.t (ensT es)])
  (k:TO false Tryz.prog n all rest ((d,.ag [.t (ensT es),.mp (H.length+1)])::env) (H++[.cells [.t (ensT es),.mp (H.length+1)],symB]) K):
  TO false Tryz.prog n all (⟨some d,.call { callee:=.value f,args:=args,argTypes:=ts },ty,pos,aft,none⟩::rest) env H K:=
 TO.call1 [] (newWriter_sound es) hd hf ha (Les.refl _) rfl (hands_none H) (by simp[SV.ren,names,rens]) (by
  simp[patch,Blk.ren,names,rens,SV.ren]) k
theorem TO.wrC{es:List En}{b:Blk}{fid:FuncId}{x:T}{s:Str}{f:Operand}{args:Array Operand}{ts:Array TypeId}(hs:Sound Tryz.prog fid [wr es,.t x] [symB] (fun r H'=>r= .ret (.s s)/\H'=[symB]))(hd:Nat.ble (d+1) n=true)(hf:env.val f=some (.fn fid []))(ha:env.vals args.toList=some [.ag [.t (ensT es),.mp 1],.t x])
  (k:TO false Tryz.prog n all rest ((d,.s s)::env) [b,symB] K):
  TO false Tryz.prog n all (⟨some d,.call { callee:=.value f,args:=args,argTypes:=ts },ty,pos,aft,none⟩::rest) env [b,symB] K:=
 TO.call1 [1] hs hd hf ha (Les.refl _) rfl (hands_sym b) rfl rfl k
end rules
def showE(es:List En)(e:Ex):Str×Int:=if exprX es e=0 then(shF es 400 e,0) else([],exprX es e)
set_option maxHeartbeats 4000000 in
theorem showE_sound {es:List En} (h:ShE es) (e:Ex) (hw:wEx e≤1000000000) (hn:∀x∈flat e,x.name.length≤3000000):Pure Tryz.prog 13 [.t (ensT es),.t (.ag (exC e))] (.tup [.s (showE es e).1,.i (showE es e).2]):=by
 have hx:=exprX_sound es e hw
 rw[exT_eq]at hx
 have he:exC e=[T.n e.kind,T.n e.op,T.n e.t,T.n e.v,.s e.name,.sl 6 (e.args.map exT)]:=rfl
 unfold showE
 by_cases hz:exprX es e=0
 ·rw[if_pos hz]
  obtain⟨g1,g2⟩:=shOk_of hz hn
  have hs:=exprW_sound h 400 e g1 g2 (by decide)
  unfold ShC at hs
  rw[hz]at hx
  generalize shF es 400 e=z at*
  rw[he]at*
  refine so Tryz.func13 ?_
  repeat' (first|refine wkt ?_|refine wv hx ?_|exact wkc|intro hc|refine wk2 ?_ ?_|fail)
  refine TR.regionM (envF:=?envF) (HF:=[.cells [.t (ensT es),.mp 1],symB]) [(.t (ensT es),false),(.ag [.t (ensT es),.mp 1],true),(.t (.ag [T.n e.kind,T.n e.op,T.n e.t,T.n e.v,.s e.name,.sl 6 (e.args.map exT)]),false),(.s z,true),(.s z,false),(.i 0,false)] [[],[.cells [.t (ensT es),.mp 1],symB],[.cells [.t (ensT es),.mp 1],symB]] hmix ?hB rfl ?hp rfl ?hE ?hK
  case hB=>(dsimp only[List.map];decide +kernel)
  case hE=>exact rfl
  case hp=>
   repeat' (first|(apply TO.newW;exact rfl;exact rfl;exact rfl)|(apply TO.wrC hs;exact rfl;exact rfl;exact rfl)|refine wkt ?_|exact trivial|exact⟨rfl,rfl⟩|refine And.intro (fun H env=>?_) ?_|refine And.intro (fun env=>?_) ?_|refine wk ?_|fail)
  case hK=>
   repeat' (first|refine wu ?_|exact wkc|intro hc|refine wk2 ?_ ?_|fail)
   exact wkr
 ·rw[if_neg hz]
  generalize exprX es e=c at*
  rw[he]at*
  refine so Tryz.func13 ?_
  repeat' (first|refine wu ?_|exact wkc|intro hc|refine wk2 ?_ ?_|refine wv hx ?_|fail)
  exact wkr
def showC(es:List En)(ck:List OnC):Str×Int:=if(ck.all fun o=>hasT es o.t.1 o.tag.1)=true then(clockS es ck,0) else([],5)
theorem clk_has{es:List En}{ck:List OnC}{j:Nat}(hlt:j<ck.length)(hh:¬hasT es ck[j].t.1 ck[j].tag.1=true):showC es ck=([],5):=by
 unfold showC
 rw[if_neg]
 intro hall
 exact hh (List.all_eq_true.1 hall _ (List.getElem_mem hlt))
set_option maxHeartbeats 4000000 in
theorem showC_sound {es:List En} (h:ShE es) (ck:List OnC) (hn:∀o∈ck,o.name.length≤3000000) (hl:ck.length≤1000000):Pure Tryz.prog 15 [.t (ensT es),.t (.sl 3 (ck.map onT))] (.tup [.s (showC es ck).1,.i (showC es ck).2]):=by
 have hml:(ck.map onT).length=ck.length:=List.length_map _
 have hs:=clockW_sound h ck hn hl
 refine so Tryz.func15 ?_
 repeat' (first|refine wu ?_|exact wkc|intro hc|refine wk2 ?_ ?_|fail)
 refine TR.loopN ck.length (fun j=>((ck.take j).all fun o=>hasT es o.t.1 o.tag.1)=true) (fun j=>[(0,.t (ensT es)),(1,.t (.sl 3 (ck.map onT))),(8,.t (.sl 3 (ck.map onT))),(9,.i ck.length),(10,.i j)]) (fun j=>[]) rfl (fun j hlt ha=>?_) (fun ha=>?_) ⟨rfl,rfl,rfl,by rw[<-hml];rfl,rfl,trivial⟩ rfl
 ·have hx:=at_map onT hlt
  have htk:=take_at hlt
  have hh:=has_sound es ck[j].t ck[j].tag
  have hbad:=fun hq=>clk_has (es:=es) hlt hq
  have hgood:hasT es ck[j].t.1 ck[j].tag.1=true->((ck.take (j+1)).all fun o=>hasT es o.t.1 o.tag.1)=true:=fun hq=>by
   rw[htk,List.all_append,ha]
   simpa using hq
  generalize hb:hasT es ck[j].t.1 ck[j].tag.1=b at*
  generalize showC es ck=sc at*
  generalize ck[j]=o at*
  obtain⟨nm,t,v⟩:=o
  dsimp only[onT]at hx hh
  cases b with
  | true=>
    repeat' (first|refine wu ?_|exact wkc|intro hc|refine wk2 ?_ ?_|refine wv hh ?_|fail)
    exact LoopK.nextN hlt (hgood rfl) ⟨rfl,rfl,rfl,rfl,rfl,trivial⟩ rfl
  | false=>
    rw[hbad (by decide)]
    repeat' (first|refine wu ?_|exact wkc|intro hc|refine wk2 ?_ ?_|refine wv hh ?_|fail)
    exact wkr
 ·rw[List.take_length]at ha
  unfold showC
  rw[if_pos ha]
  generalize clockS es ck=z at*
  repeat' (first|refine wkt ?_|(apply TO.newW;exact rfl;exact rfl;exact rfl)|(apply TO.wrC hs;exact rfl;exact rfl;exact rfl)|refine LoopK.exit ?_|exact wkc|intro hc|refine wk2 ?_ ?_|refine wk ?_|fail)
  exact wkr
end Go.Proofs.YtjgmcnemcembmaaGreatDoor
